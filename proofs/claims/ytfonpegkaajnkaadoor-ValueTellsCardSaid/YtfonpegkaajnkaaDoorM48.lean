/-
  OPENING AND SHUTTING an argument of type api.Value.
-/
import Derived.Test.YtfonpegkaajnkaaDoorM47
import Derived.Test.YtfonpegkaajnkaaDoorM35
import Derived.Deep.Strs
/-
  OPENING AND SHUTTING an argument of type api.Value.
-/
namespace Go.Proofs.YtfonpegkaajnkaaDoor.Va
open Go.ChangeShapes Go.WideShapes Go.ChangeAt Go.RowKit Go.Joins Go.Deep

section
variable {H : Type} {enc : TypeId × Value → H} {w : World} {base : Nat} {spare : Nat → Bool} {held : Bool}
set_option maxRecDepth 100000 in
theorem open_val {r : Reach} {b0 : Nat} {v : Value} {d : DataW H} {p : List MemPlace} (hv : Value.okWide Tryd.prog w r b0 27 v) (h : DataW.Trod enc Tryd.prog w base spare held 27 v d p) :
    ∃ x : V, v = .agg #[.int .u8 x.k, .int .i64 x.c, .int .i64 x.s, .int .i64 x.e] ∧ d = .agg [.lit (.int .u8 x.k), .agg [.lit (.int .i64 x.c), .lit (.int .i64 x.s)], .lit (.int .i64 x.e)] ∧ p = [] ∧ x.ok := by
  obtain ⟨cs, rfl, hsz⟩ := okWide_struct Tryd.underlying27 hv
  have c1 : Tryd.prog.cellsOf 27 = 4 := by kernel_rfl
  have c2 : Tryd.prog.cellsOf 24 = 2 := by kernel_rfl
  have c3 : Tryd.prog.cellsOf 5 = 1 := by kernel_rfl
  have c4 : Tryd.prog.cellsOf 25 = 1 := by kernel_rfl
  have c5 : Tryd.prog.cellsOf 3 = 1 := by kernel_rfl
  have c6 : Tryd.prog.cellsOf 2 = 1 := by kernel_rfl
  obtain ⟨a0, a1, a2, a3, rfl⟩ := array4 (hsz.trans c1)
  obtain ⟨fuel, hf⟩ := h
  obtain ⟨y0, y1, y2, n, hx, _, h0, h1, h2⟩ := trod_struct3 Tryd.underlying27 hf
  simp [Value.cells, c2, c3, c4] at h0 h1 h2
  obtain ⟨z0, z1, m, hz, _, g0, g1⟩ := trod_struct2 Tryd.underlying24 h1
  simp [c5, c6] at g0 g1
  obtain ⟨k, e0, rfl, w0⟩ := DataW.trod_int Tryd.underlying5 h0
  obtain ⟨c, e1, rfl, w1⟩ := DataW.trod_int Tryd.underlying2 g0
  obtain ⟨s, e2, rfl, w2⟩ := DataW.trod_int Tryd.underlying3 g1
  obtain ⟨e, e3, rfl, w3⟩ := DataW.trod_int Tryd.underlying25 h2
  simp only [List.cons.injEq, and_true] at e0 e1 e2 e3
  subst e0 e1 e2 e3 hz
  have b1 := bounds_i64 w1
  have b2 := bounds_i64 w2
  have b3 := bounds_i64 w3
  simp only [Prod.mk.injEq] at hx
  refine ⟨⟨k, c, s, e⟩, rfl, hx.1, hx.2, ?_, show fits c from ⟨by omega, by omega⟩, show fits s from ⟨by omega, by omega⟩, show fits e from ⟨by omega, by omega⟩⟩
  simp [Lit.wf, IntKind.has, IntKind.min, IntKind.max, IntKind.signed, IntKind.bits] at w0
  show 0 ≤ k ∧ k ≤ 255
  omega
set_option maxRecDepth 100000 in
theorem shut_val {x : V} (hx : x.ok) :
    DataW.Trod enc Tryd.prog w base spare held 27 (.agg #[.int .u8 x.k, .int .i64 x.c, .int .i64 x.s, .int .i64 x.e]) (.agg [.lit (.int .u8 x.k), .agg [.lit (.int .i64 x.c), .lit (.int .i64 x.s)], .lit (.int .i64 x.e)]) [] := by
  have c1 : Tryd.prog.cellsOf 27 = 4 := by kernel_rfl
  have c2 : Tryd.prog.cellsOf 24 = 2 := by kernel_rfl
  have c3 : Tryd.prog.cellsOf 5 = 1 := by kernel_rfl
  have c4 : Tryd.prog.cellsOf 25 = 1 := by kernel_rfl
  have c5 : Tryd.prog.cellsOf 3 = 1 := by kernel_rfl
  have c6 : Tryd.prog.cellsOf 2 = 1 := by kernel_rfl
  obtain ⟨h0, h1, h2, h3⟩ := hx
  have w0 : (Lit.int .u8 x.k).wf = true := by simp [Lit.wf, IntKind.has, IntKind.min, IntKind.max, IntKind.signed, IntKind.bits]; omega
  have t0 : ∀ n, DataW.trod enc Tryd.prog w base spare held (n + 1) 5 [.int .u8 x.k] = some (.lit (.int .u8 x.k), []) := fun n => by simp [DataW.trod, Tryd.underlying5, w0]
  have t1 : ∀ n, DataW.trod enc Tryd.prog w base spare held (n + 1) 2 [.int .i64 x.c] = some (.lit (.int .i64 x.c), []) := fun n => by simp [DataW.trod, Tryd.underlying2, wf_fits h1]
  have t2 : ∀ n, DataW.trod enc Tryd.prog w base spare held (n + 1) 3 [.int .i64 x.s] = some (.lit (.int .i64 x.s), []) := fun n => by simp [DataW.trod, Tryd.underlying3, wf_fits h2]
  have t3 : ∀ n, DataW.trod enc Tryd.prog w base spare held (n + 1) 25 [.int .i64 x.e] = some (.lit (.int .i64 x.e), []) := fun n => by simp [DataW.trod, Tryd.underlying25, wf_fits h3]
  have tn := trod_struct2_mk (enc := enc) (w := w) (base := base) (spare := spare) (held := held) (n := 1) (cs := [.int .i64 x.c, .int .i64 x.s]) Tryd.underlying24 (by simp [c2]) (by simpa [c6] using t1 0) (by simpa [c5] using t2 0)
  have ts := trod_struct3_mk (enc := enc) (w := w) (base := base) (spare := spare) (held := held) (n := 2) (cs := [.int .u8 x.k, .int .i64 x.c, .int .i64 x.s, .int .i64 x.e]) Tryd.underlying27 (by simp [c1]) (by simpa [c3] using t0 1) (by simpa [c2] using tn) (by simpa [c4] using t3 1)
  exact ⟨_, by simpa [Value.cells] using ts⟩
end
end Go.Proofs.YtfonpegkaajnkaaDoor.Va
