/-
  DectextParse: walked; What the rows' condition gives: the library's table, its number, its error.
-/
import Derived.Test.YtbcnbahfjpgmaaaDoorM46
import Derived.Test.YtbcnbahfjpgmaaaDoorM47
import Derived.Test.YtbcnbahfjpgmaaaDoorRows
import Derived.Test.YtbcnbahfjpgmaaaDoorM4
import Derived.Lib.LaidTab
import Derived.LaidSub
import Derived.Shelf.Vars
/-
  DectextParse: walked.
-/
namespace Go.Proofs.YtbcnbahfjpgmaaaDoor.Tx
open Go Go.RowKit Dt
set_option linter.unusedSimpArgs false
set_option linter.unusedVariables false
attribute [local go_sem ↓] Go.wp_at_zero Go.wp_at_succ

theorem drparse_at {l : List UInt8} {a b e : Int} (h : dparse l = ((a, b), e)) (hl : l.length ≤ 1000) (w : World) : Calls Tryd.prog 12 #[.string (bs l)] w fun e' w' => e' = .returned (.tuple #[.agg #[.int .i64 a, .int .i64 b], .int .i64 e]) ∧ Below w.heap.size w w' := by
  have := drparse_is (w := w) l hl
  unfold DpPost at this
  rw [h] at this
  exact this
set_option maxRecDepth 100000 in
set_option maxHeartbeats 4000000 in
theorem parse_law {w : World} (s : ByteArray) (he : Env w) : Calls Tryd.prog 4 #[.string s] w fun e w' => e = .returned (.bool true) ∧ Below w.heap.size w w' := by
  obtain ⟨l, rfl⟩ : ∃ l, bs l = s := ⟨_, bs_of s⟩
  have hz : (bs l).size = l.length := bs_size l
  obtain ⟨N, hN⟩ : ∃ N, Hid (l.length = N) := ⟨_, rfl⟩
  rw [hN.out] at hz
  have HE := Lib.hid he
  by_cases h100 : 100 < N
  · have d1 : decide (100 < N) = true := by simpa using h100
    have d2 : decide (100 < (N : Int)) = true := by simp; omega
    have K := known_is he
    obtain ⟨S, hS⟩ : ∃ S, Hid (bs l = S) := ⟨_, rfl⟩
    rw [hS.out] at hz ⊢
    clear h100 he hS
    go_enter Tryd.func4, Tryd.ntmps4
    go_wp2_with (go_at_call 9; (with_reducible refine K.mono ?_); rintro e w1 ⟨rfl, b1⟩; have B1 := Lib.hid b1; clear b1)
    go_ret
    exact ⟨rfl, B1.out⟩
  · have d1 : decide (100 < N) = false := by simpa using h100
    have d2 : decide (100 < (N : Int)) = false := by simp; omega
    obtain ⟨x1, x2, g, h2⟩ : ∃ f t e, dparse l = ((f, t), e) := ⟨_, _, _, rfl⟩
    have A3 := dparse_at h2 (by rw [hN.out]; omega) w he
    have A4 := fun w => drparse_at h2 (by rw [hN.out]; omega) w
    obtain ⟨S, hS⟩ : ∃ S, Hid (bs l = S) := ⟨_, rfl⟩
    rw [hS.out] at hz A3 A4 ⊢
    clear h100 he hS h2
    go_enter Tryd.func4, Tryd.ntmps4
    go_upto_region 5 with (first | (go_at_call 10; (with_reducible refine A3.mono ?_); rintro e3 w3 ⟨rfl, b3⟩; have B3 := Lib.hid b3; clear b3 A3) | (go_at_call 12; (with_reducible refine (A4 _).mono ?_); rintro e4 w4 ⟨rfl, b4⟩; have B4 := Lib.hid (bt B3.out (bt (ba _ _) b4)); have T4 := Lib.hid ((Two.new w3 x1 x2).below b4); clear b4 A4))
    have K := known_is (w := w4.alloc (.cells #[.int .i64 x1, .int .i64 x2] 23)) ((HE.out.below B4.out).below (ba _ _))
    have B5 := Lib.hid (bt B4.out (ba w4 (.cells #[.int .i64 x1, .int .i64 x2] 23)))
    have X5 := T4.out.below (Below.mono (ba w4 (.cells #[.int .i64 x1, .int .i64 x2] 23)) (Nat.le_refl _))
    have Y5 := Two.new w4 x1 x2
    have c0 := X5.c0; have c1 := X5.c1; have e0 := Y5.c0; have e1 := Y5.c1
    obtain ⟨wz, hwz⟩ : ∃ v, Hid (v = w4.alloc (.cells #[.int .i64 x1, .int .i64 x2] 23)) := ⟨_, rfl⟩
    rw [← hwz.out] at K B5 c0 c1 e0 e1 ⊢
    clear hwz X5 Y5 T4 B4 B3
    go_wp2_with (go_at_call 9; (with_reducible refine K.mono ?_); rintro e6 w6 ⟨rfl, b6⟩; have B6 := Lib.hid (bt B5.out b6); clear b6 K)
    go_ret
    exact ⟨rfl, B6.out⟩
end Go.Proofs.YtbcnbahfjpgmaaaDoor.Tx
/-
  What the rows' condition gives: the library's table, its number, its error.
-/
namespace Go.Proofs.YtbcnbahfjpgmaaaDoor.Tx
open Go Go.RowKit
theorem iface_of_trod {H : Type} {enc : TypeId × Value → H} {P : Program} {w : World} {base : Nat} {sp : Nat → Bool} {held : Bool} {fuel : Nat} {t : TypeId} {cs : List Value} {x} {n : String} {d : DataW H} {p : List MemPlace}
    (ht : P.underlying t = some (.interface x)) (h : DataW.trod enc P w base sp held fuel t cs = some (.iface n d, p)) : ∃ u v, cs = [.iface u v] := by
  cases fuel with
  | zero => simp [DataW.trod] at h
  | succ fuel =>
    match cs, h with
    | [], h => simp [DataW.trod, ht] at h
    | [v], h => cases v <;> simp [DataW.trod, ht] at h ⊢
    | a :: b :: r, h => simp [DataW.trod, ht] at h
theorem iface_of_head {P : Program} {W : World} {name : String} {n : String} {d : DataW Unit} {rest : List (String × DataW Unit)} {g : Nat} {t : TypeId} {x}
    (hg : P.globalNamed name = some g) (hty : (P.globals[g]?).map (·.type) = some t) (ht : P.underlying t = some (.interface x))
    (h : laidMet P ((name, .iface n d) :: rest) W) : ∃ u v, W.cell? ⟨g, 0, none⟩ = some (.iface u v) := by
  obtain ⟨ps, ⟨g', t', cs, fuel, p, q, hg', ht', hvar, hd, _, _⟩, _⟩ := h
  obtain rfl := Option.some.inj (hg.symm.trans hg')
  obtain rfl := Option.some.inj (hty.symm.trans ht')
  obtain ⟨u, v, hcs⟩ := iface_of_trod ht hd
  refine ⟨u, v, ?_⟩
  have e : cs = #[.iface u v] := Array.ext' hcs
  rw [e] at hvar
  exact World.var?_cell hg hvar 0
theorem env_of {W : World} (hL : laidMetH Tryd.prog Rows.dectextTextRow.laid W) (hS : W.ShapedOpen Tryd.prog) : Env W := by
  refine ⟨?_, ?_, ?_⟩
  · have h1 : laidMetH Tryd.prog [("internal/strconv.uint64pow10", Rows.laid_internal_strconv_uint64pow10)] W := laidMetH.filter (fun x => x.1 == "internal/strconv.uint64pow10") hL
    exact Lib.tabIs_of_head (rest := []) gTab (by kernel_rfl) Tryd.underlying99 Tryd.underlying41 (by kernel_rfl) (by kernel_rfl) h1
  · exact cell_of_shapedOpen_int (zero := #[.int .i64 0]) (t := 3) hS (of_decide_eq_true (by kernel_rfl)) (by kernel_rfl) (by kernel_rfl) (by kernel_rfl) (by kernel_rfl) Tryd.underlying3
  · have h1 : laidMetH Tryd.prog [("strconv.ErrRange", Rows.laid_strconv_ErrRange)] W := laidMetH.filter (fun x => x.1 == "strconv.ErrRange") hL
    exact iface_of_head (rest := []) (show Tryd.prog.globalNamed "strconv.ErrRange" = some 3 by kernel_rfl) (by kernel_rfl) Tryd.underlying47 h1
end Go.Proofs.YtbcnbahfjpgmaaaDoor.Tx
