/-
  Rows of whole numbers; The law ProrateShares, walked; OPENING AND SHUTTING an argument of type api.Dec; OPENING an argument of type []int.
-/
import Derived.Test.YtngelemjpgglpaaM31
import Derived.Test.YtngelemjpgglpaaM34
import Derived.Test.YtngelemjpgglpaaM39
import Derived.Test.YtngelemjpgglpaaM12
import Derived.ProofKit
import Derived.OpenShut
import Derived.Lib.SmallJoins
import Derived.Deep.Slices
import Derived.Deep.Strs
/-
  Rows of whole numbers.
-/
namespace Go.Proofs.Ytngelemjpgglpaa
open Go Go.RowKit
def intE : Elem Try.prog Int where
  sl := 24
  e := 3
  sz := 1
  bytes := 8
  z := .int .i64 0
  enc := fun x => [.int .i64 x]
  und := Try.underlying24
  info := by kernel_rfl
  zs := rfl
  pos := by decide
  len := fun _ => rfl
  one := fun x u hu => by simp only [List.mem_cons, List.not_mem_nil, or_false] at hu; rcases hu with rfl; rfl
end Go.Proofs.Ytngelemjpgglpaa
/-
  The law ProrateShares, walked.
-/
namespace Go.Proofs.Ytngelemjpgglpaa.Pro
open Go Go.RowKit
set_option linter.unusedSimpArgs false
set_option linter.unusedVariables false
attribute [local go_sem ↓] Go.wp_at_zero Go.wp_at_succ

theorem argI_of {w : World} {v : Value} {ws : List Int} (h : intE.Arg w v ws) : ArgI w v ws := by
  obtain ⟨ao, cap, e, hc, h⟩ := h
  refine ⟨ao, cap, e, hc.1, fun i x hx => ?_⟩
  obtain ⟨b, o, h1, h2, h3⟩ := h i x hx
  refine ⟨b, o, h1, h2, ?_⟩
  have := h3 0 _ rfl
  rw [show o + i * intE.sz + 0 = o + i from by show o + i * 1 + 0 = _; omega] at this
  exact this
set_option maxRecDepth 100000 in
set_option maxHeartbeats 2000000 in
theorem sharesLaw_big (c n s : Int) (v : Value) (ws : List Int) (w : World) (ha : intE.Arg w v ws) (hl : (60 < ws.length ∧ ws.length ≤ 1000) ∨ 1005 < ws.length) :
    Calls Try.prog 3 #[.agg #[.int .i64 c, .int .i64 n], .int .i64 s, v] w fun e w' => e = .returned (.bool true) ∧ Below w.heap.size w w' := by
  obtain ⟨ao, cap, rfl, hcap, hcell⟩ := id ha
  have KN := known_is (w.alloc (.cells #[.int .i64 c, .int .i64 n] 23))
  clear hcell ha
  by_cases h1 : 1005 < ws.length
  · have d1 : decide (60 < (ws.length : Int)) = true := by simp; omega
    have d2 : decide ((ws.length : Int) ≤ 1000) = false := by simp; omega
    have d3 : decide (1005 < (ws.length : Int)) = true := by simp; omega
    have e1 : decide (60 < ws.length) = true := by simp; omega
    have e2 : decide (ws.length ≤ 1000) = false := by simp; omega
    have e3 : decide (1005 < ws.length) = true := by simp; omega
    clear hl h1
    go_enter Try.func3, Try.ntmps3
    go_wp2_with (go_at_call 6; (with_reducible refine KN.mono ?_); rintro e w2 ⟨rfl, b2⟩; have B2 := Lib.hid (bt (ba w _) b2); clear b2 KN)
    go_ret
    exact ⟨rfl, B2.out⟩
  · have d1 : decide (60 < (ws.length : Int)) = true := by simp; omega
    have d2 : decide ((ws.length : Int) ≤ 1000) = true := by simp; omega
    have e1 : decide (60 < ws.length) = true := by simp; omega
    have e2 : decide (ws.length ≤ 1000) = true := by simp; omega
    clear hl h1
    go_enter Try.func3, Try.ntmps3
    go_wp2_with (go_at_call 6; (with_reducible refine KN.mono ?_); rintro e w2 ⟨rfl, b2⟩; have B2 := Lib.hid (bt (ba w _) b2); clear b2 KN)
    go_ret
    exact ⟨rfl, B2.out⟩
set_option maxRecDepth 100000 in
set_option maxHeartbeats 4000000 in
theorem sharesLaw_small (c n s : Int) (v : Value) (ws : List Int) (w : World) (hc : fits c) (ha : intE.Arg w v ws) (hl : ¬ ((60 < ws.length ∧ ws.length ≤ 1000) ∨ 1005 < ws.length)) :
    Calls Try.prog 3 #[.agg #[.int .i64 c, .int .i64 n], .int .i64 s, v] w fun e w' => e = .returned (.bool true) ∧ Below w.heap.size w w' := by
  obtain ⟨ao, cap, rfl, hcap, hcell⟩ := id ha
  have HL : Hid (ws.length ≤ 1005) := by show _ ≤ _; omega
  have d3 : decide (1005 < (ws.length : Int)) = false := by simp; omega
  have e3 : decide (1005 < ws.length) = false := by simp; omega
  obtain ⟨p, hp⟩ : ∃ b, Hid (decide (60 < (ws.length : Int)) = b) := ⟨_, rfl⟩
  have D : ∃ p q : Bool, decide (60 < (ws.length : Int)) = p ∧ decide (60 < ws.length) = p ∧ decide ((ws.length : Int) ≤ 1000) = q ∧ decide (ws.length ≤ 1000) = q ∧ (p && q) = false := by
    by_cases h : 60 < ws.length
    · exact ⟨true, false, by simp; omega, by simp; omega, by simp; omega, by simp; omega, rfl⟩
    · exact ⟨false, true, by simp; omega, by simp; omega, by simp; omega, by simp; omega, rfl⟩
  have HC := Lib.hid hc; have HA := Lib.hid ha
  have X0 := Lib.hid (dAt_new w c n)
  have B0 := Lib.hid (ba w (.cells #[.int .i64 c, .int .i64 n] 23))
  obtain ⟨w0, hw0⟩ : ∃ x, Hid (x = w.alloc (.cells #[.int .i64 c, .int .i64 n] 23)) := ⟨_, rfl⟩
  clear hcell ha hl hp p
  go_enter Try.func3, Try.ntmps3
  go_upto_region 1 with fail
  rw [← hw0.out] at X0 B0 ⊢
  obtain ⟨i0, hi0⟩ : ∃ k, Hid (w.heap.size = k) := ⟨_, rfl⟩
  rw [hi0.out] at X0 ⊢
  have A0 := Lib.hid (Elem.Arg.below HA.out B0.out)
  clear hw0 HA
  have RE := Lib.hid (Elem.row_empty (E := intE) (w := w0) 3 rfl)
  have b1 := ba w0 (.cells #[] 3)
  have A1 := Lib.hid (Elem.Arg.below A0.out b1); have X1 := Lib.hid (DAt.below X0.out b1); have B1 := Lib.hid (bt B0.out b1)
  have HLN : Hid (([] : List Int).length + ws.length ≤ 1000001) := by show _ ≤ _; have := HL.out; simp; omega
  have HB : Hid (w0.heap.size ≤ (w0.alloc (.cells #[] 3)).heap.size) := b1.size
  clear b1
  go_cut [25] (fun s wx => s = .bool false ∧ wx = w0)
  case first =>
    obtain ⟨p, q, f1, f2, f3, f4, f5⟩ := D
    cases p <;> cases q
    · go_wp2_with fail
      go_meet
      case rel => exact ⟨rfl, rfl⟩
    · go_wp2_with fail
      go_meet
      case rel => exact ⟨rfl, rfl⟩
    · go_wp2_with fail
      go_meet
      case rel => exact ⟨rfl, rfl⟩
    · cases f5
  case rest =>
    obtain ⟨rfl, rfl⟩ := hcut
    go_upto_region 4 with (at_builtin; go_loud (refine Elem.app (E := intE) rfl _ _ rfl wc.heap.size _ _ _ ws rfl rfl RE.out A1.out HLN.out (by decide) HB.out ?_; intro v2 w2 r2 g2 _; have R2 := Lib.hid r2; have G2 : Hid ((wc.alloc (.cells #[] 3)).grownBy w2 (some wc.heap.size)) := g2; clear r2 g2))
    have R3 : Hid (intE.Row w2 wc.heap.size v2 ws) := by have := R2.out; rwa [List.nil_append] at this
    obtain ⟨va, vcap, rfl, _, _⟩ := R3.out.form
    have ne : ∀ k, k < wc.heap.size → w2.heap[k]? = (wc.alloc (.cells #[] 3)).heap[k]? := fun k hk => G2.out.block k (by simp; omega) (fun e => by simp only [Option.some.injEq] at e; omega)
    have X2 : Hid (DAt w2 i0 c n) := (ne i0 X0.out.lt).trans X1.out
    have B2 : Hid (Below w.heap.size w w2) := B1.out.grown G2.out (by have := B1.out.size; simp at this ⊢; omega) (fun k e => by simp only [Option.some.injEq] at e; have := B0.out.size; omega)
    have A2 : Hid (intE.Arg w2 (.slice ao ws.length cap) ws) := Elem.Arg.block A0.out (by have := G2.out.size; simp at this; omega) (fun g _ _ hg => (ne g hg).trans (Below.heap_alloc _ _ _ hg))
    have SH := fun (W : World) (D : Below w2.heap.size w2 W) => shares_any (w := W) c n s HC.out (argI_of (Elem.Arg.below (Elem.Row.arg R3.out) D)) (by have := HL.out; omega)
    have SR := fun (W : World) (D : Below w2.heap.size w2 W) => sharesR_any (w := W) c n s HC.out (argI_of (Elem.Arg.below A2.out D))
    unfold SharesPost at SH SR
    obtain ⟨row, er, he⟩ : ∃ (row : List (Int × Nat)) (er : Int), Hid (sharesA c n s ws = (row, er)) := ⟨_, _, rfl⟩
    have HROWL : Hid (row.length ≤ 1000000) := by
      show _ ≤ _
      have h : (sharesA c n s ws).1.length ≤ 1005 := by
        unfold sharesA
        repeat' split
        all_goals first | (simp; done) | (rw [rowA_len]; exact HL.out)
      rw [he.out] at h
      have h2 : row.length ≤ 1005 := h
      omega
    rw [he.out] at SH SR
    have HSH := Lib.hid SH; have HSR := Lib.hid SR
    have ee : (er != er) = false := by simp
    clear SH SR ne R2 G2 RE A1 X1 B1 HB HLN hcap D A0 B0 X0 he
    have x0 := X2.out.c0; have x1 := X2.out.c1
    go_upto_region 5 with (go_at_call 7; (with_reducible refine (HSH.out _ (Below.refl _ _)).mono ?_); rintro e w3 ⟨v3, rfl, r3, b3⟩; have D3 := Lib.hid b3; have S3 := Lib.hid (Elem.Row.arg r3); have X3 := Lib.hid (DAt.below X2.out b3); clear r3 b3 x0 x1 HSH)
    have x0 := X3.out.c0; have x1 := X3.out.c1
    go_upto_region 6 with (go_at_call 8; (with_reducible refine (HSR.out _ D3.out).mono ?_); rintro e w4 ⟨v4, rfl, r4, b4⟩; have D4 := Lib.hid (bt D3.out b4); have T4 := Lib.hid (Elem.Row.arg r4); have S4 := Lib.hid (Elem.Arg.below S3.out b4); clear r4 b4 x0 x1 HSR)
    have SM := same_is S4.out T4.out HROWL.out
    rw [show decide (row = row) = true by simp] at SM
    go_upto_region 8 with (go_at_call 9; (with_reducible refine SM.mono ?_); rintro e w5 ⟨rfl, b5⟩; have D5 := Lib.hid (bt D4.out b5); clear b5 SM)
    have AI := Lib.hid (argI_of (Elem.Arg.below (Elem.Row.arg R3.out) D5.out))
    have AW := Lib.hid (argI_of (Elem.Arg.below A2.out D5.out))
    have B5 := Lib.hid (bt B2.out D5.out)
    clear D3 D4 D5 S3 X3 T4 S4 R3 A2 X2 B2
    go_wp2_with fail
    go_loopw [55] (fun i wr => ∃ (k : Nat), i = .int .i64 (k : Int) ∧ k ≤ ws.length ∧ Hid (Below w5.heap.size w5 wr)) (fun i _ => ws.length - (intOf i).toNat)
    case atStart => exact ⟨0, rfl, by omega, Below.refl _ _⟩
    case round =>
      obtain ⟨wo, rfl⟩ : ∃ wo : World, wo = wr := ⟨_, rfl⟩
      obtain ⟨k, rfl, hk, BB⟩ := hrel
      have AI2 := Lib.hid (AI.out.below BB.out); have AW2 := Lib.hid (AW.out.below BB.out)
      have B6 := Lib.hid (bt B5.out BB.out)
      by_cases hkl : k < ws.length
      · obtain ⟨x, hx⟩ : ∃ x, ws[k]? = some x := ⟨_, List.getElem?_eq_getElem hkl⟩
        obtain ⟨_, _, e1, _, hc1⟩ := AI2.out
        obtain ⟨_, _, e2, _, hc2⟩ := AW2.out
        obtain ⟨b1, o1, rfl, hb1, c1⟩ := hc1 k x hx
        obtain ⟨b2, o2, rfl, hb2, c2⟩ := hc2 k x hx
        cases e1; cases e2
        have i0 : (0 : Int) ≤ (k : Int) := by omega
        have i1 : (k : Int) < ((ws.length : Nat) : Int) := by omega
        have HK := Lib.hid hkl
        have kw : IntKind.i64.wrap ((k : Int) + 1) = (k : Int) + 1 := by rw [IntWalk.i64_left]; exact IntWalk.wrap64_in _ (by have := HL.out; omega)
        have nx : (x != x) = false := by simp
        clear hx hkl hk hc1 hc2 AI2 AW2
        go_upto_region 11 with fail
        go_quiet (fail)
        go_wp2_with fail
        go_roundw
        case rel => exact ⟨k + 1, rfl, by have := HK.out; omega, below_drewN BB.out _⟩
        case measure => show _ - ((k : Int) + 1).toNat < _ - ((k : Int)).toNat; have := HK.out; omega
      · have hke : k = ws.length := by omega
        subst hke
        have KN := known_is wo
        clear hkl hk
        go_wp2_with (go_at_call 6; (with_reducible refine KN.mono ?_); rintro e w7 ⟨rfl, b7⟩; have D7 := Lib.hid (bt B6.out b7); clear b7 KN)
        go_ret
        exact ⟨rfl, D7.out⟩
/-- THE LAW -/
theorem prorateShares_law (c n s : Int) (v : Value) (ws : List Int) (w : World) (hc : fits c) (ha : intE.Arg w v ws) :
    Calls Try.prog 3 #[.agg #[.int .i64 c, .int .i64 n], .int .i64 s, v] w fun e w' => e = .returned (.bool true) ∧ Below w.heap.size w w' := by
  by_cases hl : (60 < ws.length ∧ ws.length ≤ 1000) ∨ 1005 < ws.length
  · exact sharesLaw_big c n s v ws w ha hl
  · exact sharesLaw_small c n s v ws w hc ha hl
end Go.Proofs.Ytngelemjpgglpaa.Pro
/-
  OPENING AND SHUTTING an argument of type api.Dec.
-/
namespace Go.Proofs.Ytngelemjpgglpaa
open Go.ChangeShapes Go.WideShapes Go.ChangeAt Go.RowKit Go.Joins

section
variable {H : Type} {enc : TypeId × Value → H} {w : World} {base : Nat} {spare : Nat → Bool} {held : Bool}
set_option maxRecDepth 100000 in
theorem open_dec {r : Reach} {b0 : Nat} {v : Value} {d : DataW H} {p : List MemPlace} (hv : Value.okWide Try.prog w r b0 23 v) (h : DataW.Trod enc Try.prog w base spare held 23 v d p) :
    ∃ c s : Int, v = .agg #[.int .i64 c, .int .i64 s] ∧ d = .agg [.lit (.int .i64 c), .lit (.int .i64 s)] ∧ p = [] ∧ fits c ∧ fits s := by
  obtain ⟨v0, v1, y0, y1, n, rfl, rfl, rfl, h0, h1⟩ := open_agg2 Try.underlying23 (by kernel_rfl) (by kernel_rfl) hv h
  obtain ⟨c, e0, rfl, w0⟩ := DataW.trod_int Try.underlying2 h0
  obtain ⟨s, e1, rfl, w1⟩ := DataW.trod_int Try.underlying3 h1
  simp only [List.cons.injEq, and_true] at e0 e1
  subst e0 e1
  have b0 := bounds_i64 w0
  have b1 := bounds_i64 w1
  exact ⟨c, s, rfl, rfl, rfl, ⟨by omega, by omega⟩, ⟨by omega, by omega⟩⟩
theorem wf_fits {c : Int} (h : fits c) : (Lit.int .i64 c).wf = true := by
  have h1 : -9223372036854775808 ≤ c ∧ c ≤ 9223372036854775807 := h
  refine WalkArith.wf_i64 ?_ <;> omega
set_option maxRecDepth 100000 in
theorem shut_dec {c s : Int} (h1 : fits c) (h2 : fits s) :
    DataW.Trod enc Try.prog w base spare held 23 (.agg #[.int .i64 c, .int .i64 s]) (.agg [.lit (.int .i64 c), .lit (.int .i64 s)]) [] :=
  shut_agg2 Try.underlying23 (by kernel_rfl) (by kernel_rfl) (field_of_Trod (shut_int Try.underlying2 (wf_fits h1)) rfl) (field_of_Trod (shut_int Try.underlying3 (wf_fits h2)) rfl)
end
end Go.Proofs.Ytngelemjpgglpaa
/-
  OPENING an argument of type []int.
-/
namespace Go.Proofs.Ytngelemjpgglpaa
open Go.ChangeShapes Go.WideShapes Go.ChangeAt Go.RowKit Go.Joins

section
variable {H : Type} {enc : TypeId × Value → H} {w : World} {base : Nat} {spare : Nat → Bool} {held : Bool}
theorem list_of1 {α : Type} (n : Nat) (P : Nat → α → Prop) (h : ∀ i, i < n → ∃ x, P i x) : ∃ xs : List α, xs.length = n ∧ ∀ i x, xs[i]? = some x → P i x := by
  induction n with
  | zero => exact ⟨[], rfl, fun i x hx => by simp at hx⟩
  | succ n ih =>
    obtain ⟨xs, h1, h2⟩ := ih (fun i hi => h i (by omega))
    obtain ⟨x, hx⟩ := h n (by omega)
    refine ⟨xs ++ [x], by simp [h1], fun i y hy => ?_⟩
    have il := (List.getElem?_eq_some_iff.1 hy).1
    rw [List.length_append, List.length_singleton] at il
    by_cases e : i = n
    · subst e
      rw [← h1] at hy
      simp only [List.getElem?_concat_length, Option.some.injEq] at hy
      subst hy; exact hx
    · rw [List.getElem?_append_left (by omega)] at hy
      exact h2 i y hy
set_option maxRecDepth 100000 in
theorem open_intsE {r : Reach} {b0 : Nat} {v : Value} {d : DataW H} {p : List MemPlace} (hv : Value.okWide Try.prog w r b0 24 v) (h : DataW.Trod enc Try.prog w base spare held 24 v d p) :
    ∃ xs : List Int, intE.Arg w v xs := by
  obtain ⟨ao, len, cap, rfl⟩ := okWide_slice Try.underlying24 hv
  obtain ⟨fuel, hf⟩ := h
  rcases Deep.open_slice Try.underlying24 hf with ⟨e, _⟩ | ⟨a, len', cap', m, n, D, Pl, e, hb, hl, hm, hmm, _, hx⟩
  · simp only [Value.cells, List.cons.injEq, Value.slice.injEq, and_true] at e
    obtain ⟨rfl, rfl, rfl⟩ := e
    exact ⟨[], Elem.Arg.nil w⟩
  · simp only [Value.cells, List.cons.injEq, Value.slice.injEq, and_true] at e
    obtain ⟨rfl, rfl, rfl⟩ := e
    have c3 : Try.prog.cellsOf 3 = 1 := by kernel_rfl
    rw [c3] at hx
    have hlm : len ≤ m := by rw [hmm]; split <;> omega
    have key : ∀ i, i < m → ∃ x : Int, w.cell? ((a.add (i * 1)).add 0) = some (.int .i64 x) := by
      intro i hi
      obtain ⟨cs', h1, h2⟩ := hx i hi
      obtain ⟨_, hlen, hc⟩ := World.cells?_some h1
      match cs', hlen with
      | [v0], _ =>
        obtain ⟨f, e0, _, _⟩ := DataW.trod_int Try.underlying3 h2
        simp only [List.cons.injEq, and_true] at e0
        subst e0
        exact ⟨f, hc 0 (by omega)⟩
    obtain ⟨xs, hxl, hxs⟩ := list_of1 len (fun i x => w.cell? ((a.add (i * 1)).add 0) = some (.int .i64 x)) (fun i hi => key i (by omega))
    subst hxl
    refine ⟨xs, some a, cap, rfl, ⟨hl, fun e => by cases e⟩, fun i x hi => ?_⟩
    have il := (List.getElem?_eq_some_iff.1 hi).1
    have k0 := hxs i x hi
    obtain ⟨z, hz⟩ := key 0 (by omega)
    obtain ⟨b, o, spot⟩ := a
    have hspot : spot = none := by simpa [Addr.add] using World.cell?_spot hz
    subst hspot
    have e3 : ((⟨b, o, none⟩ : Addr).add (i * 1)) = ⟨b, o + i * 1, none⟩ := by unfold Addr.add; split <;> simp_all
    rw [e3] at k0
    refine ⟨b, o, rfl, World.block_lt_of_cell? w _ k0, fun j u hu => ?_⟩
    match j, hu with
    | 0, hu => cases hu; exact k0
    | j + 1, hu => cases hu
end
end Go.Proofs.Ytngelemjpgglpaa
