/-
  dectext: Text, walked.
-/
import Derived.Test.YtfonpegkaajnkaaDoorM34
/-
  dectext: Text, walked.
-/
namespace Go.Proofs.YtfonpegkaajnkaaDoor.Tx
open Go Go.RowKit Dt
set_option linter.unusedSimpArgs false
set_option linter.unusedVariables false
attribute [local go_sem ↓] Go.wp_at_zero Go.wp_at_succ

theorem zero_ahead (j : Nat) (D : List UInt8) : (⟨#[48]⟩ : ByteArray) ++ bs (List.replicate j 48 ++ D) = bs (List.replicate (j + 1) 48 ++ D) := by
  show bs [48] ++ bs _ = _
  rw [bs_cat, List.replicate_succ]; rfl
theorem size_byte (w : World) : (Go.sizeOf 5).run Tryd.prog w = .ok 1 w := by kernel_rfl
/-- a copy of a text to a row's places from o on -/
theorem copy_at {w : World} {g : Nat} {l : List UInt8} (h : BAt w g l) (o : Nat) (s : List UInt8) (dLen dCap : Nat) (hd : s.length ≤ dLen) (hl : o + s.length ≤ l.length) (ty : TypeId) :
    (Builtin.copy_ #[72, 9] ty #[.slice (some ⟨g, o, none⟩) dLen dCap, .string (bs s)]).run Tryd.prog w = .ok (goInt s.length) (w.setCells g o (s.map bc)) := by
  have := run_copy_string (P := Tryd.prog) w 72 9 ty 5 g o dLen dCap (bs s) Tryd.underlying72 size_byte (by rw [bs_size]; exact hd)
    (fun j hj => by rw [bs_size] at hj; rw [h.cell, List.getElem?_eq_getElem (by omega)]; rfl) (fun j _ => h.f _)
  rw [bs_list, bs_size] at this
  exact this
theorem copy_first {w : World} {g n : Nat} (h : BAt w g (List.replicate n 0)) (s : List UInt8) (hs : s.length ≤ n) (ty : TypeId) :
    (Builtin.copy_ #[72, 9] ty #[.slice (some ⟨g, 0, none⟩) n n, .string (bs s)]).run Tryd.prog w = .ok (goInt s.length) (w.setCells g 0 (s.map bc)) :=
  copy_at h 0 s n n hs (by rw [List.length_replicate]; omega) ty
theorem slice_row (g A1 D n : Nat) (h : A1 + D = n) (hD : D ≠ 0) (w : World) : (Instr.slice 72 (.slice (some ⟨g, 0, none⟩) n n) (some (.int .i64 (A1 : Int))) none none).run Tryd.prog w = .ok (.slice (some ⟨g, A1, none⟩) D D) w := by
  have he : Tryd.prog.elem 72 = 5 := by kernel_rfl
  rw [run_slice_l (P := Tryd.prog) w 72 (some ⟨g, 0, none⟩) n n (by rw [he]; exact Tryd.underlying72) .i64 (A1 : Int) (by omega) (by omega), he, size_byte]
  have hplain : ∀ j, (⟨g, 0, none⟩ : Addr).add j = ⟨g, j, none⟩ := fun j => by unfold Addr.add; split <;> simp_all
  simp only [Result.andThen, sliced, Int.toNat_natCast, Option.map_some, Nat.mul_one, hplain]
  rw [show n - A1 = D by omega]
  first
    | rw [if_neg (show ¬ n = A1 by omega)]
    | (simp; omega)
theorem BAt.drew {w : World} {g : Nat} {l : List UInt8} (h : BAt w g l) : BAt w.drew g l := h
theorem step_copy_b {ops : Array Oper} {o : Oper} {a : Act} {w : World} {K : Act → World → Prop} {Q : Exit → Act → World → Prop} {E : Prop}
    (hg : o.guard = none) (d x : Operand) (hop : o.op = Op.call { callee := Callee.builtin Builtin.copy, args := #[d, x], argTypes := #[72, 9] })
    (g off dLen : Nat) (l s : List UInt8) (S : ByteArray) (hS : bs s = S) (hb : BAt w g l) (hd : a.eval d = .slice (some ⟨g, off, none⟩) dLen dLen) (hx : a.eval x = .string S) (hle : s.length ≤ dLen) (hl : off + s.length ≤ l.length)
    (hK : K (a.put o.dst (goInt s.length)) (w.setCells g off (s.map bc))) : if Region.wanted o (yielded ops a.tmps) = true then Oper.wp Tryd.prog o a w K Q else E := by
  subst hS
  refine step_copy_string hg d x 72 9 hop 5 Tryd.underlying72 size_byte g off dLen dLen hd (bs s) hx (by rw [bs_size]; exact hle) (fun j hj => by rw [bs_size] at hj; rw [hb.cell, List.getElem?_eq_getElem (by omega)]; rfl) (fun j _ => hb.f _) ?_
  rw [bs_list, bs_size]
  exact hK
theorem row_first (n A : Nat) (P1 : List UInt8) (h1 : P1.length = A) (hn : A ≤ n) : setL (List.replicate n 0) 0 P1 = P1 ++ List.replicate (n - A) 0 := by
  have := setL_part P1 [] (List.replicate A 0) (List.replicate (n - A) 0) (by rw [List.length_replicate, h1])
  rw [List.replicate_append_replicate, show A + (n - A) = n by omega] at this
  exact this
theorem row_dot (n A D : Nat) (P1 : List UInt8) (h1 : P1.length = A) (hn : n = A + 1 + D) : (P1 ++ List.replicate (n - A) 0).set A 46 = P1 ++ 46 :: List.replicate D 0 := by
  subst h1
  rw [List.set_append_right _ _ (Nat.le_refl _), Nat.sub_self, show n - P1.length = D + 1 by omega, List.replicate_succ]; rfl
theorem row_last (D A1 : Nat) (P1 P2 : List UInt8) (h1 : P1.length + 1 = A1) (h2 : P2.length = D) : setL (P1 ++ 46 :: List.replicate D 0) A1 P2 = P1 ++ 46 :: P2 := by
  have := setL_part P2 (P1 ++ [46]) (List.replicate D 0) [] (by rw [List.length_replicate, h2])
  rw [List.length_append, List.length_singleton, h1] at this
  simpa using this
def TextPost (c s : Int) (w : World) (e : Ending) (w' : World) : Prop := e = .returned (.string (bs (textS c s))) ∧ Below w.heap.size w w'
set_option maxRecDepth 100000 in
set_option maxHeartbeats 1000000 in
theorem text_no {w : World} (c s : Int) (hc : Fit c) (he : Env w) (hb : isB s = false) : Calls Tryd.prog 31 #[.agg #[.int .i64 c, .int .i64 s]] w (TextPost c s w) := by
  have B0 := Lib.hid (ba w (.cells #[.int .i64 c, .int .i64 s] 24))
  have T0 := Lib.hid (Two.new w c s)
  have P := dPut_any c s _ (w.alloc (.cells #[.int .i64 c, .int .i64 s] 24)) hc (putV_no (c := c) hb)
  have r := Lib.hid (show textS c s = [] from by unfold textS; rw [hb]; rfl)
  go_enter Tryd.func31, Tryd.ntmps31
  go_upto_region 1 with fail
  obtain ⟨wa, hwa⟩ : ∃ v, Hid (v = w.alloc (.cells #[.int .i64 c, .int .i64 s] 24)) := ⟨_, rfl⟩
  rw [← hwa.out] at B0 T0 P ⊢
  have c0 := T0.out.c0; have c1 := T0.out.c1
  clear hwa
  go_wp2_with (go_at_call 35; (with_reducible refine P.mono ?_); rintro e1 w1 ⟨rfl, b1⟩; have B1 := Lib.hid (bt B0.out b1); have T1 := Lib.hid (T0.out.below b1); have x0 := T1.out.c0; have x1 := T1.out.c1; have f0 := T1.out.f 0; have f1 := T1.out.f 1; clear b1 P)
  go_ret
  exact ⟨by rw [r.out]; rfl, (B1.out.setCell (p := ⟨w.heap.size, 0, none⟩) (Nat.le_refl _) _).setCell (p := ⟨w.heap.size, 1, none⟩) (Nat.le_refl _) _⟩
set_option maxRecDepth 100000 in
set_option maxHeartbeats 1000000 in
theorem text_yes {w : World} (c s : Int) (hc : Fit c) (he : Env w) (hb : isB s = true) : Calls Tryd.prog 31 #[.agg #[.int .i64 c, .int .i64 s]] w (TextPost c s w) := by
  have B0 := Lib.hid (ba w (.cells #[.int .i64 c, .int .i64 s] 24))
  have T0 := Lib.hid (Two.new w c s)
  have P := dPut_any c s _ (w.alloc (.cells #[.int .i64 c, .int .i64 s] 24)) hc (putV_ok hc hb)
  have hS := canS_le (c := c) hb
  have hC := trim_fit c s.toNat hc
  have r0 : textS c s = dtxt (canC c s) (canS c s) := by unfold textS; rw [if_pos hb]
  unfold TextPost
  rw [r0]
  obtain ⟨C, hC'⟩ : ∃ C, canC c s = C := ⟨_, rfl⟩
  obtain ⟨D, hD'⟩ : ∃ C, canS c s = C := ⟨_, rfl⟩
  have hC2 : Fit C := by rw [← hC']; exact hC
  rw [hC', hD'] at P ⊢
  rw [hD'] at hS
  have HE := Lib.hid he
  have HF := Lib.hid hC2
  have HS := Lib.hid hS
  clear hC hC' hD' r0 hb hc he hS hC2
  go_enter Tryd.func31, Tryd.ntmps31
  go_upto_region 1 with fail
  obtain ⟨wa, hwa⟩ : ∃ v, Hid (v = w.alloc (.cells #[.int .i64 c, .int .i64 s] 24)) := ⟨_, rfl⟩
  rw [← hwa.out] at B0 T0 P ⊢
  have c0 := T0.out.c0; have c1 := T0.out.c1
  clear hwa
  go_upto_region 4 with (go_at_call 35; (with_reducible refine P.mono ?_); rintro e1 w1 ⟨rfl, b1⟩; have B1 := Lib.hid (bt B0.out b1); have T1 := Lib.hid (T0.out.below b1); have x0 := T1.out.c0; have x1 := T1.out.c1; have f0 := T1.out.f 0; have f1 := T1.out.f 1; clear b1 P)
  have T2 := Lib.hid (T1.out.set C (D : Int))
  have B2 := Lib.hid ((B1.out.setCell (p := ⟨w.heap.size, 0, none⟩) (Nat.le_refl _) (.int .i64 C)).setCell (p := ⟨w.heap.size, 1, none⟩) (Nat.le_refl _) (.int .i64 (D : Int)))
  obtain ⟨w2, hw2⟩ : ∃ v, Hid (v = (w1.setCell ⟨w.heap.size, 0, none⟩ (.int .i64 C)).setCell ⟨w.heap.size, 1, none⟩ (.int .i64 (D : Int))) := ⟨_, rfl⟩
  rw [← hw2.out] at T2 B2 ⊢
  clear c0 c1 x0 x1 f0 f1 hw2 T1 B1 T0 B0
  have c0 := T2.out.c0; have c1 := T2.out.c1
  have FM := fmt_is (w := w2) C HF.out (HE.out.below B2.out)
  rw [itoa_cases] at FM
  obtain ⟨a, ha⟩ : ∃ a, Hid (C.natAbs = a) := ⟨_, rfl⟩
  rw [ha.out] at FM
  have dl := dd_len_le (a := a) (by rw [← ha.out]; have := HF.out.1; have := HF.out.2; omega)
  have dp := dd_len_pos a
  have hpad : ∀ j, D < j + (Lib.decDigits a).length → (j = 0 ∨ j + (Lib.decDigits a).length ≤ D + 1) → List.replicate j 48 ++ Lib.decDigits a = lowD a (lenT a D) := fun j h1 h2 => by
    have e := padTo_low a (D + 1)
    unfold padTo at e
    unfold lenT
    rw [← e, show D + 1 - (Lib.decDigits a).length = j by omega]
  have hlen : lenT a D ≤ 19 := by unfold lenT; have := HS.out; omega
  have hgt := lenT_gt a D
  have HPAD := Lib.hid hpad
  obtain ⟨L, hL⟩ : ∃ L, Hid (lenT a D = L) := ⟨_, rfl⟩
  have HP2 := Lib.hid (fun h => parted a D h)
  rw [hL.out] at HPAD hlen hgt HP2
  obtain ⟨dd, hdd⟩ : ∃ l, Hid (Lib.decDigits a = l) := ⟨_, rfl⟩
  rw [hdd.out] at FM dl dp HPAD
  obtain ⟨dn, hdn⟩ : ∃ n, Hid (dd.length = n) := ⟨_, rfl⟩
  rw [hdn.out] at dl dp HPAD
  have HDL := Lib.hid dl; have HDP := Lib.hid dp; have HLE := Lib.hid hlen; have HGT := Lib.hid hgt
  clear hpad hlen hgt dl dp
  by_cases hneg : C < 0
  · have hd1 : decide (C < 0) = true := by simpa using hneg
    have hsg : Hid (decide (C < 0) = true) := hd1
    rw [hd1] at FM
    have x0 : ∀ w, (Instr.slice 9 (.string (bs (sgn true ++ dd))) (some (.int .i64 1)) none none).run Tryd.prog w = .ok (.string (bs (List.replicate 0 48 ++ dd))) w := fun w => by
      have hz0 : (bs (sgn true ++ dd)).size = dn + 1 := by rw [bs_size, List.length_append, hdn.out]; show 1 + dn = _; omega
      rw [run_slice_string_l (P := Tryd.prog) w (t := 9) (s := bs (sgn true ++ dd)) (ht := Tryd.underlying9) (kl := .i64) (l := 1) (h0 := by decide) (h1 := by rw [hz0]; omega)]
      rw [slice_lo, hz0, List.take_of_length_le (by rw [List.length_drop, List.length_append, hdn.out]; show 1 + dn - 1 ≤ dn + 1 - 1; omega)]; rfl
    obtain ⟨S0, hS0⟩ : ∃ S, Hid (bs (sgn true ++ dd) = S) := ⟨_, rfl⟩
    rw [hS0.out] at FM x0
    clear hneg hS0
    go_upto_region 7 with (go_at_call 65; (with_reducible refine FM.mono ?_); rintro e3 w3 ⟨rfl, b3⟩; have B3 := Lib.hid (bt B2.out b3); have T3 := Lib.hid (T2.out.below b3); have x0' := T3.out.c0; have x1 := T3.out.c1; clear b3 FM)
    go_quiet (fail)
    have b4 := drewN_below w3 nq
    have B4 := Lib.hid (bt B3.out b4); have T4 := Lib.hid (T3.out.below b4)
    obtain ⟨w4, hw4⟩ : ∃ v, Hid (v = w3.drewN nq) := ⟨_, rfl⟩
    rw [← hw4.out] at B4 T4 ⊢
    clear b4 hw4 x0 x0' x1 c0 c1 B3 T3
    have c0 := T4.out.c0; have c1 := T4.out.c1
    go_wp2_with fail
    go_loop [4] (fun s => ∃ j : Nat, s = .string (bs (List.replicate j 48 ++ dd)) ∧ Hid (j = 0 ∨ j + dn ≤ D + 1)) (fun s => match s with | .string b => 21 - b.size | _ => 0)
    case atStart => exact ⟨0, rfl, .inl rfl⟩
    case round =>
      obtain ⟨j, rfl, HJ⟩ := hrel
      have hsz : (bs (List.replicate j 48 ++ dd)).size = j + dn := by rw [bs_size, List.length_append, List.length_replicate, hdn.out]
      have hz := zero_ahead j dd
      have hsz2 : (bs (List.replicate (j + 1) 48 ++ dd)).size = j + 1 + dn := by rw [bs_size, List.length_append, List.length_replicate, hdn.out]
      have HZ2 := Lib.hid hsz2; have HZ1 := Lib.hid hsz
      clear hsz2
      obtain ⟨z, hzz⟩ : ∃ z : Nat, Hid (j + dn = z) := ⟨_, rfl⟩
      rw [hzz.out] at hsz HZ1
      by_cases hle : z ≤ D
      · have d1 : decide (z ≤ D) = true := by simpa using hle
        have d2 : decide ((z : Int) ≤ (D : Int)) = true := by simp; omega
        have k1 : ¬ 9223372036854775807 < 1 + z := by have := HS.out; omega
        have k2 : ¬ 9223372036854775807 < (⟨#[48]⟩ : ByteArray).size + z := by show ¬ _ < 1 + z; have := HS.out; omega
        have HLE2 := Lib.hid hle
        clear hle
        go_wp2_with fail
        refine ⟨⟨j + 1, rfl, .inr (by have := hzz.out; have := HLE2.out; omega)⟩, ?_⟩
        show 21 - (bs (List.replicate (j + 1) 48 ++ dd)).size < 21 - (bs (List.replicate j 48 ++ dd)).size
        rw [HZ2.out, HZ1.out]; have := hzz.out; have := HLE2.out; have := HS.out; omega
      · have d1 : decide (z ≤ D) = false := by simpa using hle
        have d2 : decide ((z : Int) ≤ (D : Int)) = false := by simp; omega
        have hP := HPAD.out j (by have := hzz.out; omega) HJ.out
        rw [hP] at hsz HZ1 ⊢
        have zL : z = L := by rw [bs_size, lowD_len] at hsz; exact hsz.symm
        subst zL
        clear hz hle hP HZ2 hzz HJ
        obtain ⟨PL, hPL⟩ : ∃ l, Hid (lowD a z = l) := ⟨_, rfl⟩
        rw [hPL.out] at hsz HZ1 HP2 ⊢
        by_cases h0 : D = 0
        · have q1 : decide (D = 0) = true := by simpa using h0
          have q2 : ((D : Int) == 0) = true := by simp; omega
          have fin : Hid (⟨#[45]⟩ ++ bs PL = bs (dtxt C D)) := by
            show bs [45] ++ bs PL = _
            rw [bs_cat, ← hPL.out]
            unfold dtxt
            rw [ha.out, hL.out, refT_lo (.inl h0), hsg.out]
            rfl
          obtain ⟨S4, hS4⟩ : ∃ S, Hid (bs PL = S) := ⟨_, rfl⟩
          rw [hS4.out] at hsz fin ⊢
          have k1 : ¬ 9223372036854775807 < 1 + z := by have := HLE.out; omega
          have k2 : ¬ 9223372036854775807 < z := by have := HLE.out; omega
          have sS : (⟨#[45]⟩ : ByteArray).size = 1 := rfl
          clear hS4 HZ1 h0
          go_wp2_with fail
          go_ret
          exact ⟨congrArg (fun x => Ending.returned (Value.string x)) fin.out, B4.out⟩
        · have q1 : decide (D = 0) = false := by simpa using h0
          have q2 : ((D : Int) == 0) = false := by simp; omega
          have HD0 := Lib.hid h0
          obtain ⟨A, hA⟩ : ∃ A, Hid (z - D = A) := ⟨_, rfl⟩
          obtain ⟨n, hn⟩ : ∃ n, Hid (z + 1 = n) := ⟨_, rfl⟩
          have kw1 : IntKind.i64.wrap ((z : Int) + 1) = (n : Int) := by rw [IntWalk.i64_left, IntWalk.wrap64_in _ (by have := HLE.out; omega)]; have := hn.out; omega
          have kw2 : IntKind.i64.wrap ((z : Int) - (D : Int)) = (A : Int) := by rw [IntWalk.i64_left, IntWalk.wrap64_in _ (by have := HLE.out; have := HS.out; omega)]; have := hA.out; have := HGT.out; omega
          have mk := make_bytes n (by have := hn.out; have := HLE.out; omega)
          have HM := Lib.hid hsz
          obtain ⟨S4, hS4⟩ : ∃ S, Hid (bs PL = S) := ⟨_, rfl⟩
          rw [hS4.out] at hsz HZ1 ⊢
          clear h0
          go_upto_region 13 with fail
          have N5 := Lib.hid (madeW_at w4 n)
          have B5 := Lib.hid (bt B4.out (madeW_below w4 n))
          have T5 := Lib.hid (T4.out.below (Below.mono (madeW_below w4 n) (Nat.le_refl _)))
          have hg5 := Lib.hid (show w.heap.size ≤ w4.heap.size from B4.out.size)
          obtain ⟨g, hg⟩ : ∃ g, Hid (w4.heap.size = g) := ⟨_, rfl⟩
          rw [hg.out] at N5 hg5 ⊢
          obtain ⟨w5, hw5⟩ : ∃ v, Hid (v = madeW w4 n) := ⟨_, rfl⟩
          rw [← hw5.out] at N5 B5 T5 ⊢
          clear hw5 mk c0 c1 T4 B4
          have c0 := T5.out.c0; have c1 := T5.out.c1
          obtain ⟨P1, hP1⟩ : ∃ l, Hid (PL.take A = l) := ⟨_, rfl⟩
          obtain ⟨P2, hP2⟩ : ∃ l, Hid (PL.drop A = l) := ⟨_, rfl⟩
          have hPl : Hid (PL.length = z) := by show _ = _; rw [← bs_size, HM.out]
          have l1 : Hid (P1.length = A) := by show _ = _; rw [← hP1.out, List.length_take, hPl.out]; have := hA.out; omega
          have l2 : Hid (P2.length = D) := by show _ = _; rw [← hP2.out, List.length_drop, hPl.out]; have := hA.out; have := HGT.out; omega
          have x5 : ∀ w, (Instr.slice 9 (.string S4) none (some (.int .i64 (A : Int))) none).run Tryd.prog w = .ok (.string (bs P1)) w := fun w => by
            rw [← hS4.out, run_slice_string_h (P := Tryd.prog) w (t := 9) (s := bs PL) (ht := Tryd.underlying9) (kh := .i64) (h := (A : Int)) (h0 := by omega) (h2 := by rw [HM.out]; have := hA.out; omega)]
            rw [slice_lo, ← hP1.out]; rfl
          have x6 : ∀ w, (Instr.slice 9 (.string S4) (some (.int .i64 (A : Int))) none none).run Tryd.prog w = .ok (.string (bs P2)) w := fun w => by
            rw [← hS4.out, run_slice_string_l (P := Tryd.prog) w (t := 9) (s := bs PL) (ht := Tryd.underlying9) (kl := .i64) (l := (A : Int)) (h0 := by omega) (h1 := by rw [HM.out]; have := hA.out; omega)]
            rw [slice_lo, HM.out, Int.toNat_natCast, hP2.out, List.take_of_length_le (by rw [l2.out]; have := hA.out; have := HGT.out; omega)]
          have HFIN := Lib.hid (HP2.out HD0.out)
          have cp1 := copy_first N5.out P1 (by have := l1.out; have := hA.out; have := hn.out; omega)
          obtain ⟨S5, hS5⟩ : ∃ S, Hid (bs P1 = S) := ⟨_, rfl⟩
          rw [hS5.out] at x5 cp1
          obtain ⟨S6, hS6⟩ : ∃ S, Hid (bs P2 = S) := ⟨_, rfl⟩
          rw [hS6.out] at x6
          clear hS4
          go_upto_region 15 with fail
          have N6 : Hid (BAt (w5.setCells g 0 (P1.map bc)) g (P1 ++ List.replicate (n - A) 0)) := by
            show BAt _ _ _
            rw [← row_first n A P1 l1.out (by have := hA.out; have := hn.out; omega)]
            exact BAt.sets P1 0 _ _ N5.out
          have B6 : Hid (Below w.heap.size w (w5.setCells g 0 (P1.map bc))) := BAt.below_sets hg5.out P1 B5.out
          obtain ⟨w6, hw6⟩ : ∃ v, Hid (v = w5.setCells g 0 (P1.map bc)) := ⟨_, rfl⟩
          rw [← hw6.out] at N6 B6 ⊢
          clear hw6 cp1 c0 c1 x5 N5 B5 T5
          have hAn : Hid (A + 1 + D = n) := by show _ = _; have := hA.out; have := hn.out; have := HGT.out; omega
          have cA : w6.cell? ⟨g, A, none⟩ = some (.int .u8 0) := by
            rw [N6.out.cell A, List.getElem?_append_right (by rw [l1.out]; exact Nat.le_refl _), l1.out, Nat.sub_self, List.getElem?_replicate, if_pos (by have := hAn.out; omega)]; rfl
          have fA := N6.out.f A
          have i0 : (0 : Int) ≤ (A : Int) := by omega
          have i1 : (A : Int) < (n : Int) := by have := hAn.out; omega
          go_upto_region 16 with fail
          have N7 : Hid (BAt (w6.setCell ⟨g, A, none⟩ (.int .u8 46)) g (P1 ++ 46 :: List.replicate D 0)) := by
            show BAt _ _ _
            rw [← row_dot n A D P1 l1.out hAn.out.symm]
            exact N6.out.set A 46
          have B7 := Lib.hid (Below.setCell B6.out (p := ⟨g, A, none⟩) hg5.out (.int .u8 46))
          obtain ⟨w7, hw7⟩ : ∃ v, Hid (v = w6.setCell ⟨g, A, none⟩ (.int .u8 46)) := ⟨_, rfl⟩
          rw [← hw7.out] at N7 B7 ⊢
          clear hw7 cA fA i0 i1 N6 B6
          obtain ⟨A1, hA1⟩ : ∃ k, Hid (A + 1 = k) := ⟨_, rfl⟩
          have kw3 : IntKind.i64.wrap ((A : Int) + 1) = (A1 : Int) := by rw [IntWalk.i64_left, IntWalk.wrap64_in _ (by have := HLE.out; have := hA.out; omega)]; have := hA1.out; omega
          have sl := slice_row g A1 D n (by have := hA1.out; have := hAn.out; omega) HD0.out
          obtain ⟨L7, hL7⟩ : ∃ l, Hid (P1 ++ 46 :: List.replicate D 0 = l) := ⟨_, Lib.hid rfl⟩
          rw [hL7.out] at N7
          go_region_law (first | (go_loud (refine step_copy_b rfl (.tmp 56) (.tmp 59) rfl g A1 D L7 P2 S6 hS6.out N7.out.drew (by simp [Act.eval, Act.put]) (by simp [Act.eval, Act.put]) (by have := l2.out; omega) (by rw [← hL7.out, List.length_append, List.length_cons, List.length_replicate]; have := l1.out; have := l2.out; have := hA1.out; omega) ?_)))
          all_goals
            have N8 : Hid (BAt (w7.drew.setCells g A1 (P2.map bc)) g (P1 ++ 46 :: P2)) := by
              show BAt _ _ _
              rw [← row_last D A1 P1 P2 (by have := l1.out; have := hA1.out; omega) l2.out, hL7.out]
              exact BAt.sets P2 A1 _ _ N7.out.drew
            have B8 : Hid (Below w.heap.size w (w7.drew.setCells g A1 (P2.map bc))) := BAt.below_sets hg5.out P2 (Below.drew B7.out)
            obtain ⟨w8, hw8⟩ : ∃ v, Hid (v = w7.drew.setCells g A1 (P2.map bc)) := ⟨_, rfl⟩
            rw [← hw8.out] at N8 B8 ⊢
            clear hw8 N7 B7 sl x6
            have kb := back_bytes N8.out n
            have ln : Hid ((P1 ++ 46 :: P2).length = n) := by show _ = _; rw [List.length_append, List.length_cons]; have := l1.out; have := l2.out; have := hAn.out; omega
            rw [ln.out] at kb
            have zF : (bs (P1 ++ 46 :: P2)).size = n := by rw [bs_size]; exact ln.out
            have fin : Hid (⟨#[45]⟩ ++ bs (P1 ++ 46 :: P2) = bs (dtxt C D)) := by
              have e := HFIN.out
              rw [hA.out, hP1.out, hP2.out] at e
              show bs [45] ++ bs _ = _
              rw [bs_cat, ← e]
              unfold dtxt
              rw [ha.out, hL.out, hsg.out]
              rfl
            obtain ⟨S9, hS9⟩ : ∃ S, Hid (bs (P1 ++ 46 :: P2) = S) := ⟨_, rfl⟩
            rw [hS9.out] at kb zF fin
            have k1 : ¬ 9223372036854775807 < 1 + n := by have := HLE.out; have := hn.out; omega
            have k2 : ¬ 9223372036854775807 < n := by have := HLE.out; have := hn.out; omega
            have sS : (⟨#[45]⟩ : ByteArray).size = 1 := rfl
            go_wp2_with fail
            go_ret
            exact ⟨congrArg (fun x => Ending.returned (Value.string x)) fin.out, B8.out⟩
  · have hd1 : decide (C < 0) = false := by simpa using hneg
    have hsg : Hid (decide (C < 0) = false) := hd1
    rw [hd1] at FM
    have FM' : Calls Tryd.prog 65 #[.int .i64 C, .int .i64 10] w2 fun e w' => e = .returned (.string (bs dd)) ∧ Below w2.heap.size w2 w' := FM
    clear hneg FM
    go_upto_region 5 with (go_at_call 65; (with_reducible refine FM'.mono ?_); rintro e3 w4 ⟨rfl, b3⟩; have B4 := Lib.hid (bt B2.out b3); have T4 := Lib.hid (T2.out.below b3); clear b3 FM')
    clear c0 c1
    have c0 := T4.out.c0; have c1 := T4.out.c1
    go_wp2_with fail
    go_loop [4] (fun s => ∃ j : Nat, s = .string (bs (List.replicate j 48 ++ dd)) ∧ Hid (j = 0 ∨ j + dn ≤ D + 1)) (fun s => match s with | .string b => 21 - b.size | _ => 0)
    case atStart => exact ⟨0, rfl, .inl rfl⟩
    case round =>
      obtain ⟨j, rfl, HJ⟩ := hrel
      have hsz : (bs (List.replicate j 48 ++ dd)).size = j + dn := by rw [bs_size, List.length_append, List.length_replicate, hdn.out]
      have hz := zero_ahead j dd
      have hsz2 : (bs (List.replicate (j + 1) 48 ++ dd)).size = j + 1 + dn := by rw [bs_size, List.length_append, List.length_replicate, hdn.out]
      have HZ2 := Lib.hid hsz2; have HZ1 := Lib.hid hsz
      clear hsz2
      obtain ⟨z, hzz⟩ : ∃ z : Nat, Hid (j + dn = z) := ⟨_, rfl⟩
      rw [hzz.out] at hsz HZ1
      by_cases hle : z ≤ D
      · have d1 : decide (z ≤ D) = true := by simpa using hle
        have d2 : decide ((z : Int) ≤ (D : Int)) = true := by simp; omega
        have k1 : ¬ 9223372036854775807 < 1 + z := by have := HS.out; omega
        have k2 : ¬ 9223372036854775807 < (⟨#[48]⟩ : ByteArray).size + z := by show ¬ _ < 1 + z; have := HS.out; omega
        have HLE2 := Lib.hid hle
        clear hle
        go_wp2_with fail
        refine ⟨⟨j + 1, rfl, .inr (by have := hzz.out; have := HLE2.out; omega)⟩, ?_⟩
        show 21 - (bs (List.replicate (j + 1) 48 ++ dd)).size < 21 - (bs (List.replicate j 48 ++ dd)).size
        rw [HZ2.out, HZ1.out]; have := hzz.out; have := HLE2.out; have := HS.out; omega
      · have d1 : decide (z ≤ D) = false := by simpa using hle
        have d2 : decide ((z : Int) ≤ (D : Int)) = false := by simp; omega
        have hP := HPAD.out j (by have := hzz.out; omega) HJ.out
        rw [hP] at hsz HZ1 ⊢
        have zL : z = L := by rw [bs_size, lowD_len] at hsz; exact hsz.symm
        subst zL
        clear hz hle hP HZ2 hzz HJ
        obtain ⟨PL, hPL⟩ : ∃ l, Hid (lowD a z = l) := ⟨_, rfl⟩
        rw [hPL.out] at hsz HZ1 HP2 ⊢
        by_cases h0 : D = 0
        · have q1 : decide (D = 0) = true := by simpa using h0
          have q2 : ((D : Int) == 0) = true := by simp; omega
          have fin : Hid (⟨#[]⟩ ++ bs PL = bs (dtxt C D)) := by
            show bs [] ++ bs PL = _
            rw [bs_cat, ← hPL.out]
            unfold dtxt
            rw [ha.out, hL.out, refT_lo (.inl h0), hsg.out]
            rfl
          obtain ⟨S4, hS4⟩ : ∃ S, Hid (bs PL = S) := ⟨_, rfl⟩
          rw [hS4.out] at hsz fin ⊢
          have k1 : ¬ 9223372036854775807 < 0 + z := by have := HLE.out; omega
          have k2 : ¬ 9223372036854775807 < z := by have := HLE.out; omega
          have sS : (⟨#[]⟩ : ByteArray).size = 0 := rfl
          clear hS4 HZ1 h0
          go_wp2_with fail
          go_ret
          exact ⟨congrArg (fun x => Ending.returned (Value.string x)) fin.out, B4.out⟩
        · have q1 : decide (D = 0) = false := by simpa using h0
          have q2 : ((D : Int) == 0) = false := by simp; omega
          have HD0 := Lib.hid h0
          obtain ⟨A, hA⟩ : ∃ A, Hid (z - D = A) := ⟨_, rfl⟩
          obtain ⟨n, hn⟩ : ∃ n, Hid (z + 1 = n) := ⟨_, rfl⟩
          have kw1 : IntKind.i64.wrap ((z : Int) + 1) = (n : Int) := by rw [IntWalk.i64_left, IntWalk.wrap64_in _ (by have := HLE.out; omega)]; have := hn.out; omega
          have kw2 : IntKind.i64.wrap ((z : Int) - (D : Int)) = (A : Int) := by rw [IntWalk.i64_left, IntWalk.wrap64_in _ (by have := HLE.out; have := HS.out; omega)]; have := hA.out; have := HGT.out; omega
          have mk := make_bytes n (by have := hn.out; have := HLE.out; omega)
          have HM := Lib.hid hsz
          obtain ⟨S4, hS4⟩ : ∃ S, Hid (bs PL = S) := ⟨_, rfl⟩
          rw [hS4.out] at hsz HZ1 ⊢
          clear h0
          go_upto_region 13 with fail
          have N5 := Lib.hid (madeW_at w4 n)
          have B5 := Lib.hid (bt B4.out (madeW_below w4 n))
          have T5 := Lib.hid (T4.out.below (Below.mono (madeW_below w4 n) (Nat.le_refl _)))
          have hg5 := Lib.hid (show w.heap.size ≤ w4.heap.size from B4.out.size)
          obtain ⟨g, hg⟩ : ∃ g, Hid (w4.heap.size = g) := ⟨_, rfl⟩
          rw [hg.out] at N5 hg5 ⊢
          obtain ⟨w5, hw5⟩ : ∃ v, Hid (v = madeW w4 n) := ⟨_, rfl⟩
          rw [← hw5.out] at N5 B5 T5 ⊢
          clear hw5 mk c0 c1 T4 B4
          have c0 := T5.out.c0; have c1 := T5.out.c1
          obtain ⟨P1, hP1⟩ : ∃ l, Hid (PL.take A = l) := ⟨_, rfl⟩
          obtain ⟨P2, hP2⟩ : ∃ l, Hid (PL.drop A = l) := ⟨_, rfl⟩
          have hPl : Hid (PL.length = z) := by show _ = _; rw [← bs_size, HM.out]
          have l1 : Hid (P1.length = A) := by show _ = _; rw [← hP1.out, List.length_take, hPl.out]; have := hA.out; omega
          have l2 : Hid (P2.length = D) := by show _ = _; rw [← hP2.out, List.length_drop, hPl.out]; have := hA.out; have := HGT.out; omega
          have x5 : ∀ w, (Instr.slice 9 (.string S4) none (some (.int .i64 (A : Int))) none).run Tryd.prog w = .ok (.string (bs P1)) w := fun w => by
            rw [← hS4.out, run_slice_string_h (P := Tryd.prog) w (t := 9) (s := bs PL) (ht := Tryd.underlying9) (kh := .i64) (h := (A : Int)) (h0 := by omega) (h2 := by rw [HM.out]; have := hA.out; omega)]
            rw [slice_lo, ← hP1.out]; rfl
          have x6 : ∀ w, (Instr.slice 9 (.string S4) (some (.int .i64 (A : Int))) none none).run Tryd.prog w = .ok (.string (bs P2)) w := fun w => by
            rw [← hS4.out, run_slice_string_l (P := Tryd.prog) w (t := 9) (s := bs PL) (ht := Tryd.underlying9) (kl := .i64) (l := (A : Int)) (h0 := by omega) (h1 := by rw [HM.out]; have := hA.out; omega)]
            rw [slice_lo, HM.out, Int.toNat_natCast, hP2.out, List.take_of_length_le (by rw [l2.out]; have := hA.out; have := HGT.out; omega)]
          have HFIN := Lib.hid (HP2.out HD0.out)
          have cp1 := copy_first N5.out P1 (by have := l1.out; have := hA.out; have := hn.out; omega)
          obtain ⟨S5, hS5⟩ : ∃ S, Hid (bs P1 = S) := ⟨_, rfl⟩
          rw [hS5.out] at x5 cp1
          obtain ⟨S6, hS6⟩ : ∃ S, Hid (bs P2 = S) := ⟨_, rfl⟩
          rw [hS6.out] at x6
          clear hS4
          go_upto_region 15 with fail
          have N6 : Hid (BAt (w5.setCells g 0 (P1.map bc)) g (P1 ++ List.replicate (n - A) 0)) := by
            show BAt _ _ _
            rw [← row_first n A P1 l1.out (by have := hA.out; have := hn.out; omega)]
            exact BAt.sets P1 0 _ _ N5.out
          have B6 : Hid (Below w.heap.size w (w5.setCells g 0 (P1.map bc))) := BAt.below_sets hg5.out P1 B5.out
          obtain ⟨w6, hw6⟩ : ∃ v, Hid (v = w5.setCells g 0 (P1.map bc)) := ⟨_, rfl⟩
          rw [← hw6.out] at N6 B6 ⊢
          clear hw6 cp1 c0 c1 x5 N5 B5 T5
          have hAn : Hid (A + 1 + D = n) := by show _ = _; have := hA.out; have := hn.out; have := HGT.out; omega
          have cA : w6.cell? ⟨g, A, none⟩ = some (.int .u8 0) := by
            rw [N6.out.cell A, List.getElem?_append_right (by rw [l1.out]; exact Nat.le_refl _), l1.out, Nat.sub_self, List.getElem?_replicate, if_pos (by have := hAn.out; omega)]; rfl
          have fA := N6.out.f A
          have i0 : (0 : Int) ≤ (A : Int) := by omega
          have i1 : (A : Int) < (n : Int) := by have := hAn.out; omega
          go_upto_region 16 with fail
          have N7 : Hid (BAt (w6.setCell ⟨g, A, none⟩ (.int .u8 46)) g (P1 ++ 46 :: List.replicate D 0)) := by
            show BAt _ _ _
            rw [← row_dot n A D P1 l1.out hAn.out.symm]
            exact N6.out.set A 46
          have B7 := Lib.hid (Below.setCell B6.out (p := ⟨g, A, none⟩) hg5.out (.int .u8 46))
          obtain ⟨w7, hw7⟩ : ∃ v, Hid (v = w6.setCell ⟨g, A, none⟩ (.int .u8 46)) := ⟨_, rfl⟩
          rw [← hw7.out] at N7 B7 ⊢
          clear hw7 cA fA i0 i1 N6 B6
          obtain ⟨A1, hA1⟩ : ∃ k, Hid (A + 1 = k) := ⟨_, rfl⟩
          have kw3 : IntKind.i64.wrap ((A : Int) + 1) = (A1 : Int) := by rw [IntWalk.i64_left, IntWalk.wrap64_in _ (by have := HLE.out; have := hA.out; omega)]; have := hA1.out; omega
          have sl := slice_row g A1 D n (by have := hA1.out; have := hAn.out; omega) HD0.out
          obtain ⟨L7, hL7⟩ : ∃ l, Hid (P1 ++ 46 :: List.replicate D 0 = l) := ⟨_, Lib.hid rfl⟩
          rw [hL7.out] at N7
          go_region_law (first | (go_loud (refine step_copy_b rfl (.tmp 56) (.tmp 59) rfl g A1 D L7 P2 S6 hS6.out N7.out.drew (by simp [Act.eval, Act.put]) (by simp [Act.eval, Act.put]) (by have := l2.out; omega) (by rw [← hL7.out, List.length_append, List.length_cons, List.length_replicate]; have := l1.out; have := l2.out; have := hA1.out; omega) ?_)))
          all_goals
            have N8 : Hid (BAt (w7.drew.setCells g A1 (P2.map bc)) g (P1 ++ 46 :: P2)) := by
              show BAt _ _ _
              rw [← row_last D A1 P1 P2 (by have := l1.out; have := hA1.out; omega) l2.out, hL7.out]
              exact BAt.sets P2 A1 _ _ N7.out.drew
            have B8 : Hid (Below w.heap.size w (w7.drew.setCells g A1 (P2.map bc))) := BAt.below_sets hg5.out P2 (Below.drew B7.out)
            obtain ⟨w8, hw8⟩ : ∃ v, Hid (v = w7.drew.setCells g A1 (P2.map bc)) := ⟨_, rfl⟩
            rw [← hw8.out] at N8 B8 ⊢
            clear hw8 N7 B7 sl x6
            have kb := back_bytes N8.out n
            have ln : Hid ((P1 ++ 46 :: P2).length = n) := by show _ = _; rw [List.length_append, List.length_cons]; have := l1.out; have := l2.out; have := hAn.out; omega
            rw [ln.out] at kb
            have zF : (bs (P1 ++ 46 :: P2)).size = n := by rw [bs_size]; exact ln.out
            have fin : Hid (⟨#[]⟩ ++ bs (P1 ++ 46 :: P2) = bs (dtxt C D)) := by
              have e := HFIN.out
              rw [hA.out, hP1.out, hP2.out] at e
              show bs [] ++ bs _ = _
              rw [bs_cat, ← e]
              unfold dtxt
              rw [ha.out, hL.out, hsg.out]
              rfl
            obtain ⟨S9, hS9⟩ : ∃ S, Hid (bs (P1 ++ 46 :: P2) = S) := ⟨_, rfl⟩
            rw [hS9.out] at kb zF fin
            have k1 : ¬ 9223372036854775807 < 0 + n := by have := HLE.out; have := hn.out; omega
            have k2 : ¬ 9223372036854775807 < n := by have := HLE.out; have := hn.out; omega
            have sS : (⟨#[]⟩ : ByteArray).size = 0 := rfl
            go_wp2_with fail
            go_ret
            exact ⟨congrArg (fun x => Ending.returned (Value.string x)) fin.out, B8.out⟩
end Go.Proofs.YtfonpegkaajnkaaDoor.Tx
