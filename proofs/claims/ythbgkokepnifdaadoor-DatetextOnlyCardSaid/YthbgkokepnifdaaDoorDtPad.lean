/-
  datetext: padded, walked.
-/
import Derived.Test.YthbgkokepnifdaaDoorDtKit
namespace Go.Proofs.YthbgkokepnifdaaDoor.Dt
open Go Go.RowKit
set_option linter.unusedSimpArgs false
set_option linter.unusedVariables false
attribute [local go_sem ↓] Go.wp_at_zero Go.wp_at_succ

def bs (l : List UInt8) : ByteArray := ⟨l.toArray⟩
def words3 (y m d : Nat) : List ByteArray := [bs (dig4 y), bs (dig2 m), bs (dig2 d)]
def long (k : Nat) : Nat := if k = 0 then 4 else 2
theorem word_at (y m d : Nat) (hy : y < 10000) (hm : m < 100) (hd : d < 100) (k n : Nat) (h : [y, m, d][k]? = some n) : (words3 y m d)[k]? = some (bs (padTo (long k) (Lib.decDigits n))) ∧ n < 10000 ∧ (Lib.decDigits n).length ≤ long k ∧ 1 ≤ (Lib.decDigits n).length := by
  have key : ∀ n, n < 100 → bs (dig2 n) = bs (padTo 2 (Lib.decDigits n)) ∧ (Lib.decDigits n).length ≤ 2 ∧ 1 ≤ (Lib.decDigits n).length := fun n hn => by
    refine ⟨by rw [pad2_eq n hn], ?_⟩
    by_cases h1 : n < 10
    · rw [dd1 n h1]; simp
    · rw [dd2 n h1, dd1 (n / 10) (by omega)]; simp
  match k, h with
  | 0, h =>
    simp only [List.getElem?_cons_zero, Option.some.injEq] at h
    subst h
    have e := pad4_eq y hy
    refine ⟨by show some (bs (dig4 y)) = some (bs (padTo 4 _)); rw [e], hy, ?_⟩
    have e2 := congrArg List.length e
    unfold padTo at e2
    simp only [List.length_append, List.length_replicate] at e2
    have e3 : (dig4 y).length = 4 := rfl
    have e4 : 1 ≤ (Lib.decDigits y).length := by
      by_cases h1 : y < 10
      · rw [dd1 y h1]; simp
      · rw [dd2 y h1]; simp
    show _ ≤ 4 ∧ _
    omega
  | 1, h =>
    simp only [List.getElem?_cons_succ, List.getElem?_cons_zero, Option.some.injEq] at h
    subst h
    exact ⟨congrArg some (key m hm).1, by omega, (key m hm).2⟩
  | 2, h =>
    simp only [List.getElem?_cons_succ, List.getElem?_cons_zero, Option.some.injEq] at h
    subst h
    exact ⟨congrArg some (key d hd).1, by omega, (key d hd).2⟩
  | k + 3, h => simp at h
theorem joined (y m d : Nat) : Lib.join ((words3 y m d).map (·.data.toList)) [45] = txt y m d := by
  unfold words3 bs
  simp [Lib.join, List.intercalate, txt, List.intersperse]
theorem zero_ahead (j : Nat) (D : List UInt8) : (⟨#[48]⟩ : ByteArray) ++ bs (List.replicate j 48 ++ D) = bs (List.replicate (j + 1) 48 ++ D) := by
  unfold bs
  apply ByteArray.ext
  rw [ByteArray.data_append]
  simp [List.replicate_succ]
theorem bs_size (l : List UInt8) : (bs l).size = l.length := by unfold bs; rfl
set_option maxRecDepth 100000 in
set_option maxHeartbeats 2000000 in
theorem padded_is {w : World} {v : Value} (y m d : Nat) (ha : intE.Arg w v [(y : Int), (m : Int), (d : Int)]) (hy : y < 10000) (hm : m < 100) (hd : d < 100) (he : Env w) :
    Calls Tryd.prog 20 #[v] w fun e w' => e = .returned (.string (bs (txt y m d))) ∧ Below w.heap.size w w' := by
  obtain ⟨ao, cap, rfl, hcap, hcell⟩ := ha
  have HC := Lib.hid hcell
  have HE := Lib.hid he
  have HW : Hid (∀ k n, [y, m, d][k]? = some n → (words3 y m d)[k]? = some (bs (padTo (long k) (Lib.decDigits n))) ∧ n < 10000 ∧ (Lib.decDigits n).length ≤ long k ∧ 1 ≤ (Lib.decDigits n).length) := fun k n h => word_at y m d hy hm hd k n h
  obtain ⟨W3, hW3⟩ : ∃ W3, Hid (words3 y m d = W3) := ⟨_, rfl⟩
  have W3L : Hid (W3.length = 3) := by show _ = _; rw [← hW3.out]; rfl
  clear hcell he hcap hy hm hd
  rw [show ([(y : Int), (m : Int), (d : Int)] : List Int).length = 3 from rfl]
  go_enter Tryd.func20, Tryd.ntmps20
  go_wp2_with fail
  go_loopw [3, 9] (fun v i wr => ∃ (k : Nat), i = .int .i64 (k : Int) ∧ k ≤ 3 ∧ Hid (strE.Row wr w.heap.size v (W3.take k)) ∧ Hid (Below w.heap.size w wr)) (fun _ i _ => 3 - (intOf i).toNat)
  case atStart => exact ⟨0, rfl, by omega, Elem.Row.nil _ _, Below.refl _ _⟩
  case round =>
    obtain ⟨wo, rfl⟩ : ∃ wo : World, wo = wr := ⟨_, rfl⟩
    obtain ⟨k, rfl, hk, RR, BB⟩ := hrel
    by_cases hkl : k < 3
    · obtain ⟨n, hn⟩ : ∃ n, [y, m, d][k]? = some n := ⟨_, List.getElem?_eq_getElem hkl⟩
      obtain ⟨p1, p2, p3, p4⟩ := HW.out k n hn
      rw [hW3.out] at p1
      have hn2 : ([(y : Int), (m : Int), (d : Int)] : List Int)[k]? = some (n : Int) := by
        have : ([y, m, d].map (fun x : Nat => (x : Int)))[k]? = some (n : Int) := by rw [List.getElem?_map, hn]; rfl
        exact this
      obtain ⟨bk, o, rfl, hbk, hcl⟩ := HC.out k _ hn2
      have c0 := hcl 0 _ rfl
      rw [show o + k * intE.sz + 0 = o + k by show o + k * 1 + 0 = _; omega] at c0
      replace c0 := (BB.out.cell (p := ⟨bk, _, none⟩) hbk).trans c0
      have i0 : (0 : Int) ≤ (k : Int) := by omega
      have i1 : (k : Int) < 3 := by omega
      have HK := Lib.hid hkl
      have kw : IntKind.i64.wrap ((k : Int) + 1) = (k : Int) + 1 := by rw [IntWalk.i64_left]; exact IntWalk.wrap64_in _ (by omega)
      have A1 := itoa_any n p2 (HE.out.below BB.out)
      obtain ⟨D, hD⟩ : ∃ D, Hid (Lib.decDigits n = D) := ⟨_, rfl⟩
      rw [hD.out] at A1 p1 p3 p4
      have P1 := Lib.hid p1; have P3 := Lib.hid p3; have P4 := Lib.hid p4
      clear hn hn2 hcl hbk hk hkl p1 p2 p3 p4
      obtain ⟨aw, cw, hvw, _, _⟩ := RR.out.form
      obtain ⟨nl, hnl⟩ : ∃ nl : Nat, Hid ((W3.take k).length = nl) := ⟨_, rfl⟩
      rw [hnl.out] at hvw
      subst hvw
      go_upto_region 6 with (go_at_call 28; (with_reducible refine A1.mono ?_); rintro e w2 ⟨rfl, b2⟩; have B2 := Lib.hid b2; clear b2 A1)
      rw [show (⟨D.toArray⟩ : ByteArray) = bs (List.replicate 0 48 ++ D) from rfl]
      clear c0 i0 i1
      go_loop [6] (fun s => ∃ j : Nat, s = .string (bs (List.replicate j 48 ++ D)) ∧ Hid (j + D.length ≤ long k)) (fun s => match s with | .string b => 4 - b.size | _ => 0)
      case atStart => exact ⟨0, rfl, by have := P3.out; show 0 + _ ≤ _; omega⟩
      case round =>
        obtain ⟨j, rfl, HJ⟩ := hrel
        have hsz : (bs (List.replicate j 48 ++ D)).size = j + D.length := by rw [bs_size, List.length_append, List.length_replicate]
        have hz := zero_ahead j D
        have lk : long k = 4 ∧ k = 0 ∨ long k = 2 ∧ k ≠ 0 := by
          unfold long
          by_cases k0 : k = 0
          · rw [if_pos k0]; exact .inl ⟨rfl, k0⟩
          · rw [if_neg k0]; exact .inr ⟨rfl, k0⟩
        have HLK := Lib.hid lk
        clear lk
        obtain ⟨z, hzz⟩ : ∃ z : Nat, Hid (j + D.length = z) := ⟨_, rfl⟩
        rw [hzz.out] at hsz
        have hsum := hzz
        have RND : Hid ((∃ j_1, bs (List.replicate (j + 1) 48 ++ D) = bs (List.replicate j_1 48 ++ D) ∧ Hid (j_1 + D.length ≤ long k)) ∧ 4 - (bs (List.replicate (j + 1) 48 ++ D)).size < 4 - z ∨ long k ≤ z) := by
          show _ ∨ _
          by_cases c : long k ≤ z
          · exact .inr c
          · refine .inl ⟨⟨j + 1, rfl, by have := hzz.out; show _ ≤ _; omega⟩, ?_⟩
            rw [bs_size, List.length_append, List.length_replicate]
            have := hzz.out; have := HLK.out; omega
        by_cases s2 : z < 2
        · have d1 : decide (z < 2) = true := by simpa using s2
          have d2 : decide ((z : Int) < 2) = true := by simp; omega
          have R := RND.out.resolve_right (by have := HLK.out; omega)
          replace R := Lib.hid R
          have c1 : ¬ 9223372036854775807 < 1 + z := by omega
          have c2 : ¬ 9223372036854775807 < (⟨#[48]⟩ : ByteArray).size + z := by show ¬ _ < 1 + z; omega
          clear s2 RND
          go_wp2_with fail
          exact ⟨R.out.1.imp fun _ h => ⟨congrArg Value.string h.1, h.2⟩, by show 4 - (bs (List.replicate (j + 1) 48 ++ D)).size < 4 - (bs (List.replicate j 48 ++ D)).size; rw [hsz]; exact R.out.2⟩
        · have d1 : decide (z < 2) = false := by simpa using s2
          have d2 : decide ((z : Int) < 2) = false := by simp; omega
          have HS2 := Lib.hid s2
          by_cases k0 : k = 0
          · have e1 : decide (k = 0) = true := by simpa using k0
            have e2 : decide ((k : Int) = 0) = true := by simp; omega
            have e3 : ((k : Int) == 0) = true := by simp; omega
            have HK0 := Lib.hid k0
            by_cases s4 : z < 4
            · have d3 : decide (z < 4) = true := by simpa using s4
              have d4 : decide ((z : Int) < 4) = true := by simp; omega
              have R := RND.out.resolve_right (by have := HLK.out; omega)
              replace R := Lib.hid R
              have c1 : ¬ 9223372036854775807 < 1 + z := by omega
              have c2 : ¬ 9223372036854775807 < (⟨#[48]⟩ : ByteArray).size + z := by show ¬ _ < 1 + z; omega
              clear s2 s4 RND k0
              go_wp2_with fail
              exact ⟨R.out.1.imp fun _ h => ⟨congrArg Value.string h.1, h.2⟩, by show 4 - (bs (List.replicate (j + 1) 48 ++ D)).size < 4 - (bs (List.replicate j 48 ++ D)).size; rw [hsz]; exact R.out.2⟩
            · have d3 : decide (z < 4) = false := by simpa using s4
              have d4 : decide ((z : Int) < 4) = false := by simp; omega
              have hlz : Hid (long k = z) := by have := HLK.out; have := HJ.out; have := hzz.out; show _ = _; omega
              clear s2 s4 RND k0 hz
              have hpad : Hid (padTo (long k) D = List.replicate j 48 ++ D) := by
                show _ = _; unfold padTo; rw [show long k - D.length = j by have := hsum.out; have := hlz.out; omega]
              have P5 : Hid (W3[k]? = some (bs (List.replicate j 48 ++ D))) := by show _ = _; rw [← hpad.out]; exact P1.out
              obtain ⟨S, hS⟩ : ∃ S : ByteArray, Hid (bs (List.replicate j 48 ++ D) = S) := ⟨bs (List.replicate j 48 ++ D), Lib.hid rfl⟩
              rw [hS.out] at P5 hsz ⊢
              have RA := Lib.hid (Elem.Row.below RR.out (bt B2.out (ba w2 (.cells #[.string S] 9))))
              have SRC : Hid (strE.Arg (w2.alloc (.cells #[.string S] 9)) (.slice (some ⟨w2.heap.size, 0, none⟩) 1 1) [S]) := Elem.arg_one (E := strE) (w := w2) S 9
              have HFL : Hid ((W3.take k).length + [S].length ≤ 1000001) := by have := W3L.out; have := HK.out; show _ + 1 ≤ _; rw [List.length_take]; omega
              have HB : Hid (w.heap.size ≤ (w2.alloc (.cells #[.string S] 9)).heap.size) := by have := BB.out.size; have := B2.out.size; show _ ≤ _; rw [World.size_alloc]; omega
              clear hsum hpad hS
              go_wp2_with (at_builtin; go_loud (refine Elem.app (E := strE) rfl _ _ rfl w.heap.size (.slice aw nl cw) (W3.take k) (.slice (some ⟨w2.heap.size, 0, none⟩) 1 1) [S] rfl rfl RA.out SRC.out HFL.out (by decide) HB.out ?_; intro v5 w5 r5 g5 l5; have R5 := Lib.hid r5; have G5 := Lib.hid g5; clear r5 g5 l5))
              go_roundw
              case rel =>
                refine ⟨k + 1, rfl, by have := HK.out; omega, ?_, ?_⟩
                · show strE.Row _ _ _ (W3.take (k + 1))
                  rw [List.take_add_one, P5.out]; exact R5.out
                · exact (BB.out.trans ((bt B2.out (ba w2 _)).mono BB.out.size)).grown G5.out (by have := HB.out; exact this) (fun z hz => (RA.out.lt z hz).1)
              case measure => show 3 - ((k : Int) + 1).toNat < 3 - ((k : Int)).toNat; have := HK.out; omega
          · have e1 : decide (k = 0) = false := by simpa using k0
            have e2 : decide ((k : Int) = 0) = false := by simp; omega
            have e3 : ((k : Int) == 0) = false := by simp; omega
            have hlz : Hid (long k = z) := by have := HLK.out; have := HJ.out; have := hzz.out; show _ = _; omega
            clear s2 RND k0 hz
            have hpad : Hid (padTo (long k) D = List.replicate j 48 ++ D) := by
              show _ = _; unfold padTo; rw [show long k - D.length = j by have := hsum.out; have := hlz.out; omega]
            have P5 : Hid (W3[k]? = some (bs (List.replicate j 48 ++ D))) := by show _ = _; rw [← hpad.out]; exact P1.out
            obtain ⟨S, hS⟩ : ∃ S : ByteArray, Hid (bs (List.replicate j 48 ++ D) = S) := ⟨bs (List.replicate j 48 ++ D), Lib.hid rfl⟩
            rw [hS.out] at P5 hsz ⊢
            have RA := Lib.hid (Elem.Row.below RR.out (bt B2.out (ba w2 (.cells #[.string S] 9))))
            have SRC : Hid (strE.Arg (w2.alloc (.cells #[.string S] 9)) (.slice (some ⟨w2.heap.size, 0, none⟩) 1 1) [S]) := Elem.arg_one (E := strE) (w := w2) S 9
            have HFL : Hid ((W3.take k).length + [S].length ≤ 1000001) := by have := W3L.out; have := HK.out; show _ + 1 ≤ _; rw [List.length_take]; omega
            have HB : Hid (w.heap.size ≤ (w2.alloc (.cells #[.string S] 9)).heap.size) := by have := BB.out.size; have := B2.out.size; show _ ≤ _; rw [World.size_alloc]; omega
            clear hsum hpad hS
            go_wp2_with (at_builtin; go_loud (refine Elem.app (E := strE) rfl _ _ rfl w.heap.size (.slice aw nl cw) (W3.take k) (.slice (some ⟨w2.heap.size, 0, none⟩) 1 1) [S] rfl rfl RA.out SRC.out HFL.out (by decide) HB.out ?_; intro v5 w5 r5 g5 l5; have R5 := Lib.hid r5; have G5 := Lib.hid g5; clear r5 g5 l5))
            go_roundw
            case rel =>
              refine ⟨k + 1, rfl, by have := HK.out; omega, ?_, ?_⟩
              · show strE.Row _ _ _ (W3.take (k + 1))
                rw [List.take_add_one, P5.out]; exact R5.out
              · exact (BB.out.trans ((bt B2.out (ba w2 _)).mono BB.out.size)).grown G5.out (by have := HB.out; exact this) (fun z hz => (RA.out.lt z hz).1)
            case measure => show 3 - ((k : Int) + 1).toNat < 3 - ((k : Int)).toNat; have := HK.out; omega
    · have hke : k = 3 := by omega
      subst hke
      rw [List.take_of_length_le (by rw [W3L.out]; exact Nat.le_refl _)] at RR
      have JW := Lib.hid RR
      obtain ⟨aw, cw, hvw, hcw, hgw⟩ := RR.out.form
      rw [W3L.out] at hvw hcw hgw
      obtain ⟨g, rfl⟩ := hgw (by omega)
      subst hvw
      have cells : ∀ (j : Nat) x, W3[j]? = some x → wo.cell? ⟨g, 0 + j, none⟩ = some (.string x) := fun j x hx => by
        obtain ⟨ao', cap', e, _, hc⟩ := JW.out.arg
        obtain ⟨b', o', e1, _, hcc⟩ := hc j x hx
        simp only [Value.slice.injEq] at e
        obtain ⟨e0, _, _⟩ := e
        subst e0
        cases e1
        have := hcc 0 _ rfl
        rw [show 0 + j * strE.sz + 0 = 0 + j by show 0 + j * 1 + 0 = _; omega] at this
        exact this
      have A1 := Tryd.strings_Join g 0 cw W3 ⟨#[45]⟩ wo cells (JW.out.lt g rfl).2 (by rw [W3L.out]; omega) (by rw [W3L.out]; exact hcw) (by rw [← hW3.out, joined]; show 10 ≤ _; omega)
      rw [W3L.out, ← hW3.out, joined] at A1
      have A2 : Hid (Calls Tryd.prog 29 #[.slice (some ⟨g, 0, none⟩) 3 cw, .string ⟨#[45]⟩] wo fun e w' => e = .returned (.string (bs (txt y m d))) ∧ Below wo.heap.size wo w') := A1
      clear A1 cells hgw hcw
      go_wp2_with (go_at_call 29; (with_reducible refine A2.out.mono ?_); rintro e w5 ⟨rfl, b5⟩; have B5 := Lib.hid b5; clear b5)
      go_ret
      exact ⟨rfl, BB.out.trans (B5.out.mono BB.out.size)⟩
end Go.Proofs.YthbgkokepnifdaaDoor.Dt
