/-
  datetext: Text; the document's digits, Text; walked.
-/
import Derived.Test.YthbgkokepnifdaaDoorDtPad
import Derived.Test.YthbgkokepnifdaaDoorCivilDay
import Derived.Test.YthbgkokepnifdaaDoorCivilRDate
namespace Go.Proofs.YthbgkokepnifdaaDoor.Dt
open Go Go.RowKit
set_option linter.unusedSimpArgs false
set_option linter.unusedVariables false
attribute [local go_sem ↓] Go.wp_at_zero Go.wp_at_succ

/-- a day's text, or none -/
def TextOf (n : Int) (l : List UInt8) : Prop := (1 ≤ n ∧ n ≤ 3652059 → ∃ y m d : Nat, Cal.IsDate n y m d ∧ l = txt y m d) ∧ (¬ (1 ≤ n ∧ n ≤ 3652059) → l = [])
theorem TextOf.eq {n : Int} {l l' : List UInt8} (h : TextOf n l) (h' : TextOf n l') : l = l' := by
  by_cases c : 1 ≤ n ∧ n ≤ 3652059
  · obtain ⟨y, m, d, e, rfl⟩ := h.1 c
    obtain ⟨y', m', d', e', rfl⟩ := h'.1 c
    obtain ⟨q1, q2, q3⟩ := Cal.isDate_uniq n _ _ _ _ _ _ e e'
    obtain rfl : y = y' := by omega
    obtain rfl : m = m' := by omega
    obtain rfl : d = d' := by omega
    rfl
  · rw [h.2 c, h'.2 c]
theorem TextOf.len {n : Int} {l : List UInt8} (h : TextOf n l) : l.length ≤ 10 := by
  by_cases c : 1 ≤ n ∧ n ≤ 3652059
  · obtain ⟨y, m, d, _, rfl⟩ := h.1 c
    exact Nat.le_refl 10
  · rw [h.2 c]; simp
theorem nats {n y m d : Int} (h : Cal.IsDate n y m d) : ∃ a b c : Nat, (a : Int) = y ∧ (b : Int) = m ∧ (c : Int) = d ∧ a < 10000 ∧ b < 100 ∧ c < 100 := by
  obtain ⟨⟨h1, h2, h3, h4, h5, h6⟩, _⟩ := h
  have := Cal.len_bd y m
  exact ⟨y.toNat, m.toNat, d.toNat, by omega, by omega, by omega, by omega, by omega, by omega⟩
/-- what is told of a day -/
def TextPost (n : Int) (w : World) (e : Ending) (w' : World) : Prop := ∃ l, TextOf n l ∧ e = .returned (.string (bs l)) ∧ Below w.heap.size w w'
theorem text_is {w : World} (n : Int) (he : Env w) : Calls Tryd.prog 11 #[.int .i64 n] w (TextPost n w) := by
  by_cases h : 1 ≤ n ∧ n ≤ 3652059
  · have A := date_yes n w h.1 h.2
    have HN := Lib.hid h
    have HE := Lib.hid he
    clear h he
    go_enter Tryd.func11, Tryd.ntmps11
    go_upto_region 4 with (go_at_call 19; (with_reducible refine A.mono ?_); rintro e w1 ⟨y, m, d, hd, rfl, b1⟩; have B1 := Lib.hid b1; have HD := Lib.hid hd; clear b1 hd A)
    obtain ⟨a, b, c, rfl, rfl, rfl, h1, h2, h3⟩ := nats HD.out
    have P := padded_is (w := w1.alloc (.cells #[.int .i64 (a : Int), .int .i64 (b : Int), .int .i64 (c : Int)] 3)) a b c (Elem.arg_lit (E := intE) (w := w1) [(a : Int), (b : Int), (c : Int)] 3 rfl 3) h1 h2 h3 ((HE.out.below B1.out).below (ba _ _))
    have P2 : Hid (Calls Tryd.prog 20 #[.slice (some ⟨w1.heap.size, 0, none⟩) 3 3] (w1.alloc (.cells #[.int .i64 (a : Int), .int .i64 (b : Int), .int .i64 (c : Int)] 3)) fun e w' => e = .returned (.string (bs (txt a b c))) ∧ Below (w1.alloc (.cells #[.int .i64 (a : Int), .int .i64 (b : Int), .int .i64 (c : Int)] 3)).heap.size (w1.alloc (.cells #[.int .i64 (a : Int), .int .i64 (b : Int), .int .i64 (c : Int)] 3)) w') := P
    clear P h1 h2 h3
    go_wp2_with (go_at_call 20; (with_reducible refine P2.out.mono ?_); rintro e w2 ⟨rfl, b2⟩; have B2 := Lib.hid b2; clear b2)
    go_ret
    exact ⟨_, ⟨fun _ => ⟨a, b, c, HD.out, rfl⟩, fun k => absurd HN.out k⟩, rfl, bt B1.out (bt (ba _ _) B2.out)⟩
  · have A := date_no n w h
    have HN := Lib.hid h
    clear h he
    go_enter Tryd.func11, Tryd.ntmps11
    go_wp2_with (go_at_call 19; (with_reducible refine A.mono ?_); rintro e w1 ⟨rfl, b1⟩; have B1 := Lib.hid b1; clear b1 A)
    go_ret
    exact ⟨[], ⟨fun k => absurd k HN.out, fun _ => rfl⟩, rfl, B1.out⟩
theorem one_byte (w : World) (q : Nat) : (convert 54 9 (.slice (some ⟨w.heap.size, 0, none⟩) 1 1)).run Tryd.prog (w.alloc (.cells #[.int .u8 (48 + (q : Int) % 10)] 5)) = .ok (.string (bs [dg q])) (w.alloc (.cells #[.int .u8 (48 + (q : Int) % 10)] 5)) := by
  have := run_convert_bytes_back (P := Tryd.prog) (w.alloc (.cells #[.int .u8 (48 + (q : Int) % 10)] 5)) 54 9 5 ⟨w.heap.size, 0, none⟩ 1 [dg q] Tryd.underlying54 Tryd.underlying5 Tryd.underlying9 (fun j hj => by
    have hj0 : j = 0 := by simp only [List.length_cons, List.length_nil] at hj; omega
    subst hj0
    show (w.alloc _).cell? ⟨w.heap.size, 0 + 0, none⟩ = some (.int .u8 ((dg q).toNat : Int))
    rw [dg_nat]
    push_cast
    rw [World.cell?_alloc_at _ _ _ _ rfl]; rfl)
  exact this
theorem cat_one (n k q : Nat) (hq : n / 10 ^ k = q) : bs [dg q] ++ bs (lowD n k) = bs (lowD n (k + 1)) := by
  subst hq
  unfold bs
  apply ByteArray.ext
  rw [ByteArray.data_append]
  simp [lowD]
set_option maxRecDepth 100000 in
set_option maxHeartbeats 1000000 in
theorem digits_is {w : World} (n many : Nat) (hm : many ≤ 4) (hn : n < 10000) : Calls Tryd.prog 22 #[.int .i64 (n : Int), .int .i64 (many : Int)] w fun e w' => e = .returned (.string (bs (lowD n many))) ∧ Below w.heap.size w w' := by
  go_enter Tryd.func22, Tryd.ntmps22
  go_wp2_with fail
  go_loopw [0, 5, 6] (fun q s i wr => ∃ k : Nat, q = .int .i64 ((n / 10 ^ k : Nat) : Int) ∧ s = .string (bs (lowD n k)) ∧ i = .int .i64 (k : Int) ∧ k ≤ many ∧ Hid (Below w.heap.size w wr)) (fun _ _ i _ => many - (intOf i).toNat)
  case atStart => exact ⟨0, by simp, rfl, rfl, by omega, Below.refl _ _⟩
  case round =>
    obtain ⟨wo, rfl⟩ : ∃ wo : World, wo = wr := ⟨_, rfl⟩
    obtain ⟨k, rfl, rfl, rfl, hk, BB⟩ := hrel
    by_cases hkl : k < many
    · have kw : IntKind.i64.wrap ((k : Int) + 1) = (k : Int) + 1 := by rw [IntWalk.i64_left]; exact IntWalk.wrap64_in _ (by omega)
      obtain ⟨q, hq⟩ : ∃ q : Nat, Hid (n / 10 ^ k = q) := ⟨_, rfl⟩
      have ql : q < 10000 := by rw [← hq.out]; exact Nat.lt_of_le_of_lt (Nat.div_le_self _ _) hn
      rw [hq.out]
      have HK := Lib.hid hkl
      have HM := Lib.hid hm
      have hz : (bs (lowD n k)).size = k := by rw [bs_size, lowD_len]
      have hz1 : (bs [dg q]).size = 1 := rfl
      have c1 : ¬ 9223372036854775807 < 1 + k := by omega
      have kc := fun w => one_byte w q
      have cq : Hid (∃ K, (q / 10 : Nat) = n / 10 ^ K ∧ K = k + 1 ∧ bs [dg q] ++ bs (lowD n k) = bs (lowD n K)) := ⟨k + 1, by rw [← hq.out, Nat.pow_succ, Nat.div_div_eq_div_mul], rfl, cat_one n k q hq.out⟩
      clear hkl hk hm
      go_wp2_with fail
      obtain ⟨K, k1, rfl, k2⟩ := cq.out
      refine ⟨⟨k + 1, ?_, congrArg Value.string k2, rfl, HK.out, BB.out.trans ((ba wo _).mono BB.out.size)⟩, ?_⟩
      · rw [← k1]; rfl
      · show many - ((k : Int) + 1).toNat < many - (k : Int).toNat
        have := HK.out; omega
    · have hke : k = many := by omega
      subst hke
      clear hkl hk
      go_wp2_with fail
      go_ret
      exact ⟨rfl, BB.out⟩
end Go.Proofs.YthbgkokepnifdaaDoor.Dt
