/-
  TWO VARIABLES of type api.Wide, just laid; THE WALK of wide's Times; THE WALKS of wide's parts, Div; THE WALKS of wide's closures, of rounded at each, of Even and Floor. (Printed by gen_round.py.).
-/
import Derived.Test.YtfonpegkaajnkaaDoorM22
import Derived.Test.YtfonpegkaajnkaaDoorM24
/-
  TWO VARIABLES of type api.Wide, just laid.
-/
namespace Go.Proofs.YtfonpegkaajnkaaDoor
open Go.RowKit

theorem two_wide (w : World) (n1 n2 : Bool) (h1 l1 h2 l2 : Int) :
    WAt ((w.alloc (.cells #[.bool n1, .int .u64 h1, .int .u64 l1] 101)).alloc (.cells #[.bool n2, .int .u64 h2, .int .u64 l2] 101)) w.heap.size n1 h1 l1 ∧
    WAt ((w.alloc (.cells #[.bool n1, .int .u64 h1, .int .u64 l1] 101)).alloc (.cells #[.bool n2, .int .u64 h2, .int .u64 l2] 101)) (w.heap.size + 1) n2 h2 l2 := by
  have := wAt_new (w.alloc (.cells #[.bool n1, .int .u64 h1, .int .u64 l1] 101)) n2 h2 l2
  rw [World.size_alloc] at this
  exact ⟨WAt.below (wAt_new w n1 h1 l1) (ba _ _), this⟩

end Go.Proofs.YtfonpegkaajnkaaDoor
/-
  THE WALK of wide's Times.
-/
namespace Go.Proofs.YtfonpegkaajnkaaDoor
set_option linter.unusedSimpArgs false
set_option linter.unusedVariables false
open Go.RowKit
attribute [local go_sem ↓] Go.wp_at_zero Go.wp_at_succ

/-- what a sum or product answers -/
def ovV (z : Int) : Value := if z.natAbs < 340282366920938463463374607431768211456 then .tuple #[wv z, .int .i64 0] else .tuple #[.agg #[.bool false, .int .u64 0, .int .u64 0], .int .i64 11]
theorem times_nat (hi lo m O H0 C L H M : Nat) (a : lo * m = C * 18446744073709551616 + L) (b : hi * m = O * 18446744073709551616 + H0) (c : H0 + C = M * 18446744073709551616 + H) :
    (hi * 18446744073709551616 + lo) * m = (O + M) * 340282366920938463463374607431768211456 + (H * 18446744073709551616 + L) := by
  rw [Nat.add_mul, Nat.mul_right_comm, a, b]; omega
theorem wz_times (n : Bool) (hi lo m H L : Nat) (h : (hi * 18446744073709551616 + lo) * m = H * 18446744073709551616 + L) : wz n hi lo * (m : Int) = wz n H L := by
  have e : ((hi : Int) * 18446744073709551616 + (lo : Int)) * (m : Int) = (H : Int) * 18446744073709551616 + (L : Int) := by
    have := congrArg (fun x : Nat => (x : Int)) h
    simpa using this
  unfold wz
  cases n
  · simpa using e
  · simp only [if_true, Int.neg_mul, e]

end Go.Proofs.YtfonpegkaajnkaaDoor
/-
  THE WALKS of wide's parts, Div.
-/
namespace Go.Proofs.YtfonpegkaajnkaaDoor
set_option linter.unusedSimpArgs false
set_option linter.unusedVariables false
open Go.RowKit
attribute [local go_sem ↓] Go.wp_at_zero Go.wp_at_succ

/-- a number divided: the two words, and what is left -/
theorem parts_plain (hi lo d : Nat) (hd : 0 < d) :
    (hi * 18446744073709551616 + lo) / d = hi / d * 18446744073709551616 + (hi % d * 18446744073709551616 + lo) / d ∧ (hi * 18446744073709551616 + lo) % d = (hi % d * 18446744073709551616 + lo) % d := by
  have := Dv.bothB 18446744073709551616 0 hi lo d hd
  rw [Nat.zero_mul, Nat.zero_add] at this
  exact this
theorem parts_lt (hi lo d : Nat) (hd : 0 < d) (hl : lo < 18446744073709551616) : (hi % d * 18446744073709551616 + lo) / d < 18446744073709551616 := by
  rw [Nat.div_lt_iff_lt_mul hd]
  have l := Nat.mod_lt hi hd
  have := Nat.mul_le_mul_right 18446744073709551616 (show hi % d + 1 ≤ d by omega)
  rw [Nat.add_mul, Nat.one_mul] at this
  rw [Nat.mul_comm 18446744073709551616 d]
  omega

set_option maxRecDepth 100000 in
set_option maxHeartbeats 1000000 in
theorem parts_any (n : Bool) (hi lo d : Nat) (w : World) (h1 : hi < 18446744073709551616) (h2 : lo < 18446744073709551616) (hd : 0 < d) (h3 : d < 18446744073709551616) :
    Calls Tryd.prog 128 #[.agg #[.bool n, .int .u64 (hi : Int), .int .u64 (lo : Int)], .int .u64 (d : Int)] w fun e w' =>
      e = .returned (.tuple #[.int .u64 ((hi / d : Nat) : Int), .int .u64 (((hi % d * 18446744073709551616 + lo) / d : Nat) : Int), .int .u64 (((hi * 18446744073709551616 + lo) % d : Nat) : Int)]) ∧ Below w.heap.size w w' := by
  rw [(parts_plain hi lo d hd).2]
  have ny : ¬ ((d : Int) = 0) := by omega
  have q1 : IntKind.u64.wrap ((hi : Int).tdiv (d : Int)) = ((hi / d : Nat) : Int) := tdivN _ _ h1
  have lq := Nat.div_le_self hi d
  have lr := Nat.mod_le hi d
  have lm := Nat.mod_lt hi hd
  obtain ⟨Q, hQ⟩ : ∃ Q : Nat, Hid (hi / d = Q) := ⟨_, rfl⟩
  obtain ⟨R, hR⟩ : ∃ R : Nat, Hid (hi % d = R) := ⟨_, rfl⟩
  rw [hQ.out] at q1 lq ⊢
  rw [hR.out] at lr lm ⊢
  have q2 : IntKind.u64.wrap ((hi : Int) / (d : Int)) = (Q : Int) := by rw [← Int.natCast_ediv, hQ.out]; exact wrapTo _ _ rfl (by omega)
  have q3 : IntKind.u64.wrap ((hi : Int).tmod (d : Int)) = (R : Int) := by rw [show (hi : Int).tmod (d : Int) = ((hi % d : Nat) : Int) from (Int.ofNat_tmod hi d).symm, hR.out]; exact wrapTo _ _ rfl (by omega)
  have q4 : IntKind.u64.wrap ((hi : Int) % (d : Int)) = (R : Int) := by rw [← Int.natCast_emod, hR.out]; exact wrapTo _ _ rfl (by omega)
  have q5 : (hi : Int) / (d : Int) = (Q : Int) := by rw [← Int.natCast_ediv, hQ.out]
  have q6 : (hi : Int) % (d : Int) = (R : Int) := by rw [← Int.natCast_emod, hR.out]
  have q7 : IntKind.u64.wrap (Q : Int) = (Q : Int) := wrapTo _ _ rfl (by omega)
  have HL : Hid (R < d ∧ d < 18446744073709551616 ∧ lo < 18446744073709551616) := ⟨lm, h3, h2⟩
  clear lq lr lm h1 h2 h3
  go_enter Tryd.func128, Tryd.ntmps128
  go_upto_region 1 with fail
  generalize hW : World.alloc w _ = W1
  have X1 : Hid (WAt W1 w.heap.size n hi lo) := by rw [← hW]; exact wAt_new w _ _ _
  have B1 : Hid (Below w.heap.size w W1) := by rw [← hW]; exact ba _ _
  clear hW
  have d1 := X1.out.c1; have d2 := X1.out.c2
  go_cut [4, 6] (fun s4 s6 wx => s4 = .int .u64 (Q : Int) ∧ s6 = .int .u64 (R : Int) ∧ Below W1.heap.size W1 wx)
  case first =>
    go_quiet (fail)
    go_wp2_with fail
    go_meet
    case rel =>
      exact ⟨by simp only [q7], by first | rfl | simp only [q6, q4, q3], (Below.refl _ _).trans ⟨rfl, rfl, rfl, Nat.le_refl _, fun _ _ => rfl⟩⟩
  case rest =>
    obtain ⟨rfl, rfl, hbl⟩ := hcut
    have X2 := Lib.hid (WAt.below X1.out hbl)
    have B2 := Lib.hid (bt B1.out hbl)
    clear d1 d2 hbl q1 q2 q3 q4 q5 q6
    have d1 := X2.out.c1; have d2 := X2.out.c2
    go_wp2_with fail
    refine (div64_any R lo d HL.out.1 HL.out.2.1 HL.out.2.2 _).mono ?_
    rintro e w3 ⟨rfl, b3⟩
    have B3 := Lib.hid (bt B2.out b3)
    clear b3 d1 d2
    obtain ⟨A, hA⟩ : ∃ A : Nat, Hid ((R * 18446744073709551616 + lo) / d = A) := ⟨_, rfl⟩
    obtain ⟨C, hC⟩ : ∃ C : Nat, Hid ((R * 18446744073709551616 + lo) % d = C) := ⟨_, rfl⟩
    rw [hA.out, hC.out]
    go_wp2_with fail
    refine bodyPost_ret (v := .tuple #[.int .u64 (Q : Int), .int .u64 (A : Int), .int .u64 (C : Int)]) (by simp [results, Tryd.results128, go_sem]) rfl ⟨by rw [hA.out, hC.out], B3.out⟩

theorem wz_tdiv (n : Bool) (hi lo d : Nat) (hd : 0 < d) : wz n (hi / d : Nat) ((hi % d * 18446744073709551616 + lo) / d : Nat) = (wz n hi lo).tdiv (d : Int) := by
  have e := (parts_plain hi lo d hd).1
  have a : wz false hi lo = ((hi * 18446744073709551616 + lo : Nat) : Int) := by unfold wz; simp
  have b : wz false (hi / d : Nat) ((hi % d * 18446744073709551616 + lo) / d : Nat) = (((hi * 18446744073709551616 + lo) / d : Nat) : Int) := by unfold wz; rw [e]; simp
  have c : ∀ x y : Int, wz true x y = -wz false x y := by intro x y; unfold wz; simp
  cases n
  · rw [a, b]; exact Int.ofNat_tdiv _ _
  · rw [c, c, a, b, Int.neg_tdiv]; exact congrArg _ (Int.ofNat_tdiv _ _)

/-- what Div answers -/
def divV (z : Int) (d : Nat) : Value := .tuple #[wv (z.tdiv (d : Int)), .int .u64 ((z.natAbs % d : Nat) : Int), .int .i64 0]
set_option maxRecDepth 100000 in
set_option maxHeartbeats 1000000 in
theorem wDiv_any (n : Bool) (hi lo d : Nat) (w : World) (h1 : hi < 18446744073709551616) (h2 : lo < 18446744073709551616) (hd : 0 < d) (h3 : d < 18446744073709551616) :
    Calls Tryd.prog 101 #[.agg #[.bool n, .int .u64 (hi : Int), .int .u64 (lo : Int)], .int .u64 (d : Int)] w fun e w' => e = .returned (divV (wz n hi lo) d) ∧ Below w.heap.size w w' := by
  have ny : ¬ ((d : Int) = 0) := by omega
  have ny' : ((d : Int) == 0) = false := by simp; omega
  have HD : Hid (hi < 18446744073709551616 ∧ lo < 18446744073709551616 ∧ 0 < d ∧ d < 18446744073709551616) := ⟨h1, h2, hd, h3⟩
  have lq := Nat.lt_of_le_of_lt (Nat.div_le_self hi d) h1
  have la := parts_lt hi lo d hd h2
  have ez := wz_tdiv n hi lo d hd
  unfold divV
  rw [wz_abs]
  obtain ⟨Q, hQ⟩ : ∃ Q : Nat, Hid (hi / d = Q) := ⟨_, rfl⟩
  obtain ⟨A, hA⟩ : ∃ A : Nat, Hid ((hi % d * 18446744073709551616 + lo) / d = A) := ⟨_, rfl⟩
  obtain ⟨C, hC⟩ : ∃ C : Nat, Hid ((hi * 18446744073709551616 + lo) % d = C) := ⟨_, rfl⟩
  rw [hQ.out] at lq ez; rw [hA.out] at la ez; rw [hC.out]
  obtain ⟨z, hz⟩ : ∃ z : Int, Hid ((wz n hi lo).tdiv (d : Int) = z) := ⟨_, rfl⟩
  rw [hz.out] at ez ⊢
  have HZ := Lib.hid ez; have HL := Lib.hid (And.intro lq la)
  clear h1 h2 hd h3 lq la ez
  go_enter Tryd.func101, Tryd.ntmps101
  go_wp2_with fail
  refine (parts_any n hi lo d _ HD.out.1 HD.out.2.1 HD.out.2.2.1 HD.out.2.2.2).mono ?_
  rintro e w1 ⟨rfl, b1⟩
  rw [hQ.out, hA.out, hC.out]
  have X : Hid (WAt w1 w.heap.size n hi lo) := WAt.below (WAt.below (wAt_new w n hi lo) (ba _ (.cells #[.bool false, .int .u64 0, .int .u64 0] 101))) b1
  have Y : Hid (WAt w1 (w.heap.size + 1) false 0 0) := by
    have := WAt.below (wAt_new (w.alloc (.cells #[.bool n, .int .u64 (hi : Int), .int .u64 (lo : Int)] 101)) false 0 0) b1
    rw [World.size_alloc] at this; exact this
  have B1 := Lib.hid (bt (ba _ _) (bt (ba _ _) b1))
  have d0 := X.out.c0
  clear b1
  go_wp2_with fail
  refine (put_any n Q A _ HL.out.1 HL.out.2).mono ?_
  rintro e w2 ⟨rfl, b2⟩
  rw [HZ.out]
  obtain ⟨nb, nh, nl, hv⟩ := wv_agg z
  rw [hv.out]
  have Y2 := Lib.hid (WAt.below Y.out b2)
  have r0 := Y2.out.c0; have r1 := Y2.out.c1; have r2 := Y2.out.c2; have f0 := Y2.out.f0; have f1 := Y2.out.f1; have f2 := Y2.out.f2
  have B2 := Lib.hid (bt B1.out b2)
  clear b2 d0 ny ny'
  go_wp2_with fail
  refine bodyPost_ret (v := .tuple #[.agg #[.bool nb, .int .u64 (nh : Int), .int .u64 (nl : Int)], .int .u64 (C : Int), .int .i64 0]) (by simp [results, Tryd.results101, go_sem, r0, r1, r2]) rfl ⟨by rw [hv.out], ((B2.out.setCell (by simp) _).setCell (by simp) _).setCell (by simp) _⟩

set_option maxRecDepth 100000 in
theorem wDiv_zero (n : Bool) (hi lo : Nat) (w : World) :
    Calls Tryd.prog 101 #[.agg #[.bool n, .int .u64 (hi : Int), .int .u64 (lo : Int)], .int .u64 0] w fun e w' => e = .returned (.tuple #[.agg #[.bool false, .int .u64 0, .int .u64 0], .int .u64 0, .int .i64 12]) ∧ Below w.heap.size w w' := by
  have Y : Hid (WAt ((w.alloc (.cells #[.bool n, .int .u64 (hi : Int), .int .u64 (lo : Int)] 101)).alloc (.cells #[.bool false, .int .u64 0, .int .u64 0] 101)) (w.heap.size + 1) false 0 0) := by
    have := wAt_new (w.alloc (.cells #[.bool n, .int .u64 (hi : Int), .int .u64 (lo : Int)] 101)) false 0 0
    rw [World.size_alloc] at this; exact this
  have r0 := Y.out.c0; have r1 := Y.out.c1; have r2 := Y.out.c2; have f0 := Y.out.f0; have f1 := Y.out.f1; have f2 := Y.out.f2
  go_enter Tryd.func101, Tryd.ntmps101
  go_wp2_with fail
  refine bodyPost_ret (v := .tuple #[.agg #[.bool false, .int .u64 0, .int .u64 0], .int .u64 0, .int .i64 12]) (by simp [results, Tryd.results101, go_sem, r0, r1, r2]) rfl ⟨rfl, ?_⟩
  first | exact bt (ba _ _) (ba _ _) | exact (((bt (ba _ _) (ba _ _)).setCell (by simp) _).setCell (by simp) _).setCell (by simp) _
end Go.Proofs.YtfonpegkaajnkaaDoor
/-
  THE WALKS of wide's closures, of rounded at each, of Even and Floor. (Printed by gen_round.py.)
-/
namespace Go.Proofs.YtfonpegkaajnkaaDoor
set_option linter.unusedSimpArgs false
set_option linter.unusedVariables false
open Go.RowKit
attribute [local go_sem ↓] Go.wp_at_zero Go.wp_at_succ

/-- the number of a sign and a size -/
def sz (n : Bool) (m : Nat) : Int := if n = true then -(m : Int) else (m : Int)
theorem sz_wz (n : Bool) (h l : Nat) : sz n (h * 18446744073709551616 + l) = wz n h l := by unfold sz wz; cases n <;> simp
theorem oddN (A : Nat) (hA : A < 18446744073709551616) (o : Bool) (ho : decide (A % 2 = 1) = o) : (bits .and .u64 (A : Int) 1 == 1) = o := by
  have h := bits_and_u64_nat A 1 hA (by omega)
  have e : A &&& 1 = A % 2 := Nat.and_two_pow_sub_one_eq_mod A 1
  rw [e] at h
  have h2 : bits .and .u64 (A : Int) 1 = ((A % 2 : Nat) : Int) := h
  rw [h2, ← ho]
  by_cases c : A % 2 = 1 <;> simp [c] <;> omega

set_option maxRecDepth 100000 in
theorem up_even (o : Bool) (r d : Nat) (p : Nat) (w : World) (hr : r < d) (hd : d < 18446744073709551616) (hp : w.cell? ⟨p, 0, none⟩ = some (.int .u64 (d : Int))) (u : Bool) (hu : u = decide (d < r + r ∨ (r + r = d ∧ o = true))) :
    Calls Tryd.prog 127 #[.bool o, .int .u64 (r : Int), .pointer (some ⟨p, 0, none⟩)] w fun e w' => e = .returned (.bool u) ∧ Below w.heap.size w w' := by
  have e1 : IntKind.u64.wrap ((d : Int) - (r : Int)) = (d : Int) - (r : Int) := by rw [IntKind.wrap_u64]; omega
  by_cases g : d < r + r
  · obtain rfl : u = true := by rw [hu]; simp [g]
    have t1 : decide ((d : Int) - (r : Int) < (r : Int)) = true := by rw [decide_eq_true_eq]; omega
    clear hr hd hu g
    go_enter Tryd.func127, Tryd.ntmps127
    go_wp2_with fail
    go_ret
    exact ⟨rfl, Below.refl _ _⟩
  · have t1 : decide ((d : Int) - (r : Int) < (r : Int)) = false := by rw [decide_eq_false_iff_not]; omega
    by_cases e : r + r = d
    · obtain rfl : u = o := by rw [hu]; simp [g, e]
      have t2 : ((r : Int) == (d : Int) - (r : Int)) = true := by simp; omega
      have t2' : (r : Int) = (d : Int) - (r : Int) := by omega
      have t2'' : decide ((r : Int) = (d : Int) - (r : Int)) = true := by rw [decide_eq_true_eq]; omega
      clear hr hd hu g e t2'
      go_enter Tryd.func127, Tryd.ntmps127
      cases u
      all_goals
        go_wp2_with fail
        go_ret
        exact ⟨rfl, Below.refl _ _⟩
    · obtain rfl : u = false := by rw [hu]; simp [e]; omega
      have t2 : ((r : Int) == (d : Int) - (r : Int)) = false := by simp; omega
      have t2' : ¬ ((r : Int) = (d : Int) - (r : Int)) := by omega
      have t2'' : decide ((r : Int) = (d : Int) - (r : Int)) = false := by rw [decide_eq_false_iff_not]; omega
      clear hr hd hu g e t2'
      go_enter Tryd.func127, Tryd.ntmps127
      go_wp2_with fail
      go_ret
      exact ⟨rfl, Below.refl _ _⟩

set_option maxRecDepth 100000 in
set_option maxHeartbeats 1000000 in
theorem rounded_even (n : Bool) (hi lo d : Nat) (p : Nat) (w : World) (h1 : hi < 18446744073709551616) (h2 : lo < 18446744073709551616) (hd : 0 < d) (h3 : d < 18446744073709551616) (u o : Bool)
    (ho : decide ((hi * 18446744073709551616 + lo) / d % 2 = 1) = o) (hu2 : u = true → 2 ≤ d)
    (hup : ∀ w', Below w.heap.size w w' → Calls Tryd.prog 127 #[.bool o, .int .u64 (((hi * 18446744073709551616 + lo) % d : Nat) : Int), .pointer (some ⟨p, 0, none⟩)] w' fun e w'' => e = .returned (.bool u) ∧ Below w'.heap.size w' w'') :
    Calls Tryd.prog 126 #[.agg #[.bool n, .int .u64 (hi : Int), .int .u64 (lo : Int)], .int .u64 (d : Int), .func (.func 127) #[] #[.pointer (some ⟨p, 0, none⟩)]] w fun e w' =>
      e = .returned (.tuple #[wv (sz n ((hi * 18446744073709551616 + lo) / d + (if u = true then 1 else 0))), .int .i64 0]) ∧ Below w.heap.size w w' := by
  have ny : ¬ ((d : Int) = 0) := by omega
  have ny' : ((d : Int) == 0) = false := by simp; omega
  have HD : Hid (hi < 18446744073709551616 ∧ lo < 18446744073709551616 ∧ 0 < d ∧ d < 18446744073709551616) := ⟨h1, h2, hd, h3⟩
  have lq := Nat.lt_of_le_of_lt (Nat.div_le_self hi d) h1
  have la := parts_lt hi lo d hd h2
  have lq2 : u = true → hi / d < 18446744073709551615 := by
    intro hu
    have := Nat.div_le_div_left (hu2 hu) (show 0 < 2 by decide) (a := hi)
    omega
  have pp := (parts_plain hi lo d hd).1
  rw [pp]
  rw [pp] at ho
  obtain ⟨Q, hQ⟩ : ∃ Q : Nat, Hid (hi / d = Q) := ⟨_, rfl⟩
  obtain ⟨A, hA⟩ : ∃ A : Nat, Hid ((hi % d * 18446744073709551616 + lo) / d = A) := ⟨_, rfl⟩
  obtain ⟨C, hC⟩ : ∃ C : Nat, Hid ((hi * 18446744073709551616 + lo) % d = C) := ⟨_, rfl⟩
  rw [hQ.out] at lq lq2 ho ⊢; rw [hA.out] at la ho ⊢; rw [hC.out] at hup
  have hodd := oddN A la o (by rw [← ho, decide_eq_decide]; omega)
  have HL : Hid (Q < 18446744073709551616 ∧ A < 18446744073709551616 ∧ (u = true → Q < 18446744073709551615)) := ⟨lq, la, lq2⟩
  have HU := Lib.hid hup
  obtain ⟨Z, hZ⟩ : ∃ Z : Int, Hid (sz n (Q * 18446744073709551616 + A + (if u = true then 1 else 0)) = Z) := ⟨_, rfl⟩
  rw [hZ.out]
  clear h1 h2 hd h3 lq la lq2 pp ho hu2 hup
  go_enter Tryd.func126, Tryd.ntmps126
  go_wp2_with fail
  refine (parts_any n hi lo d _ HD.out.1 HD.out.2.1 HD.out.2.2.1 HD.out.2.2.2).mono ?_
  rintro e w1 ⟨rfl, b1⟩
  rw [hQ.out, hA.out, hC.out]
  have X : Hid (WAt w1 w.heap.size n hi lo) := WAt.below (WAt.below (wAt_new w n hi lo) (ba _ (.cells #[.bool false, .int .u64 0, .int .u64 0] 101))) b1
  have Y : Hid (WAt w1 (w.heap.size + 1) false 0 0) := by
    have := WAt.below (wAt_new (w.alloc (.cells #[.bool n, .int .u64 (hi : Int), .int .u64 (lo : Int)] 101)) false 0 0) b1
    rw [World.size_alloc] at this; exact this
  have B1 := Lib.hid (bt (ba _ _) (bt (ba _ _) b1))
  clear b1
  go_wp2_with fail
  refine (HU.out _ B1.out).mono ?_
  rintro e w2 ⟨rfl, b2⟩
  have X2 := Lib.hid (WAt.below X.out b2)
  have Y2 := Lib.hid (WAt.below Y.out b2)
  have B2 := Lib.hid (bt B1.out b2)
  have d0 := X2.out.c0
  have r0 := Y2.out.c0; have r1 := Y2.out.c1; have r2 := Y2.out.c2; have f0 := Y2.out.f0; have f1 := Y2.out.f1; have f2 := Y2.out.f2
  clear b2 hodd ny ny' HU
  cases u
  · have es : Hid (wz n Q A = Z) := by show _ = _; rw [← hZ.out, if_neg (by decide), Nat.add_zero, sz_wz]
    go_wp2_with fail
    refine (put_any n Q A _ HL.out.1 HL.out.2.1).mono ?_
    rintro e w3 ⟨rfl, b3⟩
    rw [es.out]
    obtain ⟨nb, nh, nl, hv⟩ := wv_agg Z
    rw [hv.out]
    have Y3 := Lib.hid (WAt.below Y2.out b3)
    have B3 := Lib.hid (bt B2.out b3)
    clear b3 d0 r0 r1 r2 f0 f1 f2
    have r0 := Y3.out.c0; have r1 := Y3.out.c1; have r2 := Y3.out.c2; have f0 := Y3.out.f0; have f1 := Y3.out.f1; have f2 := Y3.out.f2
    go_wp2_with fail
    refine bodyPost_ret (v := .tuple #[.agg #[.bool nb, .int .u64 (nh : Int), .int .u64 (nl : Int)], .int .i64 0]) (by simp [results, Tryd.results126, go_sem, r0, r1, r2]) rfl ⟨by rw [hv.out], ((B3.out.setCell (by simp) _).setCell (by simp) _).setCell (by simp) _⟩
  · have HL2 : Hid (Q < 18446744073709551615) := HL.out.2.2 rfl
    obtain ⟨L, hL⟩ : ∃ L : Nat, Hid ((A + 1) % 18446744073709551616 = L) := ⟨_, rfl⟩
    obtain ⟨K, hK⟩ : ∃ K : Nat, Hid ((A + 1) / 18446744073709551616 = K) := ⟨_, rfl⟩
    have ad := fun w => add64 (A : Int) 1 0 (by omega) (by omega) (by have := HL.out.2.1; omega) (by omega) (by omega) (by omega) w
    rw [show ((A : Int) + 1 + 0) % 18446744073709551616 = (L : Int) from by have := hL.out; omega, show ((A : Int) + 1 + 0) / 18446744073709551616 = (K : Int) from by have := hK.out; omega] at ad
    have ek : Hid (K ≤ 1) := by have := hK.out; have := HL.out.2.1; show K ≤ 1; omega
    have e1 : IntKind.u64.wrap ((Q : Int) + (K : Int)) = ((Q + K : Nat) : Int) := wrapTo _ _ rfl (by have := HL2.out; have := ek.out; omega)
    obtain ⟨H, hH⟩ : ∃ H : Nat, Hid (Q + K = H) := ⟨_, rfl⟩
    rw [hH.out] at e1
    have es : Hid (wz n H L = Z) := by
      show _ = _
      rw [← hZ.out, if_pos rfl, ← sz_wz]
      have a := hL.out; have b := hK.out; have c := hH.out
      exact congrArg (sz n) (by omega)
    have lH : Hid (H < 18446744073709551616 ∧ L < 18446744073709551616) := ⟨by have := hH.out; have := HL2.out; have := ek.out; omega, by rw [← hL.out]; exact Nat.mod_lt _ (by decide)⟩
    go_wp2_with (simp only [ad])
    refine (put_any n H L _ lH.out.1 lH.out.2).mono ?_
    rintro e w3 ⟨rfl, b3⟩
    rw [es.out]
    obtain ⟨nb, nh, nl, hv⟩ := wv_agg Z
    rw [hv.out]
    have Y3 := Lib.hid (WAt.below Y2.out b3)
    have B3 := Lib.hid (bt B2.out b3)
    clear b3 d0 r0 r1 r2 f0 f1 f2 ad e1
    have r0 := Y3.out.c0; have r1 := Y3.out.c1; have r2 := Y3.out.c2; have f0 := Y3.out.f0; have f1 := Y3.out.f1; have f2 := Y3.out.f2
    go_wp2_with fail
    refine bodyPost_ret (v := .tuple #[.agg #[.bool nb, .int .u64 (nh : Int), .int .u64 (nl : Int)], .int .i64 0]) (by simp [results, Tryd.results126, go_sem, r0, r1, r2]) rfl ⟨by rw [hv.out], ((B3.out.setCell (by simp) _).setCell (by simp) _).setCell (by simp) _⟩

set_option maxRecDepth 100000 in
theorem rounded_even0 (n : Bool) (hi lo : Nat) (g : Value) (w : World) :
    Calls Tryd.prog 126 #[.agg #[.bool n, .int .u64 (hi : Int), .int .u64 (lo : Int)], .int .u64 0, g] w fun e w' => e = .returned (.tuple #[.agg #[.bool false, .int .u64 0, .int .u64 0], .int .i64 12]) ∧ Below w.heap.size w w' := by
  have Y : Hid (WAt ((w.alloc (.cells #[.bool n, .int .u64 (hi : Int), .int .u64 (lo : Int)] 101)).alloc (.cells #[.bool false, .int .u64 0, .int .u64 0] 101)) (w.heap.size + 1) false 0 0) := by
    have := wAt_new (w.alloc (.cells #[.bool n, .int .u64 (hi : Int), .int .u64 (lo : Int)] 101)) false 0 0
    rw [World.size_alloc] at this; exact this
  have r0 := Y.out.c0; have r1 := Y.out.c1; have r2 := Y.out.c2; have f0 := Y.out.f0; have f1 := Y.out.f1; have f2 := Y.out.f2
  go_enter Tryd.func126, Tryd.ntmps126
  go_wp2_with fail
  refine bodyPost_ret (v := .tuple #[.agg #[.bool false, .int .u64 0, .int .u64 0], .int .i64 12]) (by simp [results, Tryd.results126, go_sem, r0, r1, r2]) rfl ⟨rfl, ?_⟩
  first | exact bt (ba _ _) (ba _ _) | exact (((bt (ba _ _) (ba _ _)).setCell (by simp) _).setCell (by simp) _).setCell (by simp) _

set_option maxRecDepth 100000 in
theorem rounded_floor0 (n : Bool) (hi lo : Nat) (g : Value) (w : World) :
    Calls Tryd.prog 126 #[.agg #[.bool n, .int .u64 (hi : Int), .int .u64 (lo : Int)], .int .u64 0, g] w fun e w' => e = .returned (.tuple #[.agg #[.bool false, .int .u64 0, .int .u64 0], .int .i64 12]) ∧ Below w.heap.size w w' := by
  have Y : Hid (WAt ((w.alloc (.cells #[.bool n, .int .u64 (hi : Int), .int .u64 (lo : Int)] 101)).alloc (.cells #[.bool false, .int .u64 0, .int .u64 0] 101)) (w.heap.size + 1) false 0 0) := by
    have := wAt_new (w.alloc (.cells #[.bool n, .int .u64 (hi : Int), .int .u64 (lo : Int)] 101)) false 0 0
    rw [World.size_alloc] at this; exact this
  have r0 := Y.out.c0; have r1 := Y.out.c1; have r2 := Y.out.c2; have f0 := Y.out.f0; have f1 := Y.out.f1; have f2 := Y.out.f2
  go_enter Tryd.func126, Tryd.ntmps126
  go_wp2_with fail
  refine bodyPost_ret (v := .tuple #[.agg #[.bool false, .int .u64 0, .int .u64 0], .int .i64 12]) (by simp [results, Tryd.results126, go_sem, r0, r1, r2]) rfl ⟨rfl, ?_⟩
  first | exact bt (ba _ _) (ba _ _) | exact (((bt (ba _ _) (ba _ _)).setCell (by simp) _).setCell (by simp) _).setCell (by simp) _
end Go.Proofs.YtfonpegkaajnkaaDoor
