/-
  THE WALKS of wide's Even and Floor.
-/
import Derived.Test.YtbcnbahfjpgmaaaDoorM28
import Derived.Test.YtbcnbahfjpgmaaaDoorM27
/-
  THE WALKS of wide's Even and Floor.
-/
namespace Go.Proofs.YtbcnbahfjpgmaaaDoor
open Go.RowKit
attribute [local go_sem ↓] Go.wp_at_zero Go.wp_at_succ

theorem evenZ_nat (q r d : Nat) (hr : r < d) : evenZ ((q * d + r : Nat) : Int) d = ((q + if d < r + r ∨ (r + r = d ∧ q % 2 = 1) then 1 else 0 : Nat) : Int) := by
  have e1 : ((q * d + r : Nat) : Int) / (d : Int) = q := by
    rw [← Int.natCast_ediv]; congr 1
    rw [Nat.mul_comm, Nat.mul_add_div (by omega), Nat.div_eq_of_lt hr]; rfl
  have e2 : ((q * d + r : Nat) : Int) % (d : Int) = r := by
    rw [← Int.natCast_emod]; congr 1
    rw [Nat.mul_comm, Nat.mul_add_mod, Nat.mod_eq_of_lt hr]
  unfold evenZ
  rw [e1, e2]
  by_cases c : d < r + r ∨ (r + r = d ∧ q % 2 = 1)
  · rw [if_pos c, if_pos (by omega)]; omega
  · rw [if_neg c, if_neg (by omega)]; omega
theorem ediv_neg' (q r d : Nat) (hr : r < d) : (-((q * d + r : Nat) : Int)) / (d : Int) = -(q : Int) - (if r = 0 then 0 else 1) ∧ (-((q * d + r : Nat) : Int)) % (d : Int) = (if r = 0 then 0 else (d : Int) - r) := by
  by_cases h : r = 0
  · subst h
    rw [if_pos rfl, if_pos rfl]
    have : (-((q * d + 0 : Nat) : Int)) = (-(q : Int)) * d := by rw [Int.neg_mul, Nat.add_zero, Int.natCast_mul]
    rw [this]
    exact ⟨by rw [Int.mul_ediv_cancel _ (by omega)]; omega, Int.mul_emod_left _ _⟩
  · rw [if_neg h, if_neg h]
    have : (-((q * d + r : Nat) : Int)) = ((d : Int) - r) + (-(q : Int) - 1) * d := by
      rw [Int.sub_mul, Int.neg_mul, Int.one_mul]; simp; omega
    rw [this]
    have p1 : (0 : Int) ≤ (d : Int) - r := by omega
    have p2 : (d : Int) - r < d := by omega
    exact ⟨by rw [Int.add_mul_ediv_right _ _ (by omega), Int.ediv_eq_zero_of_lt p1 p2]; omega, by rw [Int.add_mul_emod_self_right, Int.emod_eq_of_lt p1 p2]⟩
theorem evenZ_neg (q r d : Nat) (hr : r < d) : evenZ (-((q * d + r : Nat) : Int)) d = -((q + if d < r + r ∨ (r + r = d ∧ q % 2 = 1) then 1 else 0 : Nat) : Int) := by
  obtain ⟨e1, e2⟩ := ediv_neg' q r d hr
  unfold evenZ
  rw [e1, e2]
  by_cases h : r = 0
  · subst h
    rw [if_pos rfl, if_pos rfl, if_neg (by omega), if_neg (by omega)]; omega
  · rw [if_neg h, if_neg h]
    by_cases c : d < r + r ∨ (r + r = d ∧ q % 2 = 1)
    · rw [if_pos c, if_neg (by omega)]; omega
    · rw [if_neg c, if_pos (by omega)]; omega
theorem sz_even (n : Bool) (hi lo d : Nat) (hd : 0 < d) (u : Bool)
    (hu : u = decide (d < (hi * 18446744073709551616 + lo) % d + (hi * 18446744073709551616 + lo) % d ∨ ((hi * 18446744073709551616 + lo) % d + (hi * 18446744073709551616 + lo) % d = d ∧ (hi * 18446744073709551616 + lo) / d % 2 = 1))) :
    sz n ((hi * 18446744073709551616 + lo) / d + (if u = true then 1 else 0)) = evenZ (wz n hi lo) d := by
  rw [← sz_wz]
  generalize hM : hi * 18446744073709551616 + lo = M at hu ⊢
  have hr := Nat.mod_lt M hd
  have e : M = M / d * d + M % d := by rw [Nat.mul_comm]; exact (Nat.div_add_mod M d).symm
  have hc : (u = true) ↔ (d < M % d + M % d ∨ (M % d + M % d = d ∧ M / d % 2 = 1)) := by rw [hu, decide_eq_true_eq]
  simp only [hc]
  unfold sz
  cases n
  · simp only [Bool.false_eq_true, if_false]
    have := evenZ_nat (M / d) (M % d) d hr
    rw [← e] at this; exact this.symm
  · simp only [if_true]
    have := evenZ_neg (M / d) (M % d) d hr
    rw [← e] at this; exact this.symm
theorem sz_floor (n : Bool) (hi lo d : Nat) (hd : 0 < d) (u : Bool) (hu : u = (n && decide (0 < (hi * 18446744073709551616 + lo) % d))) :
    sz n ((hi * 18446744073709551616 + lo) / d + (if u = true then 1 else 0)) = wz n hi lo / (d : Int) := by
  rw [← sz_wz]
  generalize hM : hi * 18446744073709551616 + lo = M at hu ⊢
  have hr := Nat.mod_lt M hd
  have e : M = M / d * d + M % d := by rw [Nat.mul_comm]; exact (Nat.div_add_mod M d).symm
  subst hu
  unfold sz
  cases n
  · simp
  · simp only [Bool.true_and, if_true, decide_eq_true_eq]
    have := (ediv_neg' (M / d) (M % d) d hr).1
    rw [← e] at this
    rw [this]
    by_cases c : M % d = 0
    · rw [if_pos c, if_neg (by omega)]; omega
    · rw [if_neg c, if_pos (by omega)]; omega

set_option maxRecDepth 100000 in
set_option maxHeartbeats 1000000 in
theorem wEven_any (n : Bool) (hi lo d : Nat) (w : World) (h1 : hi < 18446744073709551616) (h2 : lo < 18446744073709551616) (hd : 0 < d) (h3 : d < 18446744073709551616) :
    Calls Tryd.prog 44 #[.agg #[.bool n, .int .u64 (hi : Int), .int .u64 (lo : Int)], .int .u64 (d : Int)] w fun e w' => e = .returned (.tuple #[wv (evenZ (wz n hi lo) d), .int .i64 0]) ∧ Below w.heap.size w w' := by
  obtain ⟨o, ho⟩ : ∃ o : Bool, Hid (decide ((hi * 18446744073709551616 + lo) / d % 2 = 1) = o) := ⟨_, rfl⟩
  obtain ⟨r, hr⟩ : ∃ r : Nat, Hid ((hi * 18446744073709551616 + lo) % d = r) := ⟨_, rfl⟩
  have hrd : r < d := by rw [← hr.out]; exact Nat.mod_lt _ hd
  obtain ⟨u, hu⟩ : ∃ u : Bool, Hid (u = decide (d < r + r ∨ (r + r = d ∧ o = true))) := ⟨_, rfl⟩
  have HE : Hid (sz n ((hi * 18446744073709551616 + lo) / d + (if u = true then 1 else 0)) = evenZ (wz n hi lo) d) := by
    refine sz_even n hi lo d hd u ?_
    rw [hu.out, hr.out, ← ho.out]; simp only [decide_eq_true_eq]
  have HU : Hid (u = true → 2 ≤ d) := by
    intro q; rw [hu.out, decide_eq_true_eq] at q; omega
  have HL : Hid (hi < 18446744073709551616 ∧ lo < 18446744073709551616 ∧ 0 < d ∧ d < 18446744073709551616 ∧ r < d) := ⟨h1, h2, hd, h3, hrd⟩
  obtain ⟨z, hz⟩ : ∃ z, Hid (evenZ (wz n hi lo) d = z) := ⟨_, rfl⟩
  rw [hz.out]
  clear h1 h2 hd h3 hrd
  go_enter Tryd.func44, Tryd.ntmps44
  go_wp2_with fail
  refine (rounded_even n hi lo d (w.heap.size + 1) _ HL.out.1 HL.out.2.1 HL.out.2.2.1 HL.out.2.2.2.1 u o ho.out HU.out ?hup).mono ?_
  case hup =>
    intro w' hb
    rw [hr.out]
    refine up_even o r d (w.heap.size + 1) w' HL.out.2.2.2.2 HL.out.2.2.2.1 ?_ u hu.out
    refine cell_keep hb ?_ (by simp)
    go_simp
  rintro e w2 ⟨rfl, b2⟩
  rw [HE.out, hz.out]
  obtain ⟨nb, nh, nl, hv⟩ := wv_agg z
  rw [hv.out]
  have Z : Hid (WAt w2 (w.heap.size + 1 + 1) false 0 0) := by
    have := WAt.below (wAt_new ((w.alloc (.cells #[.bool n, .int .u64 (hi : Int), .int .u64 (lo : Int)] 58)).alloc (.cells #[.int .u64 (d : Int)] 41)) false 0 0) b2
    rw [World.size_alloc, World.size_alloc] at this; exact this
  have B := Lib.hid (bt (ba _ _) (bt (ba _ _) (bt (ba _ _) b2)))
  clear b2
  have r0 := Z.out.c0; have r1 := Z.out.c1; have r2 := Z.out.c2; have f0 := Z.out.f0; have f1 := Z.out.f1; have f2 := Z.out.f2
  go_wp2_with fail
  refine bodyPost_ret (v := .tuple #[.agg #[.bool nb, .int .u64 (nh : Int), .int .u64 (nl : Int)], .int .i64 0]) (by simp [results, Tryd.results44, go_sem, r0, r1, r2]) rfl ⟨by rw [hv.out], ((B.out.setCell (by simp; omega) _).setCell (by simp; omega) _).setCell (by simp; omega) _⟩

set_option maxRecDepth 100000 in
set_option maxHeartbeats 1000000 in
theorem wEven_zero (n : Bool) (hi lo : Nat) (w : World) :
    Calls Tryd.prog 44 #[.agg #[.bool n, .int .u64 (hi : Int), .int .u64 (lo : Int)], .int .u64 0] w fun e w' => e = .returned (.tuple #[.agg #[.bool false, .int .u64 0, .int .u64 0], .int .i64 12]) ∧ Below w.heap.size w w' := by
  go_enter Tryd.func44, Tryd.ntmps44
  go_wp2_with fail
  refine (rounded_even0 n hi lo _ _).mono ?_
  rintro e w2 ⟨rfl, b2⟩
  have Z : Hid (WAt w2 (w.heap.size + 1 + 1) false 0 0) := by
    have := WAt.below (wAt_new ((w.alloc (.cells #[.bool n, .int .u64 (hi : Int), .int .u64 (lo : Int)] 58)).alloc (.cells #[.int .u64 0] 41)) false 0 0) b2
    rw [World.size_alloc, World.size_alloc] at this; exact this
  have B := Lib.hid (bt (ba _ _) (bt (ba _ _) (bt (ba _ _) b2)))
  clear b2
  have r0 := Z.out.c0; have r1 := Z.out.c1; have r2 := Z.out.c2; have f0 := Z.out.f0; have f1 := Z.out.f1; have f2 := Z.out.f2
  go_wp2_with fail
  refine bodyPost_ret (v := .tuple #[.agg #[.bool false, .int .u64 0, .int .u64 0], .int .i64 12]) (by simp [results, Tryd.results44, go_sem, r0, r1, r2]) rfl ⟨rfl, ((B.out.setCell (by simp; omega) _).setCell (by simp; omega) _).setCell (by simp; omega) _⟩

end Go.Proofs.YtbcnbahfjpgmaaaDoor
