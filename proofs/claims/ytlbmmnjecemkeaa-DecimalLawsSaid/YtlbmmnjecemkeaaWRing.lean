/-
  THE WALK of corrodylaw01's WideRing.
-/
import Derived.Test.YtlbmmnjecemkeaaWKnown
import Derived.Test.YtlbmmnjecemkeaaWAdd2
import Derived.Test.YtlbmmnjecemkeaaWCmp
namespace Go.Proofs.Ytlbmmnjecemkeaa
open Go.RowKit
attribute [local go_sem ↓] Go.wp_at_zero Go.wp_at_succ

theorem ovV_agg (z : Int) : ∃ (b : Bool) (h l : Nat) (e : Int), Hid (ovV z = .tuple #[.agg #[.bool b, .int .u64 (h : Int), .int .u64 (l : Int)], .int .i64 e]) := by
  unfold ovV
  split
  · exact ⟨_, _, _, _, rfl⟩
  · exact ⟨false, 0, 0, 11, rfl⟩
theorem asV_small (z : Int) (v : Value) (h : z.natAbs < 340282366920938463463374607431768211456) (hv : wv z = v) : asV z = .tuple #[v, .bool true] := by
  unfold asV; rw [if_pos h, ← hv]; rfl
theorem smallV_form (z : Int) : ∃ (n : Int) (b : Bool), Hid (smallV z = .tuple #[.int .i64 n, .bool b]) := by
  unfold smallV; split
  · exact ⟨_, _, rfl⟩
  · exact ⟨_, _, rfl⟩
theorem wMul_nat (a b : Int) (a0 : -9223372036854775808 ≤ a) (a1 : a ≤ 9223372036854775807) (b0 : -9223372036854775808 ≤ b) (b1 : b ≤ 9223372036854775807) : (a * b).natAbs < 340282366920938463463374607431768211456 := by
  rw [Int.natAbs_mul]
  have := Nat.mul_le_mul (show a.natAbs ≤ 9223372036854775808 by omega) (show b.natAbs ≤ 9223372036854775808 by omega)
  omega
theorem wz_lt (n : Bool) (hi lo : Nat) (h1 : hi < 18446744073709551616) (h2 : lo < 18446744073709551616) : (wz n hi lo).natAbs < 340282366920938463463374607431768211456 := by rw [wz_abs]; omega
theorem as_c (k : Nat) (v u : Value) (z : Int) (w : World) (h : Num k w v z) (hk : k ≤ 8000) (hu : asV z = u) :
    Calls Try.prog 12 #[v] w fun e w' => e = .returned u ∧ Below w.heap.size w w' := by rw [← hu]; exact as_any k v z w h hk
theorem wOf_c2 (n : Int) (v : Value) (w : World) (h0 : -9223372036854775808 ≤ n) (h1 : n ≤ 9223372036854775807) (hv : wv n = v) :
    Calls Try.prog 29 #[.int .i64 n] w fun e w' => e = .returned v ∧ Below w.heap.size w w' := by
  rw [← hv]; exact wOf_any n w h0 h1
theorem wNeg_c (n : Bool) (hi lo : Nat) (v : Value) (w : World) (h1 : hi < 18446744073709551616) (h2 : lo < 18446744073709551616) (hv : wv (-(wz n hi lo)) = v) :
    Calls Try.prog 30 #[.agg #[.bool n, .int .u64 (hi : Int), .int .u64 (lo : Int)]] w fun e w' => e = .returned v ∧ Below w.heap.size w w' := by
  rw [← hv]; exact wNeg_any n hi lo w h1 h2
theorem wCmp_c (n1 n2 : Bool) (h1 l1 h2 l2 : Nat) (c : Int) (w : World) (b1 : h1 < 18446744073709551616) (b2 : l1 < 18446744073709551616) (b3 : h2 < 18446744073709551616) (b4 : l2 < 18446744073709551616) (hc : cmpZ (wz n1 h1 l1) (wz n2 h2 l2) = c) :
    Calls Try.prog 31 #[.agg #[.bool n1, .int .u64 (h1 : Int), .int .u64 (l1 : Int)], .agg #[.bool n2, .int .u64 (h2 : Int), .int .u64 (l2 : Int)]] w (IntPost c w) := by rw [← hc]; exact wCmp_any n1 n2 h1 l1 h2 l2 w b1 b2 b3 b4

/-- behind 'u, v := ref.Wide(x), ref.Wide(y)' -/
def RingUV (W2 : World) (z1 z2 : Int) (s11 s12 : Value) (wx : World) : Prop :=
  ∃ (g h : Nat) (bu bv : Bool) (au av : Option Addr) (nu nv cu cv : Nat), s11 = .pointer (some ⟨g, 0, none⟩) ∧ s12 = .pointer (some ⟨h, 0, none⟩) ∧ BoxAt wx g (.bool bu) (.slice au nu cu) ∧ BoxAt wx h (.bool bv) (.slice av nv cv) ∧
    Num 22 wx (.agg #[.bool bu, .slice au nu cu]) z1 ∧ Num 22 wx (.agg #[.bool bv, .slice av nv cv]) z2 ∧ Below W2.heap.size W2 wx
theorem boxAt_new' {w : World} {b : Nat} (v0 v1 : Value) (h : b = w.heap.size) : BoxAt (w.alloc (.cells #[v0, v1] 34)) b v0 v1 := by subst h; exact boxAt_new w v0 v1
theorem boxAt_other2 {w : World} {b b' : Nat} {v0 v1 : Value} (u0 u1 : Value) (h : BoxAt w b v0 v1) (hb : b ≠ b') : BoxAt ((w.setCell ⟨b', 0, none⟩ u0).setCell ⟨b', 1, none⟩ u1) b v0 v1 := boxAt_set_other _ _ (boxAt_set_other _ _ h hb) hb

set_option maxRecDepth 100000 in
set_option maxHeartbeats 4000000 in
theorem wideRing_walk (n1 n2 : Bool) (h1 l1 h2 l2 : Nat) (a b : Int) (m : Nat) (w : World) (b1 : h1 < 18446744073709551616) (b2 : l1 < 18446744073709551616) (b3 : h2 < 18446744073709551616) (b4 : l2 < 18446744073709551616)
    (a0 : -9223372036854775808 ≤ a) (a1 : a ≤ 9223372036854775807) (c0 : -9223372036854775808 ≤ b) (c1 : b ≤ 9223372036854775807) (b5 : m < 18446744073709551616) :
    Calls Try.prog 4 #[.agg #[.bool n1, .int .u64 (h1 : Int), .int .u64 (l1 : Int)], .agg #[.bool n2, .int .u64 (h2 : Int), .int .u64 (l2 : Int)], .int .i64 a, .int .i64 b, .int .u64 (m : Int)] w fun e w' => e = .returned (.bool true) ∧ Below w.heap.size w w' := by
  have HL : Hid (h1 < 18446744073709551616 ∧ l1 < 18446744073709551616 ∧ h2 < 18446744073709551616 ∧ l2 < 18446744073709551616 ∧ m < 18446744073709551616) := ⟨b1, b2, b3, b4, b5⟩
  have HA : Hid (-9223372036854775808 ≤ a ∧ a ≤ 9223372036854775807 ∧ -9223372036854775808 ≤ b ∧ b ≤ 9223372036854775807) := ⟨a0, a1, c0, c1⟩
  have HZ1 := Lib.hid (wz_lt n1 h1 l1 b1 b2)
  have HAB := Lib.hid (wMul_nat a b a0 a1 c0 c1)
  clear b1 b2 b3 b4 a0 a1 c0 c1 b5
  obtain ⟨z1, hz1⟩ : ∃ z, Hid (wz n1 h1 l1 = z) := ⟨_, rfl⟩
  obtain ⟨z2, hz2⟩ : ∃ z, Hid (wz n2 h2 l2 = z) := ⟨_, rfl⟩
  obtain ⟨pb, ph, pl, pe, hp⟩ := ovV_agg (z1 * (m : Int))
  obtain ⟨sb, sh, sl, se, hs⟩ := ovV_agg (z1 + z2)
  obtain ⟨mb, mh, ml, hm⟩ := wv_agg (a * b)
  obtain ⟨ob, oh, ol, ho⟩ := wv_agg a
  obtain ⟨kb, kh, kl, hk⟩ := wv_agg (-z1)
  obtain ⟨c, hc⟩ : ∃ c, Hid (cmpZ z1 z2 = c) := ⟨_, rfl⟩
  obtain ⟨sn, so, hsm⟩ := smallV_form z1
  have HM := Lib.hid (asV_small (a * b) _ HAB.out hm.out)
  have HO := Lib.hid (asV_small a _ (by have := HA.out; omega) ho.out)
  have HK := Lib.hid (asV_small (-z1) _ (by rw [← hz1.out, Int.natAbs_neg]; exact HZ1.out) hk.out)
  go_enter Try.func4, Try.ntmps4
  go_upto_region 1 with fail
  obtain ⟨X0, Y0⟩ := two_wide w n1 n2 h1 l1 h2 l2
  have X := Lib.hid X0; have Y := Lib.hid Y0
  have B : Hid (Below w.heap.size w ((w.alloc (.cells #[.bool n1, .int .u64 (h1 : Int), .int .u64 (l1 : Int)] 24)).alloc (.cells #[.bool n2, .int .u64 (h2 : Int), .int .u64 (l2 : Int)] 24))) := bt (ba _ _) (ba _ _)
  clear X0 Y0
  generalize World.alloc (World.alloc w _) _ = W2 at X Y B ⊢
  go_cut [11, 12] (fun s11 s12 wx => RingUV W2 z1 z2 s11 s12 wx)
  case first =>
    have mkS : ∀ w', Below W2.heap.size W2 w' → (Below W2.heap.size W2 w' ∧ w'.cell? ⟨w.heap.size, 0, none⟩ = some (.bool n1) ∧ w'.cell? ⟨w.heap.size, 1, none⟩ = some (.int .u64 (h1 : Int)) ∧ w'.cell? ⟨w.heap.size, 2, none⟩ = some (.int .u64 (l1 : Int)) ∧ w'.cell? ⟨w.heap.size + 1, 0, none⟩ = some (.bool n2) ∧ w'.cell? ⟨w.heap.size + 1, 1, none⟩ = some (.int .u64 (h2 : Int)) ∧ w'.cell? ⟨w.heap.size + 1, 2, none⟩ = some (.int .u64 (l2 : Int))) :=
      fun w' h => ⟨h, (WAt.below X.out h).c0, (WAt.below X.out h).c1, (WAt.below X.out h).c2, (WAt.below Y.out h).c0, (WAt.below Y.out h).c1, (WAt.below Y.out h).c2⟩
    have HS0 := mkS _ ((Below.refl _ _).drew)
    go_region_held3 (fun w' => Below W2.heap.size W2 w' ∧ w'.cell? ⟨w.heap.size, 0, none⟩ = some (.bool n1) ∧ w'.cell? ⟨w.heap.size, 1, none⟩ = some (.int .u64 (h1 : Int)) ∧ w'.cell? ⟨w.heap.size, 2, none⟩ = some (.int .u64 (l1 : Int)) ∧ w'.cell? ⟨w.heap.size + 1, 0, none⟩ = some (.bool n2) ∧ w'.cell? ⟨w.heap.size + 1, 1, none⟩ = some (.int .u64 (h2 : Int)) ∧ w'.cell? ⟨w.heap.size + 1, 2, none⟩ = some (.int .u64 (l2 : Int)))
      (first | with_reducible exact HS0 | with_reducible assumption | (refine mkS _ ?_; (repeat (first | with_reducible exact And.left (by with_reducible assumption) | with_reducible exact Below.refl _ _ | refine Below.setCell ?_ (by first | omega | (simp only [World.size_alloc, hdrew]; omega) | (simp <;> omega)) _ | refine Below.alloc ?_ (by first | omega | (simp only [World.size_alloc, hdrew]; omega) | (simp <;> omega)) _ | refine Below.drew ?_))))
      (first
        | (go_at_call 16; (with_reducible refine (wide_any n1 h1 l1 _ ⟨by omega, by have := HL.out; omega⟩ ⟨by omega, by have := HL.out; omega⟩).mono ?_); rintro e w5 ⟨v5, hz, rfl, b5⟩; obtain ⟨bu, au, nu, cu, rfl⟩ := num_agg hz; have N5 : Hid (Num 22 w5 (.agg #[.bool bu, .slice au nu cu]) z1) := (by have hz1' := hz; rw [hz1.out] at hz1'; exact hz1'); have B5 := Lib.hid b5; have HS5 := mkS _ (bt (And.left (by assumption)) b5); (obtain ⟨hcb5, hfb5⟩ := bcell b5; have zzb5 := Below.size b5; (try simp only [World.size_alloc, hdrew] at zzb5); (try (have llb5 : W2.heap.size < w5.heap.size := by omega)); (try (have lmb5 : W2.heap.size + 1 < w5.heap.size := by omega))); ((try replace b5 := undrew b5); (try (have Q0 := Lib.hid (boxAt_below (Hid.out Q0) b5))); (try (have Q0 := Lib.hid (boxAt_below (Hid.out Q0) b5))); first | (have QA := boxAt_below (boxAt_below (boxAt_new _ _ _) (ba _ _)) b5; (try simp only [World.size_alloc, hdrew] at QA); have QA := Lib.hid QA; have QB := boxAt_below (boxAt_new (World.alloc _ _) _ _) b5; (try simp only [World.size_alloc, hdrew] at QB); have QB := Lib.hid QB) | (have QA := boxAt_below (boxAt_new _ _ _) b5; (try simp only [World.size_alloc, hdrew] at QA); have QA := Lib.hid QA) | skip); clear b5 hz)
        | (go_at_call 16; (with_reducible refine (wide_any n2 h2 l2 _ ⟨by omega, by have := HL.out; omega⟩ ⟨by omega, by have := HL.out; omega⟩).mono ?_); rintro e w6 ⟨v6, hz, rfl, b6⟩; obtain ⟨bv, av, nv, cv, rfl⟩ := num_agg hz; have N6 : Hid (Num 22 w6 (.agg #[.bool bv, .slice av nv cv]) z2) := (by have hz2' := hz; rw [hz2.out] at hz2'; exact hz2'); have B6 := Lib.hid b6; have HS6 := mkS _ (bt (And.left (by assumption)) b6); (obtain ⟨hcb6, hfb6⟩ := bcell b6; have zzb6 := Below.size b6; (try simp only [World.size_alloc, hdrew] at zzb6); (try (have llb6 : w5.heap.size < w6.heap.size := by omega)); (try (have lmb6 : w5.heap.size + 1 < w6.heap.size := by omega))); have B56 : Below w5.heap.size w5 w6 := (by first | with_reducible exact b6 | with_reducible exact bt (ba _ _) b6 | with_reducible exact bt (ba _ _) (bt (ba _ _) b6)); replace B56 := Lib.hid B56;   ((try replace b6 := undrew b6); (try (have QC := Lib.hid (boxAt_below (Hid.out QA) (Hid.out B56)))); (try (have QD := Lib.hid (boxAt_below (Hid.out QB) (Hid.out B56)))); first | (have QE := boxAt_below (boxAt_below (boxAt_new _ _ _) (ba _ _)) b6; (try simp only [World.size_alloc, hdrew] at QE); have QE := Lib.hid QE; have QF := boxAt_below (boxAt_new (World.alloc _ _) _ _) b6; (try simp only [World.size_alloc, hdrew] at QF); have QF := Lib.hid QF) | (have QE := boxAt_below (boxAt_new _ _ _) b6; (try simp only [World.size_alloc, hdrew] at QE); have QE := Lib.hid QE) | skip); (try (have ln6 : W2.heap.size < w6.heap.size := by omega)); (try (have lo6 : W2.heap.size + 1 < w6.heap.size := by omega));  clear b6 hz))
    all_goals
      dsimp only [Exit.then]
      refine ‹∀ (a' : Act) (w' : World), Met _ a' w' → _› _ _ ?_
      go_meet
      case rel =>
        refine ⟨_, _, bu, bv, au, av, nu, nv, cu, cv, rfl, rfl, ?q3, ?q4, ?q7, ?q8, ?q9⟩
        case q3 => (repeat (first | with_reducible exact boxAt_set2 _ _ QC.out | with_reducible exact boxAt_set2 _ _ QD.out | with_reducible exact boxAt_set2 _ _ QE.out | with_reducible exact boxAt_set2 _ _ QF.out | with_reducible exact QC.out | with_reducible exact QD.out | with_reducible exact QE.out | with_reducible exact QF.out | (with_reducible refine boxAt_new' _ _ ?_; first | rfl | (simp; done)) | with_reducible refine boxAt_below ?_ (ba _ _) | with_reducible exact boxAt_set2 _ _ (boxAt_below QC.out (ba _ _)) | with_reducible exact boxAt_set2 _ _ (boxAt_below QE.out (ba _ _)) | with_reducible exact boxAt_set2 _ _ (boxAt_other2 _ _ QC.out (by first | omega | (simp <;> omega))) | with_reducible exact boxAt_set2 _ _ (boxAt_other2 _ _ QD.out (by first | omega | (simp <;> omega))) | with_reducible exact boxAt_set2 _ _ (boxAt_other2 _ _ QE.out (by first | omega | (simp <;> omega))) | with_reducible exact boxAt_set2 _ _ (boxAt_other2 _ _ QF.out (by first | omega | (simp <;> omega))) | with_reducible refine boxAt_other2 _ _ ?_ (by first | omega | (simp <;> omega))))
        case q4 => (repeat (first | with_reducible exact boxAt_set2 _ _ QC.out | with_reducible exact boxAt_set2 _ _ QD.out | with_reducible exact boxAt_set2 _ _ QE.out | with_reducible exact boxAt_set2 _ _ QF.out | with_reducible exact QC.out | with_reducible exact QD.out | with_reducible exact QE.out | with_reducible exact QF.out | (with_reducible refine boxAt_new' _ _ ?_; first | rfl | (simp; done)) | with_reducible refine boxAt_below ?_ (ba _ _) | with_reducible exact boxAt_set2 _ _ (boxAt_below QC.out (ba _ _)) | with_reducible exact boxAt_set2 _ _ (boxAt_below QE.out (ba _ _)) | with_reducible exact boxAt_set2 _ _ (boxAt_other2 _ _ QC.out (by first | omega | (simp <;> omega))) | with_reducible exact boxAt_set2 _ _ (boxAt_other2 _ _ QD.out (by first | omega | (simp <;> omega))) | with_reducible exact boxAt_set2 _ _ (boxAt_other2 _ _ QE.out (by first | omega | (simp <;> omega))) | with_reducible exact boxAt_set2 _ _ (boxAt_other2 _ _ QF.out (by first | omega | (simp <;> omega))) | with_reducible refine boxAt_other2 _ _ ?_ (by first | omega | (simp <;> omega))))
        case q9 => (repeat (first | with_reducible exact And.left (by with_reducible assumption) | with_reducible exact Below.refl _ _ | refine Below.setCell ?_ (by first | omega | (simp only [World.size_alloc, hdrew]; omega) | (simp <;> omega)) _ | refine Below.alloc ?_ (by first | omega | (simp only [World.size_alloc, hdrew]; omega) | (simp <;> omega)) _ | refine Below.drew ?_))
        case q7 => (repeat (first | with_reducible exact N6.out | with_reducible exact num_below N5.out B56.out | with_reducible refine num_below ?_ (ba _ _) | with_reducible refine num_set2 _ _ ?_ QC.out | with_reducible refine num_set2 _ _ ?_ QD.out | with_reducible refine num_set2 _ _ ?_ QE.out | with_reducible refine num_set2 _ _ ?_ QF.out | with_reducible refine num_set2 _ _ ?_ (boxAt_below QC.out (ba _ _)) | with_reducible refine num_set2 _ _ ?_ (boxAt_below QE.out (ba _ _)) | with_reducible refine num_set2 _ _ ?_ (boxAt_other2 _ _ QC.out (by first | omega | (simp <;> omega))) | with_reducible refine num_set2 _ _ ?_ (boxAt_other2 _ _ QD.out (by first | omega | (simp <;> omega))) | with_reducible refine num_set2 _ _ ?_ (boxAt_other2 _ _ QE.out (by first | omega | (simp <;> omega))) | with_reducible refine num_set2 _ _ ?_ (boxAt_other2 _ _ QF.out (by first | omega | (simp <;> omega)))))
        case q8 => (repeat (first | with_reducible exact N6.out | with_reducible exact num_below N5.out B56.out | with_reducible refine num_below ?_ (ba _ _) | with_reducible refine num_set2 _ _ ?_ QC.out | with_reducible refine num_set2 _ _ ?_ QD.out | with_reducible refine num_set2 _ _ ?_ QE.out | with_reducible refine num_set2 _ _ ?_ QF.out | with_reducible refine num_set2 _ _ ?_ (boxAt_below QC.out (ba _ _)) | with_reducible refine num_set2 _ _ ?_ (boxAt_below QE.out (ba _ _)) | with_reducible refine num_set2 _ _ ?_ (boxAt_other2 _ _ QC.out (by first | omega | (simp <;> omega))) | with_reducible refine num_set2 _ _ ?_ (boxAt_other2 _ _ QD.out (by first | omega | (simp <;> omega))) | with_reducible refine num_set2 _ _ ?_ (boxAt_other2 _ _ QE.out (by first | omega | (simp <;> omega))) | with_reducible refine num_set2 _ _ ?_ (boxAt_other2 _ _ QF.out (by first | omega | (simp <;> omega)))))
  case rest =>
    obtain ⟨g, h, bu, bv, au, av, nu, nv, cu, cv, rfl, rfl, bg, bh, hn1, hn2, hbl⟩ := hcut
    have X1 := Lib.hid (WAt.below X.out hbl); have Y1 := Lib.hid (WAt.below Y.out hbl); have U1 := Lib.hid bg; have V1 := Lib.hid bh; have NU1 := Lib.hid hn1; have NV1 := Lib.hid hn2; have B1 := Lib.hid (bt B.out hbl)
    clear X Y B bg bh hn1 hn2 hbl
    have x0 := X1.out.c0; have x1 := X1.out.c1; have x2 := X1.out.c2
    go_wp2_with fail
    refine (wTimes_any n1 h1 l1 m _ HL.out.1 HL.out.2.1 HL.out.2.2.2.2).mono ?_
    rintro e w2 ⟨rfl, b2⟩
    rw [hz1.out, hp.out]
    have X2 := Lib.hid (WAt.below X1.out b2)
    have Y2 := Lib.hid (WAt.below Y1.out b2)
    have U2 := Lib.hid (boxAt_below U1.out b2)
    have V2 := Lib.hid (boxAt_below V1.out b2)
    have NU2 := Lib.hid (num_below NU1.out b2); have NV2 := Lib.hid (num_below NV1.out b2); have B2 := Lib.hid (bt B1.out b2)
    clear x0 x1 x2 b2
    clear X1 Y1 U1 V1 NU1 NV1 B1
    go_upto_region 3 with fail
    generalize hW : World.alloc w2 _ = W3
    obtain ⟨ip, hiip⟩ : ∃ x, Hid (w2.heap.size = x) := ⟨_, rfl⟩
    have P3 : Hid (WAt W3 ip pb ph pl) := by rw [← hW, ← hiip.out]; exact wAt_new _ _ _ _
    have bW : Below w2.heap.size w2 W3 := by rw [← hW]; exact ba _ _
    rw [hiip.out]
    clear hW
    have X3 := Lib.hid (WAt.below X2.out bW)
    have Y3 := Lib.hid (WAt.below Y2.out bW)
    have U3 := Lib.hid (boxAt_below U2.out bW)
    have V3 := Lib.hid (boxAt_below V2.out bW)
    have NU3 := Lib.hid (num_below NU2.out bW); have NV3 := Lib.hid (num_below NV2.out bW); have B3 := Lib.hid (bt B2.out bW)
    clear bW hiip
    clear X2 Y2 U2 V2 NU2 NV2 B2
    have x0 := X3.out.c0; have x1 := X3.out.c1; have x2 := X3.out.c2; have y0 := Y3.out.c0; have y1 := Y3.out.c1; have y2 := Y3.out.c2
    go_wp2_with fail
    refine (wAdd_any n1 n2 h1 l1 h2 l2 _ HL.out.1 HL.out.2.1 HL.out.2.2.1 HL.out.2.2.2.1).mono ?_
    rintro e w4 ⟨rfl, b4⟩
    rw [hz1.out, hz2.out, hs.out]
    have X4 := Lib.hid (WAt.below X3.out b4)
    have Y4 := Lib.hid (WAt.below Y3.out b4)
    have P4 := Lib.hid (WAt.below P3.out b4)
    have U4 := Lib.hid (boxAt_below U3.out b4)
    have V4 := Lib.hid (boxAt_below V3.out b4)
    have NU4 := Lib.hid (num_below NU3.out b4); have NV4 := Lib.hid (num_below NV3.out b4); have B4 := Lib.hid (bt B3.out b4)
    clear x0 x1 x2 y0 y1 y2 b4
    clear X3 Y3 P3 U3 V3 NU3 NV3 B3
    go_upto_region 4 with fail
    generalize hW : World.alloc w4 _ = W5
    obtain ⟨is, hiis⟩ : ∃ x, Hid (w4.heap.size = x) := ⟨_, rfl⟩
    have S5 : Hid (WAt W5 is sb sh sl) := by rw [← hW, ← hiis.out]; exact wAt_new _ _ _ _
    have bW : Below w4.heap.size w4 W5 := by rw [← hW]; exact ba _ _
    rw [hiis.out]
    clear hW
    have X5 := Lib.hid (WAt.below X4.out bW)
    have Y5 := Lib.hid (WAt.below Y4.out bW)
    have P5 := Lib.hid (WAt.below P4.out bW)
    have U5 := Lib.hid (boxAt_below U4.out bW)
    have V5 := Lib.hid (boxAt_below V4.out bW)
    have NU5 := Lib.hid (num_below NU4.out bW); have NV5 := Lib.hid (num_below NV4.out bW); have B5 := Lib.hid (bt B4.out bW)
    clear bW hiis
    clear X4 Y4 P4 U4 V4 NU4 NV4 B4
    go_wp2_with fail
    refine (of_any a _ HA.out.1 HA.out.2.1).mono ?_
    rintro e w6 ⟨va, hva, rfl, b6⟩
    have A6 := Lib.hid hva; have C6 := Lib.hid b6; clear hva b6
    go_wp2_with fail
    refine (of_any b _ HA.out.2.2.1 HA.out.2.2.2).mono ?_
    rintro e w7 ⟨vb, hvb, rfl, b7⟩
    have A7 := Lib.hid (num_below A6.out b7); have D7 := Lib.hid hvb; have C7 := Lib.hid (bt C6.out b7); clear hvb b7 A6 C6
    go_wp2_with fail
    refine (mul_any 8 8 va vb a b _ A7.out D7.out (by omega) (by omega)).mono ?_
    rintro e w8 ⟨vm, hvm, rfl, b8⟩
    have A8 := Lib.hid hvm; have C8 := Lib.hid (bt C7.out b8); clear hvm b8 A7 D7 C7
    go_wp2_with fail
    refine (as_c 16 vm _ (a * b) _ A8.out (by omega) HM.out).mono ?_
    rintro e w9 ⟨rfl, b9⟩
    have C9 := bt C8.out b9; clear b9 A8 C8
    have X9 := Lib.hid (WAt.below X5.out C9)
    have Y9 := Lib.hid (WAt.below Y5.out C9)
    have P9 := Lib.hid (WAt.below P5.out C9)
    have S9 := Lib.hid (WAt.below S5.out C9)
    have U9 := Lib.hid (boxAt_below U5.out C9)
    have V9 := Lib.hid (boxAt_below V5.out C9)
    have NU9 := Lib.hid (num_below NU5.out C9); have NV9 := Lib.hid (num_below NV5.out C9); have B9 := Lib.hid (bt B5.out C9)
    clear C9
    clear X5 Y5 P5 S5 U5 V5 NU5 NV5 B5
    go_upto_region 5 with fail
    generalize hW : World.alloc w9 _ = W10
    obtain ⟨im, hiim⟩ : ∃ x, Hid (w9.heap.size = x) := ⟨_, rfl⟩
    have M10 : Hid (WAt W10 im mb mh ml) := by rw [← hW, ← hiim.out]; exact wAt_new _ _ _ _
    have bW : Below w9.heap.size w9 W10 := by rw [← hW]; exact ba _ _
    rw [hiim.out]
    clear hW
    have X10 := Lib.hid (WAt.below X9.out bW)
    have Y10 := Lib.hid (WAt.below Y9.out bW)
    have P10 := Lib.hid (WAt.below P9.out bW)
    have S10 := Lib.hid (WAt.below S9.out bW)
    have U10 := Lib.hid (boxAt_below U9.out bW)
    have V10 := Lib.hid (boxAt_below V9.out bW)
    have NU10 := Lib.hid (num_below NU9.out bW); have NV10 := Lib.hid (num_below NV9.out bW); have B10 := Lib.hid (bt B9.out bW)
    clear bW hiim
    clear X9 Y9 P9 S9 U9 V9 NU9 NV9 B9
    go_wp2_with fail
    refine (of_any a _ HA.out.1 HA.out.2.1).mono ?_
    rintro e w11 ⟨va2, hva, rfl, b6⟩
    have A6 := Lib.hid hva; have C6 := Lib.hid b6; clear hva b6
    go_wp2_with fail
    refine (as_c 8 va2 _ a _ A6.out (by omega) HO.out).mono ?_
    rintro e w12 ⟨rfl, b9⟩
    have C9 := bt C6.out b9; clear b9 A6 C6
    have X12 := Lib.hid (WAt.below X10.out C9)
    have Y12 := Lib.hid (WAt.below Y10.out C9)
    have P12 := Lib.hid (WAt.below P10.out C9)
    have S12 := Lib.hid (WAt.below S10.out C9)
    have M12 := Lib.hid (WAt.below M10.out C9)
    have U12 := Lib.hid (boxAt_below U10.out C9)
    have V12 := Lib.hid (boxAt_below V10.out C9)
    have NU12 := Lib.hid (num_below NU10.out C9); have NV12 := Lib.hid (num_below NV10.out C9); have B12 := Lib.hid (bt B10.out C9)
    clear C9
    clear X10 Y10 P10 S10 M10 U10 V10 NU10 NV10 B10
    go_upto_region 6 with fail
    generalize hW : World.alloc w12 _ = W13
    obtain ⟨io, hiio⟩ : ∃ x, Hid (w12.heap.size = x) := ⟨_, rfl⟩
    have O13 : Hid (WAt W13 io ob oh ol) := by rw [← hW, ← hiio.out]; exact wAt_new _ _ _ _
    have bW : Below w12.heap.size w12 W13 := by rw [← hW]; exact ba _ _
    rw [hiio.out]
    clear hW
    have X13 := Lib.hid (WAt.below X12.out bW)
    have Y13 := Lib.hid (WAt.below Y12.out bW)
    have P13 := Lib.hid (WAt.below P12.out bW)
    have S13 := Lib.hid (WAt.below S12.out bW)
    have M13 := Lib.hid (WAt.below M12.out bW)
    have U13 := Lib.hid (boxAt_below U12.out bW)
    have V13 := Lib.hid (boxAt_below V12.out bW)
    have NU13 := Lib.hid (num_below NU12.out bW); have NV13 := Lib.hid (num_below NV12.out bW); have B13 := Lib.hid (bt B12.out bW)
    clear bW hiio
    clear X12 Y12 P12 S12 M12 U12 V12 NU12 NV12 B12
    have u0 := U13.out.c0; have u1 := U13.out.c1
    go_wp2_with fail
    refine (neg_any 22 _ z1 _ NU13.out).mono ?_
    rintro e w14 ⟨vk, hvk, rfl, b6⟩
    have A6 := Lib.hid hvk; have C6 := Lib.hid b6; clear hvk b6 u0 u1
    go_wp2_with fail
    refine (as_c 22 vk _ (-z1) _ A6.out (by omega) HK.out).mono ?_
    rintro e w15 ⟨rfl, b9⟩
    have C9 := bt C6.out b9; clear b9 A6 C6
    have X15 := Lib.hid (WAt.below X13.out C9)
    have Y15 := Lib.hid (WAt.below Y13.out C9)
    have P15 := Lib.hid (WAt.below P13.out C9)
    have S15 := Lib.hid (WAt.below S13.out C9)
    have M15 := Lib.hid (WAt.below M13.out C9)
    have O15 := Lib.hid (WAt.below O13.out C9)
    have U15 := Lib.hid (boxAt_below U13.out C9)
    have V15 := Lib.hid (boxAt_below V13.out C9)
    have NU15 := Lib.hid (num_below NU13.out C9); have NV15 := Lib.hid (num_below NV13.out C9); have B15 := Lib.hid (bt B13.out C9)
    clear C9
    clear X13 Y13 P13 S13 M13 O13 U13 V13 NU13 NV13 B13
    go_upto_region 7 with fail
    generalize hW : World.alloc w15 _ = W16
    obtain ⟨ik, hiik⟩ : ∃ x, Hid (w15.heap.size = x) := ⟨_, rfl⟩
    have K16 : Hid (WAt W16 ik kb kh kl) := by rw [← hW, ← hiik.out]; exact wAt_new _ _ _ _
    have bW : Below w15.heap.size w15 W16 := by rw [← hW]; exact ba _ _
    rw [hiik.out]
    clear hW
    have X16 := Lib.hid (WAt.below X15.out bW)
    have Y16 := Lib.hid (WAt.below Y15.out bW)
    have P16 := Lib.hid (WAt.below P15.out bW)
    have S16 := Lib.hid (WAt.below S15.out bW)
    have M16 := Lib.hid (WAt.below M15.out bW)
    have O16 := Lib.hid (WAt.below O15.out bW)
    have U16 := Lib.hid (boxAt_below U15.out bW)
    have V16 := Lib.hid (boxAt_below V15.out bW)
    have NU16 := Lib.hid (num_below NU15.out bW); have NV16 := Lib.hid (num_below NV15.out bW); have B16 := Lib.hid (bt B15.out bW)
    clear bW hiik
    clear X15 Y15 P15 S15 M15 O15 U15 V15 NU15 NV15 B15
    have mkS : ∀ w', Below W16.heap.size W16 w' → (Below W16.heap.size W16 w' ∧ w'.cell? ⟨w.heap.size, 0, none⟩ = some (.bool n1) ∧ w'.cell? ⟨w.heap.size, 1, none⟩ = some (.int .u64 (h1 : Int)) ∧ w'.cell? ⟨w.heap.size, 2, none⟩ = some (.int .u64 (l1 : Int)) ∧ w'.cell? ⟨w.heap.size + 1, 0, none⟩ = some (.bool n2) ∧ w'.cell? ⟨w.heap.size + 1, 1, none⟩ = some (.int .u64 (h2 : Int)) ∧ w'.cell? ⟨w.heap.size + 1, 2, none⟩ = some (.int .u64 (l2 : Int)) ∧ w'.cell? ⟨ip, 0, none⟩ = some (.bool pb) ∧ w'.cell? ⟨ip, 1, none⟩ = some (.int .u64 (ph : Int)) ∧ w'.cell? ⟨ip, 2, none⟩ = some (.int .u64 (pl : Int)) ∧ w'.cell? ⟨is, 0, none⟩ = some (.bool sb) ∧ w'.cell? ⟨is, 1, none⟩ = some (.int .u64 (sh : Int)) ∧ w'.cell? ⟨is, 2, none⟩ = some (.int .u64 (sl : Int)) ∧ w'.cell? ⟨im, 0, none⟩ = some (.bool mb) ∧ w'.cell? ⟨im, 1, none⟩ = some (.int .u64 (mh : Int)) ∧ w'.cell? ⟨im, 2, none⟩ = some (.int .u64 (ml : Int)) ∧ w'.cell? ⟨io, 0, none⟩ = some (.bool ob) ∧ w'.cell? ⟨io, 1, none⟩ = some (.int .u64 (oh : Int)) ∧ w'.cell? ⟨io, 2, none⟩ = some (.int .u64 (ol : Int)) ∧ w'.cell? ⟨ik, 0, none⟩ = some (.bool kb) ∧ w'.cell? ⟨ik, 1, none⟩ = some (.int .u64 (kh : Int)) ∧ w'.cell? ⟨ik, 2, none⟩ = some (.int .u64 (kl : Int)) ∧ w'.cell? ⟨g, 0, none⟩ = some (.bool bu) ∧ w'.cell? ⟨g, 1, none⟩ = some (.slice au nu cu) ∧ w'.cell? ⟨h, 0, none⟩ = some (.bool bv) ∧ w'.cell? ⟨h, 1, none⟩ = some (.slice av nv cv)) := fun w' hb => ⟨hb, (WAt.below X16.out hb).c0, (WAt.below X16.out hb).c1, (WAt.below X16.out hb).c2, (WAt.below Y16.out hb).c0, (WAt.below Y16.out hb).c1, (WAt.below Y16.out hb).c2, (WAt.below P16.out hb).c0, (WAt.below P16.out hb).c1, (WAt.below P16.out hb).c2, (WAt.below S16.out hb).c0, (WAt.below S16.out hb).c1, (WAt.below S16.out hb).c2, (WAt.below M16.out hb).c0, (WAt.below M16.out hb).c1, (WAt.below M16.out hb).c2, (WAt.below O16.out hb).c0, (WAt.below O16.out hb).c1, (WAt.below O16.out hb).c2, (WAt.below K16.out hb).c0, (WAt.below K16.out hb).c1, (WAt.below K16.out hb).c2, (boxAt_below U16.out hb).c0, (boxAt_below U16.out hb).c1, (boxAt_below V16.out hb).c0, (boxAt_below V16.out hb).c1⟩
    have HS0 := mkS _ ((Below.refl _ _).drew)
    have hkz : Hid (wv (-(wz n1 h1 l1)) = .agg #[.bool kb, .int .u64 (kh : Int), .int .u64 (kl : Int)]) := by show _ = _; rw [hz1.out]; exact hk.out
    have hcz : Hid (cmpZ (wz n1 h1 l1) (wz n2 h2 l2) = c) := by show _ = _; rw [hz1.out, hz2.out]; exact hc.out
    go_region_held3 (fun w' => Below W16.heap.size W16 w' ∧ w'.cell? ⟨w.heap.size, 0, none⟩ = some (.bool n1) ∧ w'.cell? ⟨w.heap.size, 1, none⟩ = some (.int .u64 (h1 : Int)) ∧ w'.cell? ⟨w.heap.size, 2, none⟩ = some (.int .u64 (l1 : Int)) ∧ w'.cell? ⟨w.heap.size + 1, 0, none⟩ = some (.bool n2) ∧ w'.cell? ⟨w.heap.size + 1, 1, none⟩ = some (.int .u64 (h2 : Int)) ∧ w'.cell? ⟨w.heap.size + 1, 2, none⟩ = some (.int .u64 (l2 : Int)) ∧ w'.cell? ⟨ip, 0, none⟩ = some (.bool pb) ∧ w'.cell? ⟨ip, 1, none⟩ = some (.int .u64 (ph : Int)) ∧ w'.cell? ⟨ip, 2, none⟩ = some (.int .u64 (pl : Int)) ∧ w'.cell? ⟨is, 0, none⟩ = some (.bool sb) ∧ w'.cell? ⟨is, 1, none⟩ = some (.int .u64 (sh : Int)) ∧ w'.cell? ⟨is, 2, none⟩ = some (.int .u64 (sl : Int)) ∧ w'.cell? ⟨im, 0, none⟩ = some (.bool mb) ∧ w'.cell? ⟨im, 1, none⟩ = some (.int .u64 (mh : Int)) ∧ w'.cell? ⟨im, 2, none⟩ = some (.int .u64 (ml : Int)) ∧ w'.cell? ⟨io, 0, none⟩ = some (.bool ob) ∧ w'.cell? ⟨io, 1, none⟩ = some (.int .u64 (oh : Int)) ∧ w'.cell? ⟨io, 2, none⟩ = some (.int .u64 (ol : Int)) ∧ w'.cell? ⟨ik, 0, none⟩ = some (.bool kb) ∧ w'.cell? ⟨ik, 1, none⟩ = some (.int .u64 (kh : Int)) ∧ w'.cell? ⟨ik, 2, none⟩ = some (.int .u64 (kl : Int)) ∧ w'.cell? ⟨g, 0, none⟩ = some (.bool bu) ∧ w'.cell? ⟨g, 1, none⟩ = some (.slice au nu cu) ∧ w'.cell? ⟨h, 0, none⟩ = some (.bool bv) ∧ w'.cell? ⟨h, 1, none⟩ = some (.slice av nv cv))
      (first | with_reducible exact HS0 | with_reducible assumption)
      (first
        | (go_at_call 17; (with_reducible refine (word_any (m : Int) _ (by omega) (by have := HL.out; omega)).mono ?_); rintro e w20 ⟨v20, hz, rfl, b20⟩; have HS20 := mkS _ (bt (And.left (by assumption)) b20); have T20 := Lib.hid (HS20.1); have N20 := Lib.hid hz; clear hz; clear b20)
        | (go_at_call 25; (with_reducible refine (mul_any 22 7 _ _ z1 (m : Int) _ (num_below NU16.out T20.out) N20.out (by omega) (by omega)).mono ?_); rintro e w21 ⟨v21, hz, rfl, b21⟩; have HS21 := mkS _ (bt (And.left (by assumption)) b21); have T21 := Lib.hid (HS21.1); have N21 := Lib.hid hz; clear hz; clear b21)
        | (go_at_call 20; (with_reducible refine (told_any (22 + 7) (z1 * (m : Int)) pb ph pl pe _ _ hp N21.out (by omega)).mono ?_); rintro e w22 ⟨rfl, b22⟩; have HS22 := mkS _ (bt (And.left (by assumption)) b22); have T22 := Lib.hid (HS22.1); clear b22)
        | (go_at_call 27; (with_reducible refine (add_any 22 22 _ _ z1 z2 _ (num_below NU16.out T22.out) (num_below NV16.out T22.out) (by omega) (by omega)).mono ?_); rintro e w23 ⟨v23, hz, rfl, b23⟩; have HS23 := mkS _ (bt (And.left (by assumption)) b23); have T23 := Lib.hid (HS23.1); have N23 := Lib.hid hz; clear hz; clear b23)
        | (go_at_call 20; (with_reducible refine (told_any (max 22 22 + 1) (z1 + z2) sb sh sl se _ _ hs N23.out (by omega)).mono ?_); rintro e w24 ⟨rfl, b24⟩; have HS24 := mkS _ (bt (And.left (by assumption)) b24); have T24 := Lib.hid (HS24.1); clear b24)
        | (go_at_call 28; (with_reducible refine (wMul_c a b _ _ HA.out.1 HA.out.2.1 HA.out.2.2.1 HA.out.2.2.2 hm.out).mono ?_); rintro e w25 ⟨rfl, b25⟩; have HS25 := mkS _ (bt (And.left (by assumption)) b25); have T25 := Lib.hid (HS25.1); clear b25)
        | (go_at_call 29; (with_reducible refine (wOf_c a _ _ HA.out.1 HA.out.2.1 ho.out).mono ?_); rintro e w26 ⟨rfl, b26⟩; have HS26 := mkS _ (bt (And.left (by assumption)) b26); have T26 := Lib.hid (HS26.1); clear b26)
        | (go_at_call 30; (with_reducible refine (wNeg_c n1 h1 l1 _ _ HL.out.1 HL.out.2.1 hkz.out).mono ?_); rintro e w27 ⟨rfl, b27⟩; have HS27 := mkS _ (bt (And.left (by assumption)) b27); have T27 := Lib.hid (HS27.1); clear b27)
        | (go_at_call 31; (with_reducible refine (wCmp_c n1 n2 h1 l1 h2 l2 c _ HL.out.1 HL.out.2.1 HL.out.2.2.1 HL.out.2.2.2.1 hcz.out).mono ?_); rintro e w28 ⟨rfl, b28⟩; have HS28 := mkS _ (bt (And.left (by assumption)) b28); have T28 := Lib.hid (HS28.1); clear b28)
        | (go_at_call 21; (with_reducible refine (cmp_c 22 22 _ _ z1 z2 c _ (num_below NU16.out T28.out) (num_below NV16.out T28.out) (by omega) (by omega) hc.out).mono ?_); rintro e w29 ⟨rfl, b29⟩; have HS29 := mkS _ (bt (And.left (by assumption)) b29); have T29 := Lib.hid (HS29.1); clear b29))
    all_goals
      have X30 := Lib.hid (WAt.below X16.out T29.out); have U30 := Lib.hid (boxAt_below U16.out T29.out); have NU30 := Lib.hid (num_below NU16.out T29.out); have B30 := Lib.hid (bt B16.out T29.out)
      clear mkS HS0 HS20 HS21 HS22 HS23 HS24 HS25 HS26 HS27 HS28 HS29 T20 T21 T22 T23 T24 T25 T26 T27 T28 T29 N20 N21 N23
      have x0 := X30.out.c0; have x1 := X30.out.c1; have x2 := X30.out.c2; have u0 := U30.out.c0; have u1 := U30.out.c1
      go_wp2_with fail
      refine (wSmall_any n1 h1 l1 _ HL.out.1 HL.out.2.1).mono ?_
      rintro e w31 ⟨rfl, b31⟩
      rw [hz1.out, hsm.out]
      have U31 := Lib.hid (boxAt_below U30.out b31); have NU31 := Lib.hid (num_below NU30.out b31); have B31 := Lib.hid (bt B30.out b31)
      clear x0 x1 x2 u0 u1 b31
      have u0 := U31.out.c0; have u1 := U31.out.c1
      go_wp2_with fail
      refine (small_any 22 _ z1 _ NU31.out (by omega)).mono ?_
      rintro e w32 ⟨rfl, b32⟩
      rw [hsm.out]
      have B32 := Lib.hid (bt B31.out b32)
      clear u0 u1 b32
      go_wp2_with fail
      refine (known_any _).mono ?_
      rintro e w33 ⟨rfl, b33⟩
      have B33 := Lib.hid (bt B32.out b33)
      clear b33
      go_wp2_with fail
      go_ret
      exact ⟨rfl, B33.out⟩
end Go.Proofs.Ytlbmmnjecemkeaa
