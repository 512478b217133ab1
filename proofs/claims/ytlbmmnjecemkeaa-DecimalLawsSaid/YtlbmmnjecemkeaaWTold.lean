/-
  THE WALKS of corrodylaw01's told and known.
-/
import Derived.Test.YtlbmmnjecemkeaaWTimes
import Derived.Test.YtlbmmnjecemkeaaWEven
import Derived.Deep.RegionHeld3
namespace Go.Proofs.Ytlbmmnjecemkeaa
open Go.RowKit
attribute [local go_sem ↓] Go.wp_at_zero Go.wp_at_succ

/-- an answer's two parts, out of the number -/
theorem ov_parts (z : Int) (b : Bool) (h l : Nat) (e : Int) (hov : ovV z = .tuple #[.agg #[.bool b, .int .u64 (h : Int), .int .u64 (l : Int)], .int .i64 e]) :
    (e = 0 ∧ asV z = .tuple #[.agg #[.bool b, .int .u64 (h : Int), .int .u64 (l : Int)], .bool true]) ∨ (e = 11 ∧ b = false ∧ h = 0 ∧ l = 0 ∧ asV z = .tuple #[.agg #[.bool false, .int .u64 0, .int .u64 0], .bool false]) := by
  unfold ovV at hov
  unfold asV
  split at hov
  · rename_i hz
    rw [if_pos hz]
    simp only [Value.tuple.injEq, Array.mk.injEq, List.cons.injEq, Value.int.injEq, and_true, true_and] at hov
    refine .inl ⟨hov.2.symm, ?_⟩
    rw [← hov.1]; rfl
  · rename_i hz
    rw [if_neg hz]
    simp only [Value.tuple.injEq, Value.agg.injEq, Array.mk.injEq, List.cons.injEq, Value.int.injEq, Value.bool.injEq, and_true, true_and] at hov
    exact .inr ⟨hov.2.symm, hov.1.1.symm, by omega, by omega, rfl⟩

set_option maxRecDepth 100000 in
set_option maxHeartbeats 1000000 in
theorem told_any (k : Nat) (z : Int) (b : Bool) (h l : Nat) (e : Int) (want : Value) (w : World) (hov : Hid (ovV z = .tuple #[.agg #[.bool b, .int .u64 (h : Int), .int .u64 (l : Int)], .int .i64 e])) (hn : Num k w want z) (hk : k ≤ 8000) :
    Calls Try.prog 20 #[.agg #[.bool b, .int .u64 (h : Int), .int .u64 (l : Int)], .int .i64 e, want] w fun e w' => e = .returned (.bool true) ∧ Below w.heap.size w w' := by
  obtain ⟨bw, aw, nw, cw, rfl⟩ := num_agg hn
  have HN := Lib.hid hn
  clear hn
  rcases ov_parts z b h l e hov.out with ⟨rfl, ha⟩ | ⟨rfl, rfl, rfl, rfl, ha⟩
  · have HA := Lib.hid ha
    clear ha hov
    go_enter Try.func20, Try.ntmps20
    go_wp2_with fail
    refine (as_any k _ z _ (num_below HN.out (bt (ba _ _) (ba _ _))) hk).mono ?_
    rintro e w2 ⟨rfl, b2⟩
    rw [HA.out]
    have X := Lib.hid (WAt.below (WAt.below (wAt_new w b h l) (ba _ (.cells #[.bool bw, .slice aw nw cw] 34))) b2)
    have d0 := X.out.c0; have d1 := X.out.c1; have d2 := X.out.c2; have lx := X.out.lt
    have B := Lib.hid (bt (ba _ _) (bt (ba _ _) b2))
    clear b2
    go_wp2_with fail
    go_ret
    exact ⟨rfl, bt B.out (ba _ _)⟩
  · have HA := Lib.hid ha
    clear ha hov
    go_enter Try.func20, Try.ntmps20
    go_wp2_with fail
    refine (as_any k _ z _ (num_below HN.out (bt (ba _ _) (ba _ _))) hk).mono ?_
    rintro e w2 ⟨rfl, b2⟩
    rw [HA.out]
    have X := Lib.hid (WAt.below (WAt.below (wAt_new w false (0 : Nat) (0 : Nat)) (ba _ (.cells #[.bool bw, .slice aw nw cw] 34))) b2)
    have d0 := X.out.c0; have d1 := X.out.c1; have d2 := X.out.c2; have lx := X.out.lt
    have B := Lib.hid (bt (ba _ _) (bt (ba _ _) b2))
    clear b2
    go_wp2_with fail
    go_ret
    exact ⟨rfl, bt B.out (ba _ _)⟩

/-- the number 10 times .. of a known one -/
theorem wv_small (z : Int) (h0 : -9223372036854775808 ≤ z) (h1 : z ≤ 9223372036854775807) : ∃ (b : Bool) (l : Nat), wv z = .agg #[.bool b, .int .u64 ((0 : Nat) : Int), .int .u64 (l : Int)] ∧ l < 18446744073709551616 ∧ wz b (0 : Nat) l = z := by
  refine ⟨decide (z < 0), z.natAbs, ?_, by omega, wz_of z⟩
  unfold wv wr
  rw [show z.natAbs / 18446744073709551616 = 0 by omega, show z.natAbs % 18446744073709551616 = z.natAbs by omega]

set_option maxRecDepth 100000 in
set_option maxHeartbeats 1000000 in
theorem known1_any (n q : Int) (w : World) (h0 : -1000 ≤ n) (h1 : n ≤ 1000) (hq : evenZ n 10 = q) :
    Calls Try.prog 61 #[.int .i64 n] w fun e w' => e = .returned (.int .i64 q) ∧ Below w.heap.size w w' := by
  have hq0 : -1000 ≤ q ∧ q ≤ 1000 := by rw [← hq]; unfold evenZ; omega
  obtain ⟨b1, l1, e1, g1, v1⟩ := wv_small n (by omega) (by omega)
  obtain ⟨b2, l2, e2, g2, v2⟩ := wv_small q (by omega) (by omega)
  have HS : Hid (smallV q = .tuple #[.int .i64 q, .bool true]) := by show _ = _; unfold smallV; rw [if_pos (by omega)]
  have HQ := Lib.hid hq; have H0 := Lib.hid h0; have H1 := Lib.hid h1; have E1 := Lib.hid e1; have E2 := Lib.hid e2; have G1 := Lib.hid g1; have G2 := Lib.hid g2; have V1 := Lib.hid v1; have V2 := Lib.hid v2
  clear hq0 h0 h1 hq e1 e2 g1 g2 v1 v2
  go_enter Try.func61, Try.ntmps61
  go_wp2_with fail
  refine (wOf_any n _ (by have := H0.out; omega) (by have := H1.out; omega)).mono ?_
  rintro e w1 ⟨rfl, B1⟩
  rw [E1.out]
  go_wp2_with fail
  refine (wEven_any b1 0 l1 10 _ (by omega) G1.out (by omega) (by omega)).mono ?_
  rintro e w2 ⟨rfl, B2⟩
  rw [V1.out, HQ.out, E2.out]
  have BH := Lib.hid (bt B1 B2)
  clear B1 B2
  go_wp2_with fail
  refine (wSmall_any b2 0 l2 _ (by omega) G2.out).mono ?_
  rintro e w3 ⟨rfl, B3⟩
  rw [V2.out, HS.out]
  have BI := Lib.hid (bt BH.out (bt (ba _ _) B3))
  clear B3
  go_wp2_with fail
  go_ret
  exact ⟨rfl, BI.out⟩
end Go.Proofs.Ytlbmmnjecemkeaa
