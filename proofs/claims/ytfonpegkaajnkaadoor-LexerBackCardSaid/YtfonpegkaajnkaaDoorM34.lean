/-
  The document's decimals (corrodyref02), walked: Is, Round, Put, May, Cmp, Add, Sub; dectext: what Text works with: the canonical number; a row of bytes in memory.
-/
import Derived.Test.YtfonpegkaajnkaaDoorM33
import Derived.Test.YtfonpegkaajnkaaDoorM9
import Derived.Test.YtfonpegkaajnkaaDoorM31
import Derived.Laws.IdiomCopy
import Derived.Laws.MakeOwn
import Derived.Laws.IdiomStrings
import Derived.Lib.LazyBuf
/-
  The document's decimals (corrodyref02), walked: Is, Round, Put, May, Cmp, Add, Sub.
-/
namespace Go.Proofs.YtfonpegkaajnkaaDoor
open Go.RowKit
set_option linter.unusedSimpArgs false
attribute [local go_sem ↓] Go.wp_at_zero Go.wp_at_succ

set_option maxRecDepth 100000 in
theorem rIs_any (c s : Int) (w : World) : Calls Tryd.prog 18 #[.agg #[.int .i64 c, .int .i64 s]] w fun e w' => e = .returned (.bool (isB s)) ∧ Below w.heap.size w w' := by
  by_cases h0 : 0 ≤ s
  · have d1 : decide (0 ≤ s) = true := by simpa using h0
    by_cases h9 : s ≤ 9
    · have d2 : decide (s ≤ 9) = true := by simpa using h9
      have e : isB s = true := by unfold isB; simp; omega
      rw [e]
      go_enter Tryd.func18, Tryd.ntmps18
      go_wp2_with fail
      go_ret
      exact ⟨rfl, ba _ _⟩
    · have d2 : decide (s ≤ 9) = false := by simpa using h9
      have e : isB s = false := by unfold isB; simp; omega
      rw [e]
      go_enter Tryd.func18, Tryd.ntmps18
      go_wp2_with fail
      go_ret
      exact ⟨rfl, ba _ _⟩
  · have d1 : decide (0 ≤ s) = false := by simpa using h0
    have e : isB s = false := by unfold isB; simp; omega
    rw [e]
    go_enter Tryd.func18, Tryd.ntmps18
    go_wp2_with fail
    go_ret
    exact ⟨rfl, ba _ _⟩
theorem near_val (u : Int) (t : Nat) (ht : t ≤ 9) : evenZ (u * ((10 ^ 9 : Nat) : Int)) (10 ^ (18 - t)) = evenZ u (10 ^ (9 - t)) := by
  rw [pow_split (9 - t) 9 (18 - t) (by omega), evenZ_scale _ _ _ (ten_pos _)]
theorem near9_any (k : Nat) (v : Value) (u : Int) (w : World) (hv : Num k w v u) (hk : k ≤ 8000) : Calls Tryd.prog 72 #[v, .int .i64 9] w (NumPost (k + 9) (evenZ u (10 ^ (18 - 9))) w) := near_any k v u 9 w hv hk (by omega)
theorem made9_any (K : Nat) (v : Value) (u : Int) (V : Value) (w : World) (hn : Num K w v u) (hK : K ≤ 7000) (hV : decV u 9 = V) : Calls Tryd.prog 71 #[v, .int .i64 9] w fun e w' => e = .returned V ∧ Below w.heap.size w w' := madeR_any K v u 9 V w hn hK (by omega) hV
theorem near_val9 (u : Int) : evenZ (u * ((10 ^ 9 : Nat) : Int)) (10 ^ (18 - 9)) = u := evenZ_exact u (10 ^ 9) (ten_pos 9)

set_option maxRecDepth 100000 in
set_option maxHeartbeats 1000000 in
theorem rRound_any (c : Int) (n t : Nat) (V : Value) (w : World) (hc : fits c) (hn : n ≤ 9) (ht : t ≤ 9) (hV : decV (evenZ (un c n) (10 ^ (9 - t))) t = V) :
    Calls Tryd.prog 36 #[.agg #[.int .i64 c, .int .i64 (n : Int)], .int .i64 (t : Int)] w fun e w' => e = .returned V ∧ Below w.heap.size w w' := by
  rw [← near_val _ _ ht] at hV
  obtain ⟨vc, vs, ve, hvv⟩ := decV_form (evenZ (un c n * ((10 ^ 9 : Nat) : Int)) (10 ^ (18 - t))) t; rw [hV] at hvv; subst hvv
  go_enter Tryd.func36, Tryd.ntmps36
  go_upto_region 1 with fail
  obtain ⟨hX, hR, hB⟩ := two_dec w c (n : Int) 0 0
  have X0 := Lib.hid hX; have R0 := Lib.hid hR; have B0 := Lib.hid hB; clear hX hR hB
  generalize World.alloc (World.alloc w _) _ = W0 at X0 R0 B0 ⊢
  have x0 := X0.out.c0; have x1 := X0.out.c1
  go_wp2_with fail
  refine (units_any c n _ hc hn).mono ?_
  rintro e w1 ⟨v1, hz, rfl, b1⟩
  have N1 := Lib.hid hz; have T1 := Lib.hid b1; clear hz b1
  go_wp2_with fail
  refine (near_any 36 v1 _ t _ N1.out (by omega) ht).mono ?_
  rintro e w2 ⟨v2, hz, rfl, b2⟩
  have N2 := Lib.hid hz; have T2 := Lib.hid (bt T1.out b2); clear hz b2
  go_wp2_with fail
  refine (madeR_any 45 v2 _ t _ _ N2.out (by omega) (by omega) hV).mono ?_
  rintro e w3 ⟨rfl, b3⟩
  have T3 := bt T2.out b3
  have R3 := Lib.hid (DAt.below R0.out T3); have B3 := Lib.hid (bt B0.out T3); clear b3 T3 x0 x1
  have r0 := R3.out.c0; have r1 := R3.out.c1; have r2 := R3.out.f0; have r3 := R3.out.f1
  go_wp2_with fail
  refine bodyPost_ret (v := .tuple #[.agg #[.int .i64 vc, .int .i64 vs], .int .i64 ve]) (by simp [results, Tryd.results36, go_sem, r0, r1]) rfl ⟨rfl, (B3.out.setCell (by simp) _).setCell (by simp) _⟩

set_option maxRecDepth 100000 in
theorem rPut_any (c : Int) (n : Nat) (V : Value) (w : World) (hc : fits c) (hn : n ≤ 9) (hV : decV c n = V) :
    Calls Tryd.prog 19 #[.agg #[.int .i64 c, .int .i64 (n : Int)]] w fun e w' => e = .returned V ∧ Below w.heap.size w w' := by
  obtain ⟨vc, vs, ve, hvv⟩ := decV_form c n; rw [hV] at hvv; subst hvv
  have hV' : decV (evenZ (un c n) (10 ^ (9 - 9))) 9 = .tuple #[.agg #[.int .i64 vc, .int .i64 vs], .int .i64 ve] := by
    rw [show 10 ^ (9 - 9) = 1 from rfl, evenZ_one, decV_un c n hn, hV]
  go_enter Tryd.func19, Tryd.ntmps19
  go_upto_region 1 with fail
  obtain ⟨hX, hR, hB⟩ := two_dec w c (n : Int) 0 0
  have X0 := Lib.hid hX; have R0 := Lib.hid hR; have B0 := Lib.hid hB; clear hX hR hB
  generalize World.alloc (World.alloc w _) _ = W0 at X0 R0 B0 ⊢
  have x0 := X0.out.c0; have x1 := X0.out.c1
  go_wp2_with fail
  refine (rRound_any c n 9 _ _ hc hn (by omega) hV').mono ?_
  rintro e w3 ⟨rfl, b3⟩
  have R3 := Lib.hid (DAt.below R0.out b3); have B3 := Lib.hid (bt B0.out b3); clear b3 x0 x1
  have r0 := R3.out.c0; have r1 := R3.out.c1; have r2 := R3.out.f0; have r3 := R3.out.f1
  go_wp2_with fail
  refine bodyPost_ret (v := .tuple #[.agg #[.int .i64 vc, .int .i64 vs], .int .i64 ve]) (by simp [results, Tryd.results19, go_sem, r0, r1]) rfl ⟨rfl, (B3.out.setCell (by simp) _).setCell (by simp) _⟩

/-- a number is canonical just where Put lets it be -/
theorem may_cases (c : Int) (n : Nat) (hc : fits c) (hn : n ≤ 9) :
    (mayB c (n : Int) = true ∧ decV c n = .tuple #[.agg #[.int .i64 c, .int .i64 (n : Int)], .int .i64 0]) ∨
    (mayB c (n : Int) = false ∧ ∃ p q : Int, decV c n = .tuple #[.agg #[.int .i64 p, .int .i64 q], .int .i64 0] ∧ (n : Int) ≠ q) ∨
    (mayB c (n : Int) = false ∧ decV c n = .tuple #[.agg #[.int .i64 0, .int .i64 0], .int .i64 11]) := by
  have hi : isB (n : Int) = true := by unfold isB; simp; omega
  by_cases h : n = 0 ∨ c % 10 ≠ 0
  · left
    refine ⟨?_, ?_⟩
    · unfold mayB; rw [hi]
      rcases h with h | h
      · subst h; simp
      · simp [h]
    · unfold decV; rw [trim_self c n h, if_pos hc]
  · right
    have hm : mayB c (n : Int) = false := by
      unfold mayB; rw [hi]
      have h1 : n ≠ 0 := fun k => h (.inl k)
      have h2 : c % 10 = 0 := by rcases Decidable.em (c % 10 = 0) with k | k; exact k; exact absurd (.inr k) h
      simp [h1, h2]
    cases n with
    | zero => exact absurd (.inl rfl) h
    | succ n =>
      have h2 : c % 10 = 0 := by rcases Decidable.em (c % 10 = 0) with k | k; exact k; exact absurd (.inr k) h
      unfold decV
      rw [trim_succ, if_pos h2]
      have hl := trim_le (c / 10) n
      by_cases hf : fits (trim (c / 10) n).1
      · left; refine ⟨hm, _, _, by rw [if_pos hf], by omega⟩
      · right; exact ⟨hm, by rw [if_neg hf]⟩
set_option maxRecDepth 100000 in
set_option maxHeartbeats 1000000 in
theorem rMay_any (c s : Int) (w : World) (hc : fits c) : Calls Tryd.prog 33 #[.agg #[.int .i64 c, .int .i64 s]] w fun e w' => e = .returned (.bool (mayB c s)) ∧ Below w.heap.size w w' := by
  cases hs : isB s with
  | false =>
    have hm : mayB c s = false := by unfold mayB; rw [hs]; rfl
    rw [hm]
    go_enter Tryd.func33, Tryd.ntmps33
    go_wp2_with fail
    refine (rIs_any c s _).mono ?_
    rintro e w1 ⟨rfl, b1⟩
    rw [hs]
    have B1 := Lib.hid (bt (ba _ _) b1); clear b1
    go_wp2_with fail
    go_ret
    exact ⟨rfl, B1.out⟩
  | true =>
    obtain ⟨n, rfl, hn⟩ := isB_nat hs
    have main : ∀ (p q e : Int) (b : Bool), decV c n = .tuple #[.agg #[.int .i64 p, .int .i64 q], .int .i64 e] → mayB c (n : Int) = b → ((e = 0 ∧ b = true ∧ p = c ∧ q = (n : Int)) ∨ (e = 0 ∧ b = false ∧ (n : Int) ≠ q) ∨ (e = 11 ∧ b = false)) →
        Calls Tryd.prog 33 #[.agg #[.int .i64 c, .int .i64 (n : Int)]] w fun e w' => e = .returned (.bool (mayB c (n : Int))) ∧ Below w.heap.size w w' := by
      intro p q e b hV hm hcase
      rw [hm]
      have HV := Lib.hid hV
      clear hV hm
      go_enter Tryd.func33, Tryd.ntmps33
      go_upto_region 1 with fail
      have X0 := Lib.hid (dAt_new w c (n : Int)); have B0 := Lib.hid (ba w (.cells #[.int .i64 c, .int .i64 (n : Int)] 24))
      generalize World.alloc w _ = W0 at X0 B0 ⊢
      have x0 := X0.out.c0; have x1 := X0.out.c1
      go_wp2_with fail
      refine (rIs_any c (n : Int) _).mono ?_
      rintro e w1 ⟨rfl, b1⟩
      rw [hs]
      have X1 := Lib.hid (DAt.below X0.out b1); have B1 := Lib.hid (bt B0.out b1); clear b1 x0 x1
      have x0 := X1.out.c0; have x1 := X1.out.c1
      go_wp2_with fail
      refine (rPut_any c n _ _ hc hn HV.out).mono ?_
      rintro e w2 ⟨rfl, b1⟩
      go_upto_region 4 with fail
      generalize hW : World.alloc w2 _ = W3
      have P3 : Hid (DAt W3 w2.heap.size p q) := by rw [← hW]; exact dAt_new _ _ _
      have b3 := bt b1 (ba w2 (.cells #[.int .i64 p, .int .i64 q] 24))
      rw [hW] at b3
      have X3 := Lib.hid (DAt.below X1.out b3); have B3 := Lib.hid (bt B1.out b3); clear b1 b3 hW x0 x1
      have x0 := X3.out.c0; have x1 := X3.out.c1; have p0 := P3.out.c0; have p1 := P3.out.c1
      rcases hcase with ⟨rfl, rfl, rfl, rfl⟩ | ⟨rfl, rfl, hne⟩ | ⟨rfl, rfl⟩
      · go_wp2_with fail
        go_ret
        exact ⟨rfl, B3.out⟩
      · have k1 : ((n : Int) == q) = false := by simpa using hne
        go_wp2_with fail
        go_ret
        exact ⟨by simp [hne], B3.out⟩
      · go_wp2_with fail
        go_ret
        exact ⟨rfl, B3.out⟩
    rcases may_cases c n hc hn with ⟨h1, h2⟩ | ⟨h1, p, q, h2, h3⟩ | ⟨h1, h2⟩
    · exact main _ _ _ _ h2 h1 (.inl ⟨rfl, rfl, rfl, rfl⟩)
    · exact main _ _ _ _ h2 h1 (.inr (.inl ⟨rfl, rfl, h3⟩))
    · exact main _ _ _ _ h2 h1 (.inr (.inr ⟨rfl, rfl⟩))

end Go.Proofs.YtfonpegkaajnkaaDoor
/-
  dectext: what Text works with: the canonical number; a row of bytes in memory.
-/
namespace Go.Proofs.YtfonpegkaajnkaaDoor.Tx
open Go Go.RowKit Dt

def canC (c s : Int) : Int := (trim c s.toNat).1
def canS (c s : Int) : Nat := (trim c s.toNat).2
theorem trim_fit (c : Int) (n : Nat) (h : Fit c) : Fit (trim c n).1 := by
  have e := trim_val c n
  have p : (1 : Int) ≤ 10 ^ (n - (trim c n).2) := by
    have := Nat.pow_pos (n := n - (trim c n).2) (show 0 < 10 by decide)
    have e2 : ((10 ^ (n - (trim c n).2) : Nat) : Int) = (10 : Int) ^ (n - (trim c n).2) := by push_cast; rfl
    rw [← e2]; omega
  have m : ∀ (x p : Int), 1 ≤ p → x.natAbs ≤ (x * p).natAbs := fun x p hp => by
    rw [Int.natAbs_mul]; exact Nat.le_mul_of_pos_right _ (by omega)
  have := m (trim c n).1 _ p
  rw [e] at this
  unfold Fit at h ⊢
  have sgn1 : c < 0 ∨ 0 ≤ c := by omega
  by_cases hx : (trim c n).1 = -9223372036854775808
  · omega
  · rcases Int.lt_or_le c 0 with hc | hc
    · have : (trim c n).1 ≤ 0 := by
        rcases Int.lt_or_le 0 (trim c n).1 with k | k
        · have := Int.mul_pos k (show (0 : Int) < 10 ^ (n - (trim c n).2) by omega); omega
        · exact k
      omega
    · have : 0 ≤ (trim c n).1 := by
        rcases Int.lt_or_le (trim c n).1 0 with k | k
        · have := Int.mul_neg_of_neg_of_pos k (show (0 : Int) < 10 ^ (n - (trim c n).2) by omega); omega
        · exact k
      omega
theorem putV_ok {c s : Int} (hc : Fit c) (h : isB s = true) : putV c s = .tuple #[.agg #[.int .i64 (canC c s), .int .i64 (canS c s : Int)], .int .i64 0] := by
  obtain ⟨n, rfl, hn⟩ := isB_nat h
  unfold putV canC canS
  rw [if_pos h, Int.toNat_natCast, decV_un c n hn]
  unfold decV
  exact if_pos (trim_fit c n hc)
theorem putV_no {c s : Int} (h : isB s = false) : putV c s = .tuple #[.agg #[.int .i64 0, .int .i64 0], .int .i64 2] := by
  unfold putV; rw [h]; rfl
theorem canS_le {c s : Int} (h : isB s = true) : canS c s ≤ 9 := by
  obtain ⟨n, rfl, hn⟩ := isB_nat h
  unfold canS
  rw [Int.toNat_natCast]
  exact Nat.le_trans (trim_le c n) hn
/-- a number's text, or none -/
def textS (c s : Int) : List UInt8 := if isB s = true then dtxt (canC c s) (canS c s) else []
theorem dd_len_le {a : Nat} (h : a ≤ 9223372036854775808) : (Lib.decDigits a).length ≤ 19 := by
  have b := (dd_bounds a a (Nat.le_refl _)).2
  rcases b with e | e
  · omega
  · rcases Nat.lt_or_ge 19 (Lib.decDigits a).length with g | g
    · have := Nat.pow_le_pow_right (n := 10) (by decide) (show 19 ≤ (Lib.decDigits a).length - 1 by omega)
      omega
    · exact g
theorem itoa_cases (c : Int) : Lib.itoa c = sgn (decide (c < 0)) ++ Lib.decDigits c.natAbs := by
  unfold Lib.itoa sgn
  by_cases h : c < 0
  · simp [h]
  · simp [h]; congr 1; omega
/-- a row of bytes in memory -/
def bc (c : UInt8) : Value := .int .u8 (c.toNat : Int)
def BAt (w : World) (g : Nat) (l : List UInt8) : Prop := w.heap[g]? = some (.cells (l.map bc).toArray 5 (0, 0))
theorem BAt.lt {w : World} {g : Nat} {l : List UInt8} (h : BAt w g l) : g < w.heap.size := (Array.getElem?_eq_some_iff.1 h).1
theorem BAt.cell {w : World} {g : Nat} {l : List UInt8} (h : BAt w g l) (j : Nat) : w.cell? ⟨g, j, none⟩ = (l[j]?).map bc := by
  rw [cell_of_row w _ _ _ _ (0, 0) h]; simp
theorem BAt.f {w : World} {g : Nat} {l : List UInt8} (h : BAt w g l) (i : Nat) : w.frozen? ⟨g, i, none⟩ = false := frozen_of_row w _ _ _ _ h
theorem BAt.set {w : World} {g : Nat} {l : List UInt8} (h : BAt w g l) (i : Nat) (c : UInt8) : BAt (w.setCell ⟨g, i, none⟩ (bc c)) g (l.set i c) := by
  unfold BAt
  rw [heap_setCell_same w g i _ _ _ h, List.setIfInBounds_toArray, List.map_set]
def setL : List UInt8 → Nat → List UInt8 → List UInt8
  | l, _, [] => l
  | l, o, c :: s => setL (l.set o c) (o + 1) s
theorem BAt.sets {g : Nat} : ∀ (s : List UInt8) (o : Nat) (l : List UInt8) (w : World), BAt w g l → BAt (w.setCells g o (s.map bc)) g (setL l o s)
  | [], _, _, _, h => h
  | c :: s, o, l, w, h => BAt.sets s (o + 1) (l.set o c) _ (h.set o c)
theorem setL_part : ∀ (s a x b : List UInt8), x.length = s.length → setL (a ++ (x ++ b)) a.length s = a ++ (s ++ b)
  | [], a, x, b, h => by rw [List.length_eq_zero_iff.1 h]; rfl
  | c :: s, a, y :: x, b, h => by
    show setL ((a ++ (y :: (x ++ b))).set a.length c) (a.length + 1) s = _
    have e : (a ++ (y :: (x ++ b))).set a.length c = (a ++ [c]) ++ (x ++ b) := by simp
    rw [e]
    have := setL_part s (a ++ [c]) x b (by simpa using h)
    rw [List.length_append, List.length_singleton] at this
    rw [this]; simp
theorem BAt.below_sets {w : World} {B g o : Nat} {a : World} (hg : B ≤ g) (s : List UInt8) (h : Below B a w) : Below B a (w.setCells g o (s.map bc)) := below_setCells hg _ _ _ h
theorem BAt.new (w : World) (l : List UInt8) : BAt (w.alloc (.cells (l.map bc).toArray 5)) w.heap.size l := by
  show (w.heap.push _)[w.heap.size]? = _
  rw [Array.getElem?_push_size]
theorem info_byte : (Tryd.prog.info? 5).map (fun i => (i.zero, i.size, i.bytes)) = some (some (.int .u8 0), 1, 1) := by kernel_rfl
/-- the world behind a new row of noughts -/
def madeW (w : World) (n : Nat) : World := w.alloc (.cells ((List.replicate n (0 : UInt8)).map bc).toArray 5)
theorem madeW_at (w : World) (n : Nat) : BAt (madeW w n) w.heap.size (List.replicate n 0) := BAt.new w _
theorem madeW_below (w : World) (n : Nat) : Below w.heap.size w (madeW w n) := ba w _
theorem make_bytes (n : Nat) (hn : n ≤ 1000) (w : World) : (Instr.makeSlice 72 (.int .i64 (n : Int)) (.int .i64 (n : Int))).run Tryd.prog w = .ok (.slice (some ⟨w.heap.size, 0, none⟩) n n) (madeW w n) := by
  unfold madeW
  obtain ⟨i, hi, h0, h1, h2⟩ := info_parts info_byte
  rw [run_makeSlice w 72 5 i (.int .u8 0) Tryd.underlying72 hi h0 .i64 .i64 (n : Int) (n : Int) (by omega) (by omega) (by rw [h1, Int.toNat_natCast]; omega) (by rw [h2]; omega) (by omega)]
  rw [h1, Int.toNat_natCast, Nat.mul_one]
  have e : madeCells (Value.int .u8 0).cells n = ((List.replicate n (0 : UInt8)).map bc).toArray := by
    apply Array.toList_inj.1
    show (madeCells #[Value.int .u8 0] n).toList = _
    rw [toList_madeCells_one, List.map_replicate]; rfl
  rw [e]
theorem back_bytes {w : World} {g : Nat} {l : List UInt8} (h : BAt w g l) (cap : Nat) : (convert 72 9 (.slice (some ⟨g, 0, none⟩) l.length cap)).run Tryd.prog w = .ok (.string (bs l)) w :=
  run_convert_bytes_back (P := Tryd.prog) w 72 9 5 ⟨g, 0, none⟩ cap l Tryd.underlying72 Tryd.underlying5 Tryd.underlying9 (fun j hj => by
    have hplain : (⟨g, 0, none⟩ : Addr).add j = ⟨g, j, none⟩ := by unfold Addr.add; split <;> simp_all
    rw [hplain, h.cell j, List.getElem?_eq_getElem hj]; rfl)
end Go.Proofs.YtfonpegkaajnkaaDoor.Tx
