/-
  value.Parse, walked: a range over a map, in whatever order.
-/
import Derived.Test.YtfonpegkaajnkaaDoorM39
/-
  value.Parse, walked: a range over a map, in whatever order.
-/
namespace Go.Proofs.YtfonpegkaajnkaaDoor.Va
open Go Go.RowKit Dt Tx
open Go.ChangeMaps (setBlock)
set_option linter.unusedSimpArgs false
set_option linter.unusedVariables false
attribute [local go_sem ↓] Go.wp_at_zero Go.wp_at_succ

theorem below_setBlock {B r : Nat} {w0 w : World} (h : Below B w0 w) (hr : B ≤ r) (o : Obj) : Below B w0 (setBlock w r o) := by
  refine ⟨h.1, h.2, h.3, by have := h.size; simpa [setBlock] using this, fun i hi => ?_⟩
  show (w.heap.setIfInBounds r o)[i]? = _
  rw [Array.getElem?_setIfInBounds_ne (by omega)]
  exact h.block i hi
/-- a range over the six words, under way -/
structure Rng (w : World) (b r : Nat) (es : Array MapEntry) (clk : Nat) (L : List UInt8) : Prop where
  mp : w.heap[b]? = some (.map es clk)
  it : ∃ seen, w.heap[r]? = some (.mapIter (some b) clk seen clk) ∧ ∀ x ∈ es.toList, seen.contains x.born = true → x.val ≠ .string (bs L)
def leftM (w : World) (b r : Nat) : Nat :=
  match w.heap[b]?, w.heap[r]? with
  | some (.map es _), some (.mapIter _ _ seen _) => (leftOf es seen).size
  | _, _ => 0
structure Six (es : Array MapEntry) (clk : Nat) : Prop where
  born : ∀ x ∈ es.toList, x.born < clk
  nd : (es.toList.map (·.born)).Nodup
  perm : (es.toList.map kv).Perm sixT
theorem bs_inj {a b : List UInt8} (h : bs a = bs b) : a = b := by
  have := congrArg (fun x : ByteArray => x.data.toList) h
  simpa [bs_list] using this
theorem Six.entry {es : Array MapEntry} {clk : Nat} (h : Six es clk) {e : MapEntry} (he : e ∈ es.toList) : ∃ v l, (v, l) ∈ six ∧ e.key = vv v ∧ e.val = .string (bs l) := by
  have m : kv e ∈ sixT := h.perm.mem_iff.1 (List.mem_map.2 ⟨e, he, rfl⟩)
  obtain ⟨⟨v, l⟩, hm, e1⟩ := List.mem_map.1 m
  exact ⟨v, l, hm, (congrArg Prod.fst e1).symm, (congrArg Prod.snd e1).symm⟩
theorem Rng.over {w : World} {b r : Nat} {es : Array MapEntry} {clk : Nat} {L : List UInt8} (h6 : Six es clk) (hall : ∀ x ∈ es.toList, x.val ≠ .string (bs L)) : lookW L six = none := by
  cases hl : lookW L six with
  | none => rfl
  | some v =>
    exfalso
    have m : (vv v, Value.string (bs L)) ∈ sixT := List.mem_map.2 ⟨(v, L), lookW_six hl, rfl⟩
    obtain ⟨e, he, e1⟩ := List.mem_map.1 (h6.perm.mem_iff.2 m)
    exact hall e he (congrArg Prod.snd e1)
/-- a step -/
theorem Rng.step {w : World} {b r : Nat} {es : Array MapEntry} {clk : Nat} {L : List UInt8} (h6 : Six es clk) (h : Rng w b r es clk L) (hbr : b < r) :
    ((∀ ty, (Instr.next (.pointer (some ⟨r, 0, none⟩)) false ty).run Tryd.prog w = .ok (.tuple #[.bool false]) w) ∧ lookW L six = none) ∨
    ∃ v l wn, (v, l) ∈ six ∧ (∀ ty, (Instr.next (.pointer (some ⟨r, 0, none⟩)) false ty).run Tryd.prog w = .ok (.tuple #[.bool true, vv v, .string (bs l)]) wn) ∧ (Instr.entry (.pointer (some ⟨r, 0, none⟩))).run Tryd.prog wn = .ok (.tuple #[vv v, .string (bs l)]) wn ∧
      (∀ B, B ≤ r → ∀ w0, Below B w0 w → Below B w0 wn) ∧ (l ≠ L → Rng wn b r es clk L) ∧ leftM wn b r < leftM w b r ∧ (∀ i, i ≠ r → wn.heap[i]? = w.heap[i]?) := by
  obtain ⟨seen, hr, hs⟩ := h.it
  have hb := h.mp
  rcases run_next_at (P := Tryd.prog) w 0 r b clk clk seen es clk hr hb h6.born (Nat.le_refl _) with ⟨h0, hrun⟩ | ⟨e, he, w1, hw1, hrun⟩
  · exact .inl ⟨fun _ => hrun, Rng.over (w := w) (b := b) (r := r) h6 fun x hx => hs x hx (all_seen es seen h0 x hx)⟩
  · obtain ⟨hem, hns⟩ := mem_left he
    obtain ⟨v, l, hm, hk, hv⟩ := h6.entry hem
    have hh : w1.heap = w.heap := by rcases hw1 with rfl | rfl <;> rfl
    have hlt : r < w.heap.size := (Array.getElem?_eq_some_iff.1 hr).1
    have hn : (setBlock w1 r (.mapIter (some b) clk (seen.push e.born) clk)).heap[r]? = some (.mapIter (some b) clk (seen.push e.born) clk) := by
      show (w1.heap.setIfInBounds r _)[r]? = _
      rw [hh]; simp [hlt]
    have ho : ∀ i, i ≠ r → (setBlock w1 r (.mapIter (some b) clk (seen.push e.born) clk)).heap[i]? = w.heap[i]? := fun i hi => by
      show (w1.heap.setIfInBounds r _)[i]? = _
      rw [hh, Array.getElem?_setIfInBounds_ne (by omega)]
    have hbn := (ho b (by omega)).trans hb
    refine .inr ⟨v, l, _, hm, fun _ => by rw [← hk, ← hv]; exact hrun, ?_, ?_, ?_, ?_, ho⟩
    · rw [← hk, ← hv]
      exact run_entry_at _ r b clk seen es clk e hn hbn hem h6.nd
    · intro B hB w0 hw
      refine below_setBlock ?_ hB _
      rcases hw1 with rfl | rfl
      · exact hw
      · exact hw.drew
    · intro hne
      refine ⟨hbn, _, hn, fun x hx hc hxv => ?_⟩
      rw [contains_push] at hc
      rcases Bool.or_eq_true_iff.1 hc with hc | hc
      · exact hs x hx hc hxv
      · have : x = e := born_inj h6.nd hx hem (by simpa using hc)
        subst this
        rw [hv] at hxv
        exact hne (bs_inj (Value.string.inj hxv))
    · unfold leftM
      rw [hbn, hn, hb, hr]
      exact left_shrinks es seen e he
theorem Rng.below {w w' : World} {b r : Nat} {es : Array MapEntry} {clk : Nat} {L : List UInt8} (h : Rng w b r es clk L) (k : Below w.heap.size w w') : Rng w' b r es clk L := by
  obtain ⟨seen, hr, hs⟩ := h.it
  exact ⟨(k.block b (Array.getElem?_eq_some_iff.1 h.mp).1).trans h.mp, seen, (k.block r (Array.getElem?_eq_some_iff.1 hr).1).trans hr, hs⟩
theorem Rng.lt {w : World} {b r : Nat} {es : Array MapEntry} {clk : Nat} {L : List UInt8} (h : Rng w b r es clk L) : r < w.heap.size := by
  obtain ⟨seen, hr, hs⟩ := h.it
  exact (Array.getElem?_eq_some_iff.1 hr).1
theorem leftM_below {w w' : World} {b r : Nat} {es : Array MapEntry} {clk : Nat} {L : List UInt8} (h : Rng w b r es clk L) (k : Below w.heap.size w w') : leftM w' b r = leftM w b r := by
  obtain ⟨seen, hr, hs⟩ := h.it
  unfold leftM
  rw [k.block b (Array.getElem?_eq_some_iff.1 h.mp).1, k.block r (Array.getElem?_eq_some_iff.1 hr).1]
theorem parseV_word {L : List UInt8} {v : V} (h : (v, L) ∈ six) : parseV L = (v, 0) := by
  unfold parseV; rw [(six_look h).2.1]
theorem parseV_num {L : List UInt8} (h : lookW L six = none) {a b : Int} (hd : dparse L = ((a, b), 0)) : parseV L = numS a b ∧ Fit a := by
  obtain ⟨D, rfl, hD, hf, hcan, ht⟩ := read_text hd
  have hb : isB (D : Int) = true := by unfold isB; simp; omega
  refine ⟨?_, hf⟩
  unfold parseV numS
  rw [h, hd, hb]
  simp only [if_true]
  unfold canC canS
  rw [Int.toNat_natCast, trim_self a D hcan]
theorem parseV_bad {L : List UInt8} (h : lookW L six = none) {a b e : Int} (hd : dparse L = ((a, b), e)) (he : ¬ e = 0) : parseV L = (⟨0, 0, 0, 0⟩, 4) := by
  unfold parseV
  rw [h, hd]
  simp only [he, if_false]
set_option maxRecDepth 100000 in
set_option maxHeartbeats 1000000 in
theorem parse_is {w : World} (L : List UInt8) (hl : L.length ≤ 1000) (he : Env w) : Calls Tryd.prog 9 #[.string (bs L)] w (VPost (parseV L) w) := by
  have HE := Lib.hid he
  have B0 := Lib.hid (ba w (.cells #[.int .u8 0, .int .i64 0, .int .i64 0, .int .i64 0] 27))
  have X0 := Lib.hid (Four.new w ⟨0, 0, 0, 0⟩)
  have W := fun w => words_is (w := w)
  clear he
  go_enter Tryd.func9, Tryd.ntmps9
  go_upto_region 1 with fail
  obtain ⟨wa, hwa⟩ : ∃ v, Hid (v = w.alloc (.cells #[.int .u8 0, .int .i64 0, .int .i64 0, .int .i64 0] 27)) := ⟨_, rfl⟩
  obtain ⟨i0, hi0⟩ : ∃ v, Hid (w.heap.size = v) := ⟨_, rfl⟩
  rw [← hwa.out] at B0 X0 ⊢
  rw [hi0.out] at X0 ⊢
  have HI := Lib.hid (show w.heap.size ≤ i0 from Nat.le_of_eq hi0.out)
  clear hwa hi0
  unfold WordsPost at W
  go_wp2_with (go_at_call 28; (with_reducible refine (W _).mono ?_); rintro e1 w1 ⟨b, rfl, hbb, hm, q1⟩; obtain ⟨es, clk, hb, z1, z2, z3⟩ := hm.ex; have hrg := run_range_map (P := Tryd.prog) w1 51 _ _ b es clk Tryd.underlying51 hb; have S6 := Lib.hid (Six.mk z1 z2 z3); have B1 := Lib.hid (bt B0.out q1); have X1 := Lib.hid (X0.out.below q1); have HB := Lib.hid hb; clear z1 z2 z3 hm hb q1 W hbb)
  obtain ⟨r, hr⟩ : ∃ v, Hid (w1.heap.size = v) := ⟨_, rfl⟩
  have HBR := Lib.hid (show b < r from by rw [← hr.out]; exact (Array.getElem?_eq_some_iff.1 HB.out).1)
  have HIR := Lib.hid (show i0 < r from by rw [← hr.out]; exact X1.out.lt)
  have B2 := Lib.hid (bt B1.out (ba w1 (.mapIter (some b) clk #[] clk)))
  have X2 := Lib.hid (X1.out.below (ba w1 (.mapIter (some b) clk #[] clk)))
  have R2 : Hid (Rng (w1.alloc (.mapIter (some b) clk #[] clk)) b r es clk L) := Lib.hid ⟨((ba w1 _).block b (Array.getElem?_eq_some_iff.1 HB.out).1).trans HB.out, #[], by rw [← hr.out]; exact heap_alloc_new w1 _, fun x _ hc => by simp at hc⟩
  rw [hr.out]
  obtain ⟨w2, hw2⟩ : ∃ v, Hid (v = w1.alloc (.mapIter (some b) clk #[] clk)) := ⟨_, rfl⟩
  rw [← hw2.out] at B2 X2 R2 ⊢
  clear hrg hw2 hr B1 X1 B0 X0 HB
  go_loopw [5] (fun _ wr => Hid (Below w.heap.size w wr) ∧ Hid (Four wr i0 ⟨0, 0, 0, 0⟩) ∧ Hid (Rng wr b r es clk L)) (fun _ wr => leftM wr b r)
  case atStart => exact ⟨B2, X2, R2⟩
  case round =>
    obtain ⟨wo, rfl⟩ : ∃ wo : World, wo = wr := ⟨_, rfl⟩
    obtain ⟨B3, X3, R3⟩ := hrel
    clear B2 X2 R2
    rcases R3.out.step S6.out HBR.out with ⟨hnx, hnone⟩ | ⟨v, l, wn, hm, hnx, hen, hbel, hkeep, hless, hoth⟩
    · have HN := Lib.hid hnone
      clear hnone
      obtain ⟨a, b', e, hd⟩ : ∃ a b e, dparse L = ((a, b), e) := ⟨_, _, _, rfl⟩
      have P := dparse_at hd hl wo (HE.out.below B3.out)
      have K := fun (k : e = 0) => parseV_num HN.out (k ▸ hd)
      have K' := fun (k : ¬ e = 0) => parseV_bad HN.out hd k
      obtain ⟨S, hS⟩ : ∃ s, Hid (bs L = s) := ⟨_, rfl⟩
      rw [hS.out] at P ⊢
      have f0 := X3.out.f 0
      clear hd hl R3 S6
      by_cases he0 : e = 0
      · subst he0
        obtain ⟨hE, hf⟩ := K rfl
        have N := fun w => num_is (w := w) a b' hf
        obtain ⟨⟨u, ue⟩, hU⟩ : ∃ r, Hid (numS a b' = r) := ⟨_, rfl⟩
        have HE2 := Lib.hid (hE.trans hU.out)
        rw [hU.out] at N
        clear K K' hf hU f0 hE
        unfold VPost at N
        simp only at N
        go_upto_region 7 with (go_at_call 29; (with_reducible refine P.mono ?_); rintro e7 w7 ⟨rfl, q7⟩; have B7 := Lib.hid (bt B3.out (bt q7 (ba w7 (.cells #[.int .i64 a, .int .i64 b'] 24)))); have X7 := Lib.hid ((X3.out.below q7).below (ba w7 (.cells #[.int .i64 a, .int .i64 b'] 24))); have T7 := Lib.hid (Two.new w7 a b'); clear q7 P)
        obtain ⟨wa7, hwa7⟩ : ∃ v, Hid (v = w7.alloc (.cells #[.int .i64 a, .int .i64 b'] 24)) := ⟨_, rfl⟩
        obtain ⟨i7, hi7⟩ : ∃ v, Hid (w7.heap.size = v) := ⟨_, rfl⟩
        rw [← hwa7.out] at B7 X7 T7 ⊢
        rw [hi7.out] at T7 ⊢
        clear hwa7 hi7
        have c0 := T7.out.c0; have c1 := T7.out.c1
        go_wp2_with (go_at_call 15; (with_reducible refine (N _).mono ?_); rintro e8 w8 ⟨rfl, q8⟩; have B8 := Lib.hid (bt B7.out q8); have X8 := Lib.hid (X7.out.below q8); have f0 := X8.out.f 0; have f1 := X8.out.f 1; have f2 := X8.out.f 2; have f3 := X8.out.f 3; have g0 := X8.out.c0; have g1 := X8.out.c1; have g2 := X8.out.c2; have g3 := X8.out.c3; clear q8 N c0 c1)
        refine bodyPost_ret (v := .tuple #[.agg #[.int .u8 _, .int .i64 _, .int .i64 _, .int .i64 _], .int .i64 _]) (results_cellV (fn := Tryd.f9) (p := 2) (u := 3) rfl _ _ i0 _ rfl (X8.out.set _ _ _ _)) rfl ?_
        exact ⟨by rw [HE2.out], below_set4 B8.out HI.out _ _ _ _⟩
      · have HE2 := Lib.hid (K' he0)
        have e1 : decide (e = 0) = false := by simpa using he0
        have e2 : (e == 0) = false := by simpa using he0
        have e3 : (e != 0) = true := by simpa using he0
        clear K K' f0 he0
        go_upto_region 7 with (go_at_call 29; (with_reducible refine P.mono ?_); rintro e7 w7 ⟨rfl, q7⟩; have B7 := Lib.hid (bt B3.out (bt q7 (ba w7 (.cells #[.int .i64 a, .int .i64 b'] 24)))); have X7 := Lib.hid ((X3.out.below q7).below (ba w7 (.cells #[.int .i64 a, .int .i64 b'] 24))); clear q7 P)
        obtain ⟨wa7, hwa7⟩ : ∃ v, Hid (v = w7.alloc (.cells #[.int .i64 a, .int .i64 b'] 24)) := ⟨_, rfl⟩
        rw [← hwa7.out] at B7 X7 ⊢
        clear hwa7
        have f0 := X7.out.f 0; have f1 := X7.out.f 1; have f2 := X7.out.f 2; have f3 := X7.out.f 3; have g0 := X7.out.c0; have g1 := X7.out.c1; have g2 := X7.out.c2; have g3 := X7.out.c3
        go_wp2_with fail
        refine bodyPost_ret (v := .tuple #[.agg #[.int .u8 _, .int .i64 _, .int .i64 _, .int .i64 _], .int .i64 _]) (results_cellV (fn := Tryd.f9) (p := 2) (u := 3) rfl _ _ i0 _ rfl (X7.out.set _ _ _ _)) rfl ?_
        exact ⟨by rw [HE2.out], below_set4 B7.out HI.out _ _ _ _⟩
    · have HL := Lib.hid hless
      have B4 := Lib.hid (hbel _ (Nat.le_trans HI.out (Nat.le_of_lt HIR.out)) _ B3.out)
      have X4 : Hid (Four wn i0 ⟨0, 0, 0, 0⟩) := Lib.hid ((hoth i0 (Nat.ne_of_lt HIR.out)).trans X3.out)
      have HK := Lib.hid hkeep
      have B5 := Lib.hid (bt B4.out (ba wn (.cells #[.int .u8 v.k, .int .i64 v.c, .int .i64 v.s, .int .i64 v.e] 27)))
      have X5 := Lib.hid (X4.out.below (ba wn (.cells #[.int .u8 v.k, .int .i64 v.c, .int .i64 v.s, .int .i64 v.e] 27)))
      have V5 := Lib.hid (Four.new wn v)
      have HA := Lib.hid (ba wn (.cells #[.int .u8 v.k, .int .i64 v.c, .int .i64 v.s, .int .i64 v.e] 27))
      unfold vv at hnx hen
      clear hless hbel hkeep hoth hl
      by_cases hL : l = L
      · subst hL
        rw [parseV_word hm]
        obtain ⟨S, hS⟩ : ∃ s, Hid (bs l = s) := ⟨_, rfl⟩
        rw [hS.out] at hnx hen ⊢
        have es1 := self_toList S
        obtain ⟨k, c, s, e⟩ := v
        simp only at hnx hen B5 X5 V5 HA ⊢
        clear hm HK HL hS B3 X3 R3 B4 X4 HA S6
        go_upto_region 4 with fail
        obtain ⟨w5, hw5⟩ : ∃ v, Hid (v = wn.alloc (.cells #[.int .u8 k, .int .i64 c, .int .i64 s, .int .i64 e] 27)) := ⟨_, rfl⟩
        obtain ⟨i5, hi5⟩ : ∃ v, Hid (wn.heap.size = v) := ⟨_, rfl⟩
        rw [← hw5.out] at B5 X5 V5 ⊢
        rw [hi5.out] at V5 ⊢
        clear hw5 hi5 hen hnx
        have f0 := X5.out.f 0; have f1 := X5.out.f 1; have f2 := X5.out.f 2; have f3 := X5.out.f 3; have g0 := X5.out.c0; have g1 := X5.out.c1; have g2 := X5.out.c2; have g3 := X5.out.c3
        have c0 := V5.out.c0; have c1 := V5.out.c1; have c2 := V5.out.c2; have c3 := V5.out.c3
        simp only at c0 c1 c2 c3
        go_wp2_with fail
        refine bodyPost_ret (v := .tuple #[.agg #[.int .u8 _, .int .i64 _, .int .i64 _, .int .i64 _], .int .i64 _]) (results_cellV (fn := Tryd.f9) (p := 2) (u := 3) rfl _ _ i0 _ rfl (X5.out.set _ _ _ _)) rfl ?_
        exact ⟨rfl, below_set4 B5.out HI.out _ _ _ _⟩
      · have R5 := Lib.hid ((HK.out hL).below HA.out)
        have HL5 := Lib.hid (show leftM (wn.alloc (.cells #[.int .u8 v.k, .int .i64 v.c, .int .i64 v.s, .int .i64 v.e] 27)) b r < leftM wo b r by rw [leftM_below (HK.out hL) HA.out]; exact HL.out)
        have es1 : ((bs l).toList == (bs L).toList) = false := by rw [bs_toList, bs_toList]; simpa using hL
        obtain ⟨S, hS⟩ : ∃ s, Hid (bs L = s) := ⟨_, rfl⟩
        obtain ⟨T, hT⟩ : ∃ s, Hid (bs l = s) := ⟨_, rfl⟩
        rw [hT.out] at hnx hen es1
        rw [hS.out] at es1 ⊢
        obtain ⟨k, c, s, e⟩ := v
        simp only at hnx hen B5 X5 V5 R5 HL5 ⊢
        clear hm HK HL hS hT B3 X3 R3 B4 X4 HA S6 hL
        go_upto_region 4 with fail
        obtain ⟨w5, hw5⟩ : ∃ v, Hid (v = wn.alloc (.cells #[.int .u8 k, .int .i64 c, .int .i64 s, .int .i64 e] 27)) := ⟨_, rfl⟩
        rw [← hw5.out] at B5 X5 V5 R5 HL5 ⊢
        clear hw5 hen hnx
        go_wp2_with fail
        exact ⟨⟨B5, X5, R5⟩, HL5.out⟩
end Go.Proofs.YtfonpegkaajnkaaDoor.Va
