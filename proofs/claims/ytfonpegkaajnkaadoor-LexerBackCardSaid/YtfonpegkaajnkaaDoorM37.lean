/-
  lexer: word, walked.
-/
import Derived.Test.YtfonpegkaajnkaaDoorM8
import Derived.Test.YtfonpegkaajnkaaDoorM36
/-
  lexer: word, walked.
-/
namespace Go.Proofs.YtfonpegkaajnkaaDoor.Lx
open Go Go.RowKit Dt Tx
set_option linter.unusedSimpArgs false
set_option linter.unusedVariables false
attribute [local go_sem ↓] Go.wp_at_zero Go.wp_at_succ

/-- a word in memory -/
def Five (w : World) (b : Nat) (k : Int) (t : ByteArray) (c s p : Int) : Prop := w.heap[b]? = some (.cells #[.int .u8 k, .string t, .int .i64 c, .int .i64 s, .int .i64 p] 48 (0, 0))
section
variable {w : World} {b : Nat} {k c s p : Int} {t : ByteArray}
theorem Five.lt (h : Five w b k t c s p) : b < w.heap.size := (Array.getElem?_eq_some_iff.1 h).1
theorem Five.c0 (h : Five w b k t c s p) : w.cell? ⟨b, 0, none⟩ = some (.int .u8 k) := by rw [cell_of_row w _ _ _ _ (0, 0) h]; rfl
theorem Five.c1 (h : Five w b k t c s p) : w.cell? ⟨b, 1, none⟩ = some (.string t) := by rw [cell_of_row w _ _ _ _ (0, 0) h]; rfl
theorem Five.c2 (h : Five w b k t c s p) : w.cell? ⟨b, 2, none⟩ = some (.int .i64 c) := by rw [cell_of_row w _ _ _ _ (0, 0) h]; rfl
theorem Five.c3 (h : Five w b k t c s p) : w.cell? ⟨b, 3, none⟩ = some (.int .i64 s) := by rw [cell_of_row w _ _ _ _ (0, 0) h]; rfl
theorem Five.c4 (h : Five w b k t c s p) : w.cell? ⟨b, 4, none⟩ = some (.int .i64 p) := by rw [cell_of_row w _ _ _ _ (0, 0) h]; rfl
theorem Five.f (h : Five w b k t c s p) (i : Nat) : w.frozen? ⟨b, i, none⟩ = false := frozen_of_row w _ _ _ _ h
theorem Five.below {w' : World} (h : Five w b k t c s p) (q : Below w.heap.size w w') : Five w' b k t c s p := (q.block b h.lt).trans h
theorem Five.new (w : World) (k : Int) (t : ByteArray) (c s p : Int) : Five (w.alloc (.cells #[.int .u8 k, .string t, .int .i64 c, .int .i64 s, .int .i64 p] 48)) w.heap.size k t c s p := by
  show (w.heap.push _)[w.heap.size]? = _
  rw [Array.getElem?_push_size]
theorem Five.s0 (h : Five w b k t c s p) (x : Int) : Five (w.setCell ⟨b, 0, none⟩ (.int .u8 x)) b x t c s p := by show _ = _; rw [heap_setCell_same w b 0 _ _ _ h]; rfl
theorem Five.s1 (h : Five w b k t c s p) (x : ByteArray) : Five (w.setCell ⟨b, 1, none⟩ (.string x)) b k x c s p := by show _ = _; rw [heap_setCell_same w b 1 _ _ _ h]; rfl
theorem Five.s2 (h : Five w b k t c s p) (x : Int) : Five (w.setCell ⟨b, 2, none⟩ (.int .i64 x)) b k t x s p := by show _ = _; rw [heap_setCell_same w b 2 _ _ _ h]; rfl
theorem Five.s3 (h : Five w b k t c s p) (x : Int) : Five (w.setCell ⟨b, 3, none⟩ (.int .i64 x)) b k t c x p := by show _ = _; rw [heap_setCell_same w b 3 _ _ _ h]; rfl
theorem Five.s4 (h : Five w b k t c s p) (x : Int) : Five (w.setCell ⟨b, 4, none⟩ (.int .i64 x)) b k t c s x := by show _ = _; rw [heap_setCell_same w b 4 _ _ _ h]; rfl
theorem Five.set (h : Five w b k t c s p) (k' : Int) (t' : ByteArray) (c' s' p' : Int) : Five (((((w.setCell ⟨b, 0, none⟩ (.int .u8 k')).setCell ⟨b, 1, none⟩ (.string t')).setCell ⟨b, 2, none⟩ (.int .i64 c')).setCell ⟨b, 3, none⟩ (.int .i64 s')).setCell ⟨b, 4, none⟩ (.int .i64 p')) b k' t' c' s' p' :=
  ((((h.s0 k').s1 t').s2 c').s3 s').s4 p'
theorem below_set5 {B g : Nat} {a w : World} (h : Below B a w) (hg : B ≤ g) (x0 x1 x2 x3 x4 : Value) : Below B a (((((w.setCell ⟨g, 0, none⟩ x0).setCell ⟨g, 1, none⟩ x1).setCell ⟨g, 2, none⟩ x2).setCell ⟨g, 3, none⟩ x3).setCell ⟨g, 4, none⟩ x4) :=
  Below.setCell (Below.setCell (Below.setCell (Below.setCell (Below.setCell h (p := ⟨g, 0, none⟩) hg _) (p := ⟨g, 1, none⟩) hg _) (p := ⟨g, 2, none⟩) hg _) (p := ⟨g, 3, none⟩) hg _) (p := ⟨g, 4, none⟩) hg _
end
theorem results_cell5 {fn : Func} {p u : Tmp} (h : fn.results = #[.cell p 48, .tmp u]) (tmps : Array Value) (w : World) (g : Nat) (k : Int) (t : ByteArray) (c s q : Int) (hp : tmps.getD p undef = .pointer (some ⟨g, 0, none⟩)) (hg : Five w g k t c s q) :
    (results fn tmps).run Tryd.prog w = .ok (.tuple #[.agg #[.int .u8 k, .string t, .int .i64 c, .int .i64 s, .int .i64 q], tmps.getD u undef]) w :=
  results_cell2 h tmps w g _ _ (0, 0) _ hp hg Tryd.underlying48 rfl (by kernel_rfl)
def WdPost (r : Tok × Int) (w : World) (e : Ending) (w' : World) : Prop := e = .returned (.tuple #[.agg #[.int .u8 r.1.k, .string (bs r.1.t), .int .i64 r.1.c, .int .i64 r.1.s, .int .i64 r.1.p], .int .i64 r.2]) ∧ Below w.heap.size w w'
theorem word_lo {l : List UInt8} {p : Int} (h : (l[0]?).any isLo = true) : wordP l p = (⟨1, l.take (wh isAl l), 0, 0, p⟩, if 12 < wh isAl l then 4 else 0) := by unfold wordP; rw [if_pos h]
theorem word_dg {l : List UInt8} {p : Int} (h : (l[0]?).any isLo = false) (h2 : (l[0]?).any isDg = true) : wordP l p = (⟨2, l.take (numL l), (dparse (l.take (numL l))).1.1, (dparse (l.take (numL l))).1.2, p⟩, if (dparse (l.take (numL l))).2 = 3 then 4 else (dparse (l.take (numL l))).2) := by
  unfold wordP; rw [h, h2]; rfl
theorem word_sg {l : List UInt8} {p : Int} (h : (l[0]?).any isLo = false) (h2 : (l[0]?).any isDg = false) (h3 : 0 < sgnL l) : wordP l p = (⟨3, l.take (sgnL l), 0, 0, p⟩, 0) := by
  unfold wordP; rw [h, h2]; simp [h3]
theorem word_no {l : List UInt8} {p : Int} (h : (l[0]?).any isLo = false) (h2 : (l[0]?).any isDg = false) (h3 : ¬ 0 < sgnL l) : wordP l p = (⟨0, [], 0, 0, p⟩, 4) := by
  unfold wordP; rw [h, h2]; simp [h3]
set_option maxRecDepth 100000 in
set_option maxHeartbeats 1000000 in
theorem word_lo_t {w : World} (l : List UInt8) (hl : l.length ≤ 1000) (x : UInt8) (hx : l[0]? = some x) (he : Env w) (h : isLo x = true) (hb : decide (12 < wh isAl l) = true) : Calls Tryd.prog 37 #[.string (bs l)] w (WdPost (wordP l 0) w) := by
  have HE := Lib.hid he
  have SG := fun w => sign_is (w := w) l x hx
  have kc : ∀ w, (Instr.index 9 (.string (bs l)) (.int .i64 0)).run Tryd.prog w = .ok (.int .u8 (x.toNat : Int)) w := at_byte l 0 x hx
  have LT := fun w => letter_is x w
  have DG := fun w => digit_is x w
  have X0 := Lib.hid (Five.new w 0 ⟨#[]⟩ 0 0 0)
  have B0 := Lib.hid (ba w (.cells #[.int .u8 0, .string ⟨#[]⟩, .int .i64 0, .int .i64 0, .int .i64 0] 48))
  have hz : (bs l).size = l.length := bs_size l
  have hlz : 0 < l.length := (List.getElem?_eq_some_iff.1 hx).1
  obtain ⟨wa, hwa⟩ : ∃ v, Hid (v = w.alloc (.cells #[.int .u8 0, .string ⟨#[]⟩, .int .i64 0, .int .i64 0, .int .i64 0] 48)) := ⟨_, rfl⟩
  obtain ⟨ia, hia⟩ : ∃ v, Hid (w.heap.size = v) := ⟨_, rfl⟩
  rw [← hwa.out] at B0 X0
  rw [hia.out] at X0
  have HI := Lib.hid (show w.heap.size ≤ ia from Nat.le_of_eq hia.out)
  have E : wordP l 0 = (⟨1, l.take (wh isAl l), 0, 0, 0⟩, 4) := by
    rw [word_lo (by rw [hx]; exact h)]
    have := of_decide_eq_true hb
    simp [this]
  have NM := fun w => named_is (w := w) l
  have hw := wh_le isAl l
  have SL := slice_to l (wh isAl l) hw
  have hzt : (bs (l.take (wh isAl l))).size = wh isAl l := by rw [bs_size, List.length_take, Nat.min_eq_left hw]
  rw [E]
  rw [h] at LT
  have hb2 : decide ((12 : Int) < (wh isAl l : Int)) = true := by rw [← hb, decide_eq_decide]; omega
  obtain ⟨T, hT⟩ : ∃ t, Hid (bs (l.take (wh isAl l)) = t) := ⟨_, rfl⟩
  rw [hT.out] at SL hzt
  obtain ⟨n, hn⟩ : ∃ t, Hid (wh isAl l = t) := ⟨_, rfl⟩
  rw [hn.out] at SL hzt hb hb2 NM hw
  obtain ⟨y, hy⟩ : ∃ y, Hid (x.toNat = y) := ⟨_, rfl⟩
  rw [hy.out] at LT DG kc
  obtain ⟨S, hS⟩ : ∃ S, Hid (bs l = S) := ⟨_, rfl⟩
  rw [hS.out] at SG kc NM SL hz ⊢
  rw [hn.out] at hT
  unfold WdPost
  simp only
  rw [hn.out, hT.out]
  clear hl hx he h hy hS hn hT E hw DG hlz
  have f0 := X0.out.f 0; have f1 := X0.out.f 1; have f2 := X0.out.f 2; have f3 := X0.out.f 3; have f4 := X0.out.f 4
  have g0 := X0.out.c0; have g1 := X0.out.c1; have g2 := X0.out.c2; have g3 := X0.out.c3; have g4 := X0.out.c4
  go_enter Tryd.func37, Tryd.ntmps37
  go_upto_region 1 with fail
  rw [← hwa.out, hia.out]
  clear hwa hia
  go_upto_region 5 with (first | (go_at_call 74; (with_reducible refine (SG _).mono ?_); rintro e1 w1 ⟨rfl, hq⟩; obtain rfl := hq.symm; clear SG) | (go_at_call 41; (with_reducible refine (LT _).mono ?_); rintro e2 w2 ⟨rfl, hq⟩; obtain rfl := hq.symm; clear LT) | (go_at_call 42; (with_reducible refine (NM _).mono ?_); rintro e4 w4 ⟨rfl, q4⟩; have X1 := Lib.hid (X0.out.below q4); have B1 := Lib.hid (bt B0.out q4); have h0 := X1.out.c0; have h1 := X1.out.c1; have h2 := X1.out.c2; have h3 := X1.out.c3; have h4 := X1.out.c4; have k0 := X1.out.f 0; have k1 := X1.out.f 1; have k2 := X1.out.f 2; have k3 := X1.out.f 3; have k4 := X1.out.f 4; clear q4 NM))
  clear h0 h1 h2 h3 h4 k0 k1 k2 k3 k4
  have X2 := Lib.hid (X1.out.set 1 T 0 0 0)
  have B2 := Lib.hid (below_set5 B1.out HI.out (.int .u8 1) (.string T) (.int .i64 0) (.int .i64 0) (.int .i64 0))
  obtain ⟨wb, hwb⟩ : ∃ v, Hid (v = (((((w4.setCell ⟨ia, 0, none⟩ (.int .u8 1)).setCell ⟨ia, 1, none⟩ (.string T)).setCell ⟨ia, 2, none⟩ (.int .i64 0)).setCell ⟨ia, 3, none⟩ (.int .i64 0)).setCell ⟨ia, 4, none⟩ (.int .i64 0))) := ⟨_, rfl⟩
  rw [← hwb.out] at X2 B2 ⊢
  clear hwb X1 B1
  clear f0 f1 f2 f3 f4 g0 g1 g2 g3 g4
  have f0 := X2.out.f 0; have f1 := X2.out.f 1; have f2 := X2.out.f 2; have f3 := X2.out.f 3; have f4 := X2.out.f 4
  have g0 := X2.out.c0; have g1 := X2.out.c1; have g2 := X2.out.c2; have g3 := X2.out.c3; have g4 := X2.out.c4
  go_wp2_with fail
  refine bodyPost_ret (v := .tuple #[.agg #[.int .u8 _, .string _, .int .i64 _, .int .i64 _, .int .i64 _], .int .i64 _]) (results_cell5 (fn := Tryd.f37) (p := 2) (u := 3) rfl _ _ ia _ _ _ _ _ rfl (X2.out.set _ _ _ _ _)) rfl ?_
  exact ⟨rfl, below_set5 B2.out HI.out _ _ _ _ _⟩
set_option maxRecDepth 100000 in
set_option maxHeartbeats 1000000 in
theorem word_lo_f {w : World} (l : List UInt8) (hl : l.length ≤ 1000) (x : UInt8) (hx : l[0]? = some x) (he : Env w) (h : isLo x = true) (hb : decide (12 < wh isAl l) = false) : Calls Tryd.prog 37 #[.string (bs l)] w (WdPost (wordP l 0) w) := by
  have HE := Lib.hid he
  have SG := fun w => sign_is (w := w) l x hx
  have kc : ∀ w, (Instr.index 9 (.string (bs l)) (.int .i64 0)).run Tryd.prog w = .ok (.int .u8 (x.toNat : Int)) w := at_byte l 0 x hx
  have LT := fun w => letter_is x w
  have DG := fun w => digit_is x w
  have X0 := Lib.hid (Five.new w 0 ⟨#[]⟩ 0 0 0)
  have B0 := Lib.hid (ba w (.cells #[.int .u8 0, .string ⟨#[]⟩, .int .i64 0, .int .i64 0, .int .i64 0] 48))
  have hz : (bs l).size = l.length := bs_size l
  have hlz : 0 < l.length := (List.getElem?_eq_some_iff.1 hx).1
  obtain ⟨wa, hwa⟩ : ∃ v, Hid (v = w.alloc (.cells #[.int .u8 0, .string ⟨#[]⟩, .int .i64 0, .int .i64 0, .int .i64 0] 48)) := ⟨_, rfl⟩
  obtain ⟨ia, hia⟩ : ∃ v, Hid (w.heap.size = v) := ⟨_, rfl⟩
  rw [← hwa.out] at B0 X0
  rw [hia.out] at X0
  have HI := Lib.hid (show w.heap.size ≤ ia from Nat.le_of_eq hia.out)
  have E : wordP l 0 = (⟨1, l.take (wh isAl l), 0, 0, 0⟩, 0) := by
    rw [word_lo (by rw [hx]; exact h)]
    have := of_decide_eq_false hb
    simp [this]
  have NM := fun w => named_is (w := w) l
  have hw := wh_le isAl l
  have SL := slice_to l (wh isAl l) hw
  have hzt : (bs (l.take (wh isAl l))).size = wh isAl l := by rw [bs_size, List.length_take, Nat.min_eq_left hw]
  rw [E]
  rw [h] at LT
  have hb2 : decide ((12 : Int) < (wh isAl l : Int)) = false := by rw [← hb, decide_eq_decide]; omega
  obtain ⟨T, hT⟩ : ∃ t, Hid (bs (l.take (wh isAl l)) = t) := ⟨_, rfl⟩
  rw [hT.out] at SL hzt
  obtain ⟨n, hn⟩ : ∃ t, Hid (wh isAl l = t) := ⟨_, rfl⟩
  rw [hn.out] at SL hzt hb hb2 NM hw
  obtain ⟨y, hy⟩ : ∃ y, Hid (x.toNat = y) := ⟨_, rfl⟩
  rw [hy.out] at LT DG kc
  obtain ⟨S, hS⟩ : ∃ S, Hid (bs l = S) := ⟨_, rfl⟩
  rw [hS.out] at SG kc NM SL hz ⊢
  rw [hn.out] at hT
  unfold WdPost
  simp only
  rw [hn.out, hT.out]
  clear hl hx he h hy hS hn hT E hw DG hlz
  have f0 := X0.out.f 0; have f1 := X0.out.f 1; have f2 := X0.out.f 2; have f3 := X0.out.f 3; have f4 := X0.out.f 4
  have g0 := X0.out.c0; have g1 := X0.out.c1; have g2 := X0.out.c2; have g3 := X0.out.c3; have g4 := X0.out.c4
  go_enter Tryd.func37, Tryd.ntmps37
  go_upto_region 1 with fail
  rw [← hwa.out, hia.out]
  clear hwa hia
  go_upto_region 5 with (first | (go_at_call 74; (with_reducible refine (SG _).mono ?_); rintro e1 w1 ⟨rfl, hq⟩; obtain rfl := hq.symm; clear SG) | (go_at_call 41; (with_reducible refine (LT _).mono ?_); rintro e2 w2 ⟨rfl, hq⟩; obtain rfl := hq.symm; clear LT) | (go_at_call 42; (with_reducible refine (NM _).mono ?_); rintro e4 w4 ⟨rfl, q4⟩; have X1 := Lib.hid (X0.out.below q4); have B1 := Lib.hid (bt B0.out q4); have h0 := X1.out.c0; have h1 := X1.out.c1; have h2 := X1.out.c2; have h3 := X1.out.c3; have h4 := X1.out.c4; have k0 := X1.out.f 0; have k1 := X1.out.f 1; have k2 := X1.out.f 2; have k3 := X1.out.f 3; have k4 := X1.out.f 4; clear q4 NM))
  clear h0 h1 h2 h3 h4 k0 k1 k2 k3 k4
  have X2 := Lib.hid (X1.out.set 1 T 0 0 0)
  have B2 := Lib.hid (below_set5 B1.out HI.out (.int .u8 1) (.string T) (.int .i64 0) (.int .i64 0) (.int .i64 0))
  obtain ⟨wb, hwb⟩ : ∃ v, Hid (v = (((((w4.setCell ⟨ia, 0, none⟩ (.int .u8 1)).setCell ⟨ia, 1, none⟩ (.string T)).setCell ⟨ia, 2, none⟩ (.int .i64 0)).setCell ⟨ia, 3, none⟩ (.int .i64 0)).setCell ⟨ia, 4, none⟩ (.int .i64 0))) := ⟨_, rfl⟩
  rw [← hwb.out] at X2 B2 ⊢
  clear hwb X1 B1
  clear f0 f1 f2 f3 f4 g0 g1 g2 g3 g4
  have f0 := X2.out.f 0; have f1 := X2.out.f 1; have f2 := X2.out.f 2; have f3 := X2.out.f 3; have f4 := X2.out.f 4
  have g0 := X2.out.c0; have g1 := X2.out.c1; have g2 := X2.out.c2; have g3 := X2.out.c3; have g4 := X2.out.c4
  go_wp2_with fail
  refine bodyPost_ret (v := .tuple #[.agg #[.int .u8 _, .string _, .int .i64 _, .int .i64 _, .int .i64 _], .int .i64 _]) (results_cell5 (fn := Tryd.f37) (p := 2) (u := 3) rfl _ _ ia _ _ _ _ _ rfl (X2.out.set _ _ _ _ _)) rfl ?_
  exact ⟨rfl, below_set5 B2.out HI.out _ _ _ _ _⟩
set_option maxRecDepth 100000 in
set_option maxHeartbeats 1000000 in
theorem word_dg_t {w : World} (l : List UInt8) (hl : l.length ≤ 1000) (x : UInt8) (hx : l[0]? = some x) (he : Env w) (h : isLo x = false) (hd : isDg x = true) (hb : (dparse (l.take (numL l))).2 = 3) : Calls Tryd.prog 37 #[.string (bs l)] w (WdPost (wordP l 0) w) := by
  have HE := Lib.hid he
  have SG := fun w => sign_is (w := w) l x hx
  have kc : ∀ w, (Instr.index 9 (.string (bs l)) (.int .i64 0)).run Tryd.prog w = .ok (.int .u8 (x.toNat : Int)) w := at_byte l 0 x hx
  have LT := fun w => letter_is x w
  have DG := fun w => digit_is x w
  have X0 := Lib.hid (Five.new w 0 ⟨#[]⟩ 0 0 0)
  have B0 := Lib.hid (ba w (.cells #[.int .u8 0, .string ⟨#[]⟩, .int .i64 0, .int .i64 0, .int .i64 0] 48))
  have hz : (bs l).size = l.length := bs_size l
  have hlz : 0 < l.length := (List.getElem?_eq_some_iff.1 hx).1
  obtain ⟨wa, hwa⟩ : ∃ v, Hid (v = w.alloc (.cells #[.int .u8 0, .string ⟨#[]⟩, .int .i64 0, .int .i64 0, .int .i64 0] 48)) := ⟨_, rfl⟩
  obtain ⟨ia, hia⟩ : ∃ v, Hid (w.heap.size = v) := ⟨_, rfl⟩
  rw [← hwa.out] at B0 X0
  rw [hia.out] at X0
  have HI := Lib.hid (show w.heap.size ≤ ia from Nat.le_of_eq hia.out)
  have E : wordP l 0 = (⟨2, l.take (numL l), (dparse (l.take (numL l))).1.1, (dparse (l.take (numL l))).1.2, 0⟩, 4) := by
    rw [word_dg (by rw [hx]; exact h) (by rw [hx]; exact hd)]
    simp [hb]
  have NM := fun w => number_is (w := w) l hl
  have hw := numL_le l
  have SL := slice_to l (numL l) hw
  have PA := fun (a d e : Int) (h : dparse (l.take (numL l)) = ((a, d), e)) w k => dparse_at h (by rw [List.length_take]; omega) w k
  rw [E]
  rw [h] at LT
  rw [hd] at DG
  obtain ⟨n, hn⟩ : ∃ t, Hid (numL l = t) := ⟨_, rfl⟩
  rw [hn.out] at SL NM hw PA hb ⊢
  obtain ⟨T, hT⟩ : ∃ t, Hid (bs (l.take n) = t) := ⟨_, rfl⟩
  unfold WdPost
  simp only
  rw [hT.out] at SL PA ⊢
  obtain ⟨⟨⟨a, d⟩, er⟩, hr⟩ : ∃ r, Hid (dparse (l.take n) = r) := ⟨_, rfl⟩
  replace PA := PA a d er hr.out
  rw [hr.out] at hb ⊢
  simp only at hb ⊢
  subst hb
  obtain ⟨y, hy⟩ : ∃ y, Hid (x.toNat = y) := ⟨_, rfl⟩
  rw [hy.out] at LT DG kc
  obtain ⟨S, hS⟩ : ∃ S, Hid (bs l = S) := ⟨_, rfl⟩
  rw [hS.out] at SG kc NM SL hz ⊢
  clear hl hx he h hd hy hS hn hT E hw hlz hr
  have f0 := X0.out.f 0; have f1 := X0.out.f 1; have f2 := X0.out.f 2; have f3 := X0.out.f 3; have f4 := X0.out.f 4
  have g0 := X0.out.c0; have g1 := X0.out.c1; have g2 := X0.out.c2; have g3 := X0.out.c3; have g4 := X0.out.c4
  go_enter Tryd.func37, Tryd.ntmps37
  go_upto_region 1 with fail
  rw [← hwa.out, hia.out]
  clear hwa hia
  go_upto_region 9 with (first | (go_at_call 74; (with_reducible refine (SG _).mono ?_); rintro e1 w1 ⟨rfl, hq⟩; obtain rfl := hq.symm; clear SG) | (go_at_call 41; (with_reducible refine (LT _).mono ?_); rintro e2 w2 ⟨rfl, hq⟩; obtain rfl := hq.symm; clear LT) | (go_at_call 75; (with_reducible refine (DG _).mono ?_); rintro e3 w3 ⟨rfl, hq⟩; obtain rfl := hq.symm; clear DG) | (go_at_call 76; (with_reducible refine (NM _).mono ?_); rintro e4 w4 ⟨rfl, q4⟩; have X1 := Lib.hid (X0.out.below q4); have B1 := Lib.hid (bt B0.out q4); have h0 := X1.out.c0; have h1 := X1.out.c1; have h2 := X1.out.c2; have h3 := X1.out.c3; have h4 := X1.out.c4; have k0 := X1.out.f 0; have k1 := X1.out.f 1; have k2 := X1.out.f 2; have k3 := X1.out.f 3; have k4 := X1.out.f 4; clear q4 NM))
  clear h0 h1 h2 h3 h4 k0 k1 k2 k3 k4
  have X2 := Lib.hid (X1.out.set 2 T 0 0 0)
  have B2 := Lib.hid (below_set5 B1.out HI.out (.int .u8 2) (.string T) (.int .i64 0) (.int .i64 0) (.int .i64 0))
  obtain ⟨wb, hwb⟩ : ∃ v, Hid (v = (((((w4.setCell ⟨ia, 0, none⟩ (.int .u8 2)).setCell ⟨ia, 1, none⟩ (.string T)).setCell ⟨ia, 2, none⟩ (.int .i64 0)).setCell ⟨ia, 3, none⟩ (.int .i64 0)).setCell ⟨ia, 4, none⟩ (.int .i64 0))) := ⟨_, rfl⟩
  rw [← hwb.out] at X2 B2 ⊢
  clear hwb X1 B1
  clear f0 f1 f2 f3 f4 g0 g1 g2 g3 g4
  have g1 := X2.out.c1
  have PA1 := PA wb (HE.out.below B2.out)
  go_upto_region 10 with (go_at_call 29; (with_reducible refine PA1.mono ?_); rintro e5 w5 ⟨rfl, q5⟩; have X3 := Lib.hid (X2.out.below q5); have B3 := Lib.hid (bt B2.out q5); have h2 := X3.out.c2; have h3 := X3.out.c3; have k2 := X3.out.f 2; have k3 := X3.out.f 3; clear q5 PA PA1 g1)
  have X4 := Lib.hid ((X3.out.s2 a).s3 d)
  have B4 := Lib.hid (Below.setCell (Below.setCell B3.out (p := ⟨ia, 2, none⟩) HI.out (.int .i64 a)) (p := ⟨ia, 3, none⟩) HI.out (.int .i64 d))
  obtain ⟨wc, hwc⟩ : ∃ v, Hid (v = (w5.setCell ⟨ia, 2, none⟩ (.int .i64 a)).setCell ⟨ia, 3, none⟩ (.int .i64 d)) := ⟨_, rfl⟩
  rw [← hwc.out] at X4 B4 ⊢
  clear hwc h2 h3 k2 k3 X3 B3 X2 B2
  have f0 := X4.out.f 0; have f1 := X4.out.f 1; have f2 := X4.out.f 2; have f3 := X4.out.f 3; have f4 := X4.out.f 4
  have g0 := X4.out.c0; have g1 := X4.out.c1; have g2 := X4.out.c2; have g3 := X4.out.c3; have g4 := X4.out.c4
  go_wp2_with fail
  refine bodyPost_ret (v := .tuple #[.agg #[.int .u8 _, .string _, .int .i64 _, .int .i64 _, .int .i64 _], .int .i64 _]) (results_cell5 (fn := Tryd.f37) (p := 2) (u := 3) rfl _ _ ia _ _ _ _ _ rfl (X4.out.set _ _ _ _ _)) rfl ?_
  exact ⟨rfl, below_set5 B4.out HI.out _ _ _ _ _⟩
set_option maxRecDepth 100000 in
set_option maxHeartbeats 1000000 in
theorem word_dg_f {w : World} (l : List UInt8) (hl : l.length ≤ 1000) (x : UInt8) (hx : l[0]? = some x) (he : Env w) (h : isLo x = false) (hd : isDg x = true) (hb : ¬ (dparse (l.take (numL l))).2 = 3) : Calls Tryd.prog 37 #[.string (bs l)] w (WdPost (wordP l 0) w) := by
  have HE := Lib.hid he
  have SG := fun w => sign_is (w := w) l x hx
  have kc : ∀ w, (Instr.index 9 (.string (bs l)) (.int .i64 0)).run Tryd.prog w = .ok (.int .u8 (x.toNat : Int)) w := at_byte l 0 x hx
  have LT := fun w => letter_is x w
  have DG := fun w => digit_is x w
  have X0 := Lib.hid (Five.new w 0 ⟨#[]⟩ 0 0 0)
  have B0 := Lib.hid (ba w (.cells #[.int .u8 0, .string ⟨#[]⟩, .int .i64 0, .int .i64 0, .int .i64 0] 48))
  have hz : (bs l).size = l.length := bs_size l
  have hlz : 0 < l.length := (List.getElem?_eq_some_iff.1 hx).1
  obtain ⟨wa, hwa⟩ : ∃ v, Hid (v = w.alloc (.cells #[.int .u8 0, .string ⟨#[]⟩, .int .i64 0, .int .i64 0, .int .i64 0] 48)) := ⟨_, rfl⟩
  obtain ⟨ia, hia⟩ : ∃ v, Hid (w.heap.size = v) := ⟨_, rfl⟩
  rw [← hwa.out] at B0 X0
  rw [hia.out] at X0
  have HI := Lib.hid (show w.heap.size ≤ ia from Nat.le_of_eq hia.out)
  have E : wordP l 0 = (⟨2, l.take (numL l), (dparse (l.take (numL l))).1.1, (dparse (l.take (numL l))).1.2, 0⟩, (dparse (l.take (numL l))).2) := by
    rw [word_dg (by rw [hx]; exact h) (by rw [hx]; exact hd)]
    simp [hb]
  have NM := fun w => number_is (w := w) l hl
  have hw := numL_le l
  have SL := slice_to l (numL l) hw
  have PA := fun (a d e : Int) (h : dparse (l.take (numL l)) = ((a, d), e)) w k => dparse_at h (by rw [List.length_take]; omega) w k
  rw [E]
  rw [h] at LT
  rw [hd] at DG
  obtain ⟨n, hn⟩ : ∃ t, Hid (numL l = t) := ⟨_, rfl⟩
  rw [hn.out] at SL NM hw PA hb ⊢
  obtain ⟨T, hT⟩ : ∃ t, Hid (bs (l.take n) = t) := ⟨_, rfl⟩
  unfold WdPost
  simp only
  rw [hT.out] at SL PA ⊢
  obtain ⟨⟨⟨a, d⟩, er⟩, hr⟩ : ∃ r, Hid (dparse (l.take n) = r) := ⟨_, rfl⟩
  replace PA := PA a d er hr.out
  rw [hr.out] at hb ⊢
  simp only at hb ⊢
  have e1 : decide (er = 3) = false := by simpa using hb
  have e2 : (er == 3) = false := by simpa using hb
  obtain ⟨y, hy⟩ : ∃ y, Hid (x.toNat = y) := ⟨_, rfl⟩
  rw [hy.out] at LT DG kc
  obtain ⟨S, hS⟩ : ∃ S, Hid (bs l = S) := ⟨_, rfl⟩
  rw [hS.out] at SG kc NM SL hz ⊢
  clear hl hx he h hd hy hS hn hT E hw hlz hr hb
  have f0 := X0.out.f 0; have f1 := X0.out.f 1; have f2 := X0.out.f 2; have f3 := X0.out.f 3; have f4 := X0.out.f 4
  have g0 := X0.out.c0; have g1 := X0.out.c1; have g2 := X0.out.c2; have g3 := X0.out.c3; have g4 := X0.out.c4
  go_enter Tryd.func37, Tryd.ntmps37
  go_upto_region 1 with fail
  rw [← hwa.out, hia.out]
  clear hwa hia
  go_upto_region 9 with (first | (go_at_call 74; (with_reducible refine (SG _).mono ?_); rintro e1 w1 ⟨rfl, hq⟩; obtain rfl := hq.symm; clear SG) | (go_at_call 41; (with_reducible refine (LT _).mono ?_); rintro e2 w2 ⟨rfl, hq⟩; obtain rfl := hq.symm; clear LT) | (go_at_call 75; (with_reducible refine (DG _).mono ?_); rintro e3 w3 ⟨rfl, hq⟩; obtain rfl := hq.symm; clear DG) | (go_at_call 76; (with_reducible refine (NM _).mono ?_); rintro e4 w4 ⟨rfl, q4⟩; have X1 := Lib.hid (X0.out.below q4); have B1 := Lib.hid (bt B0.out q4); have h0 := X1.out.c0; have h1 := X1.out.c1; have h2 := X1.out.c2; have h3 := X1.out.c3; have h4 := X1.out.c4; have k0 := X1.out.f 0; have k1 := X1.out.f 1; have k2 := X1.out.f 2; have k3 := X1.out.f 3; have k4 := X1.out.f 4; clear q4 NM))
  clear h0 h1 h2 h3 h4 k0 k1 k2 k3 k4
  have X2 := Lib.hid (X1.out.set 2 T 0 0 0)
  have B2 := Lib.hid (below_set5 B1.out HI.out (.int .u8 2) (.string T) (.int .i64 0) (.int .i64 0) (.int .i64 0))
  obtain ⟨wb, hwb⟩ : ∃ v, Hid (v = (((((w4.setCell ⟨ia, 0, none⟩ (.int .u8 2)).setCell ⟨ia, 1, none⟩ (.string T)).setCell ⟨ia, 2, none⟩ (.int .i64 0)).setCell ⟨ia, 3, none⟩ (.int .i64 0)).setCell ⟨ia, 4, none⟩ (.int .i64 0))) := ⟨_, rfl⟩
  rw [← hwb.out] at X2 B2 ⊢
  clear hwb X1 B1
  clear f0 f1 f2 f3 f4 g0 g1 g2 g3 g4
  have g1 := X2.out.c1
  have PA1 := PA wb (HE.out.below B2.out)
  go_upto_region 10 with (go_at_call 29; (with_reducible refine PA1.mono ?_); rintro e5 w5 ⟨rfl, q5⟩; have X3 := Lib.hid (X2.out.below q5); have B3 := Lib.hid (bt B2.out q5); have h2 := X3.out.c2; have h3 := X3.out.c3; have k2 := X3.out.f 2; have k3 := X3.out.f 3; clear q5 PA PA1 g1)
  have X4 := Lib.hid ((X3.out.s2 a).s3 d)
  have B4 := Lib.hid (Below.setCell (Below.setCell B3.out (p := ⟨ia, 2, none⟩) HI.out (.int .i64 a)) (p := ⟨ia, 3, none⟩) HI.out (.int .i64 d))
  obtain ⟨wc, hwc⟩ : ∃ v, Hid (v = (w5.setCell ⟨ia, 2, none⟩ (.int .i64 a)).setCell ⟨ia, 3, none⟩ (.int .i64 d)) := ⟨_, rfl⟩
  rw [← hwc.out] at X4 B4 ⊢
  clear hwc h2 h3 k2 k3 X3 B3 X2 B2
  have f0 := X4.out.f 0; have f1 := X4.out.f 1; have f2 := X4.out.f 2; have f3 := X4.out.f 3; have f4 := X4.out.f 4
  have g0 := X4.out.c0; have g1 := X4.out.c1; have g2 := X4.out.c2; have g3 := X4.out.c3; have g4 := X4.out.c4
  go_wp2_with fail
  refine bodyPost_ret (v := .tuple #[.agg #[.int .u8 _, .string _, .int .i64 _, .int .i64 _, .int .i64 _], .int .i64 _]) (results_cell5 (fn := Tryd.f37) (p := 2) (u := 3) rfl _ _ ia _ _ _ _ _ rfl (X4.out.set _ _ _ _ _)) rfl ?_
  exact ⟨rfl, below_set5 B4.out HI.out _ _ _ _ _⟩
set_option maxRecDepth 100000 in
set_option maxHeartbeats 1000000 in
theorem word_sg' {w : World} (l : List UInt8) (hl : l.length ≤ 1000) (x : UInt8) (hx : l[0]? = some x) (he : Env w) (h : isLo x = false) (hd : isDg x = false) (hb : 0 < sgnL l) : Calls Tryd.prog 37 #[.string (bs l)] w (WdPost (wordP l 0) w) := by
  have HE := Lib.hid he
  have SG := fun w => sign_is (w := w) l x hx
  have kc : ∀ w, (Instr.index 9 (.string (bs l)) (.int .i64 0)).run Tryd.prog w = .ok (.int .u8 (x.toNat : Int)) w := at_byte l 0 x hx
  have LT := fun w => letter_is x w
  have DG := fun w => digit_is x w
  have X0 := Lib.hid (Five.new w 0 ⟨#[]⟩ 0 0 0)
  have B0 := Lib.hid (ba w (.cells #[.int .u8 0, .string ⟨#[]⟩, .int .i64 0, .int .i64 0, .int .i64 0] 48))
  have hz : (bs l).size = l.length := bs_size l
  have hlz : 0 < l.length := (List.getElem?_eq_some_iff.1 hx).1
  obtain ⟨wa, hwa⟩ : ∃ v, Hid (v = w.alloc (.cells #[.int .u8 0, .string ⟨#[]⟩, .int .i64 0, .int .i64 0, .int .i64 0] 48)) := ⟨_, rfl⟩
  obtain ⟨ia, hia⟩ : ∃ v, Hid (w.heap.size = v) := ⟨_, rfl⟩
  rw [← hwa.out] at B0 X0
  rw [hia.out] at X0
  have HI := Lib.hid (show w.heap.size ≤ ia from Nat.le_of_eq hia.out)
  have E := word_sg (l := l) (p := 0) (by rw [hx]; exact h) (by rw [hx]; exact hd) hb
  have hw := sgnL_le (l := l)
  have SL := slice_to l (sgnL l) hw
  rw [E]
  rw [h] at LT
  rw [hd] at DG
  obtain ⟨n, hn⟩ : ∃ t, Hid (sgnL l = t) := ⟨_, rfl⟩
  rw [hn.out] at SL hw hb SG ⊢
  obtain ⟨T, hT⟩ : ∃ t, Hid (bs (l.take n) = t) := ⟨_, rfl⟩
  unfold WdPost
  simp only
  rw [hT.out] at SL ⊢
  have d1 : decide ((0 : Int) < (n : Int)) = true := by simp; omega
  have d2 : decide (0 < n) = true := by simpa using hb
  obtain ⟨y, hy⟩ : ∃ y, Hid (x.toNat = y) := ⟨_, rfl⟩
  rw [hy.out] at LT DG kc
  obtain ⟨S, hS⟩ : ∃ S, Hid (bs l = S) := ⟨_, rfl⟩
  rw [hS.out] at SG kc SL hz ⊢
  clear hl hx he h hd hy hS hn hT E hw hlz hb
  have f0 := X0.out.f 0; have f1 := X0.out.f 1; have f2 := X0.out.f 2; have f3 := X0.out.f 3; have f4 := X0.out.f 4
  have g0 := X0.out.c0; have g1 := X0.out.c1; have g2 := X0.out.c2; have g3 := X0.out.c3; have g4 := X0.out.c4
  go_enter Tryd.func37, Tryd.ntmps37
  go_upto_region 1 with fail
  rw [← hwa.out, hia.out]
  clear hwa hia
  go_upto_region 14 with (first | (go_at_call 74; (with_reducible refine (SG _).mono ?_); rintro e1 w1 ⟨rfl, hq⟩; obtain rfl := hq.symm; clear SG) | (go_at_call 41; (with_reducible refine (LT _).mono ?_); rintro e2 w2 ⟨rfl, hq⟩; obtain rfl := hq.symm; clear LT) | (go_at_call 75; (with_reducible refine (DG _).mono ?_); rintro e3 w3 ⟨rfl, hq⟩; obtain rfl := hq.symm; clear DG))
  have X2 := Lib.hid (X0.out.set 3 T 0 0 0)
  have B2 := Lib.hid (below_set5 B0.out HI.out (.int .u8 3) (.string T) (.int .i64 0) (.int .i64 0) (.int .i64 0))
  obtain ⟨wb, hwb⟩ : ∃ v, Hid (v = (((((wa.setCell ⟨ia, 0, none⟩ (.int .u8 3)).setCell ⟨ia, 1, none⟩ (.string T)).setCell ⟨ia, 2, none⟩ (.int .i64 0)).setCell ⟨ia, 3, none⟩ (.int .i64 0)).setCell ⟨ia, 4, none⟩ (.int .i64 0))) := ⟨_, rfl⟩
  rw [← hwb.out] at X2 B2 ⊢
  clear hwb X0 B0
  clear f0 f1 f2 f3 f4 g0 g1 g2 g3 g4
  have f0 := X2.out.f 0; have f1 := X2.out.f 1; have f2 := X2.out.f 2; have f3 := X2.out.f 3; have f4 := X2.out.f 4
  have g0 := X2.out.c0; have g1 := X2.out.c1; have g2 := X2.out.c2; have g3 := X2.out.c3; have g4 := X2.out.c4
  go_wp2_with fail
  refine bodyPost_ret (v := .tuple #[.agg #[.int .u8 _, .string _, .int .i64 _, .int .i64 _, .int .i64 _], .int .i64 _]) (results_cell5 (fn := Tryd.f37) (p := 2) (u := 3) rfl _ _ ia _ _ _ _ _ rfl (X2.out.set _ _ _ _ _)) rfl ?_
  exact ⟨rfl, below_set5 B2.out HI.out _ _ _ _ _⟩
set_option maxRecDepth 100000 in
set_option maxHeartbeats 1000000 in
theorem word_no' {w : World} (l : List UInt8) (hl : l.length ≤ 1000) (x : UInt8) (hx : l[0]? = some x) (he : Env w) (h : isLo x = false) (hd : isDg x = false) (hb : ¬ 0 < sgnL l) : Calls Tryd.prog 37 #[.string (bs l)] w (WdPost (wordP l 0) w) := by
  have HE := Lib.hid he
  have SG := fun w => sign_is (w := w) l x hx
  have kc : ∀ w, (Instr.index 9 (.string (bs l)) (.int .i64 0)).run Tryd.prog w = .ok (.int .u8 (x.toNat : Int)) w := at_byte l 0 x hx
  have LT := fun w => letter_is x w
  have DG := fun w => digit_is x w
  have X0 := Lib.hid (Five.new w 0 ⟨#[]⟩ 0 0 0)
  have B0 := Lib.hid (ba w (.cells #[.int .u8 0, .string ⟨#[]⟩, .int .i64 0, .int .i64 0, .int .i64 0] 48))
  have hz : (bs l).size = l.length := bs_size l
  have hlz : 0 < l.length := (List.getElem?_eq_some_iff.1 hx).1
  obtain ⟨wa, hwa⟩ : ∃ v, Hid (v = w.alloc (.cells #[.int .u8 0, .string ⟨#[]⟩, .int .i64 0, .int .i64 0, .int .i64 0] 48)) := ⟨_, rfl⟩
  obtain ⟨ia, hia⟩ : ∃ v, Hid (w.heap.size = v) := ⟨_, rfl⟩
  rw [← hwa.out] at B0 X0
  rw [hia.out] at X0
  have HI := Lib.hid (show w.heap.size ≤ ia from Nat.le_of_eq hia.out)
  have E := word_no (l := l) (p := 0) (by rw [hx]; exact h) (by rw [hx]; exact hd) hb
  rw [E]
  rw [h] at LT
  rw [hd] at DG
  have hn : sgnL l = 0 := by omega
  rw [hn] at SG
  have SG' : ∀ w, Calls Tryd.prog 74 #[.string (bs l)] w fun e w' => e = .returned (.int .i64 0) ∧ w' = w := SG
  clear SG
  obtain ⟨y, hy⟩ : ∃ y, Hid (x.toNat = y) := ⟨_, rfl⟩
  rw [hy.out] at LT DG kc
  obtain ⟨S, hS⟩ : ∃ S, Hid (bs l = S) := ⟨_, rfl⟩
  rw [hS.out] at SG' kc hz ⊢
  clear hl hx he h hd hy hS hn E hlz hb
  have f0 := X0.out.f 0; have f1 := X0.out.f 1; have f2 := X0.out.f 2; have f3 := X0.out.f 3; have f4 := X0.out.f 4
  have g0 := X0.out.c0; have g1 := X0.out.c1; have g2 := X0.out.c2; have g3 := X0.out.c3; have g4 := X0.out.c4
  go_enter Tryd.func37, Tryd.ntmps37
  go_upto_region 1 with fail
  rw [← hwa.out, hia.out]
  clear hwa hia
  go_wp2_with (first | (go_at_call 74; (with_reducible refine (SG' _).mono ?_); rintro e1 w1 ⟨rfl, hq⟩; obtain rfl := hq.symm; clear SG') | (go_at_call 41; (with_reducible refine (LT _).mono ?_); rintro e2 w2 ⟨rfl, hq⟩; obtain rfl := hq.symm; clear LT) | (go_at_call 75; (with_reducible refine (DG _).mono ?_); rintro e3 w3 ⟨rfl, hq⟩; obtain rfl := hq.symm; clear DG))
  refine bodyPost_ret (v := .tuple #[.agg #[.int .u8 _, .string _, .int .i64 _, .int .i64 _, .int .i64 _], .int .i64 _]) (results_cell5 (fn := Tryd.f37) (p := 2) (u := 3) rfl _ _ ia _ _ _ _ _ rfl (X0.out.set _ _ _ _ _)) rfl ?_
  exact ⟨rfl, below_set5 B0.out HI.out _ _ _ _ _⟩
theorem word_is {w : World} (l : List UInt8) (hl : l.length ≤ 1000) (x : UInt8) (hx : l[0]? = some x) (he : Env w) : Calls Tryd.prog 37 #[.string (bs l)] w (WdPost (wordP l 0) w) := by
  cases h : isLo x
  · cases hd : isDg x
    · by_cases hb : 0 < sgnL l
      · exact word_sg' l hl x hx he h hd hb
      · exact word_no' l hl x hx he h hd hb
    · by_cases hb : (dparse (l.take (numL l))).2 = 3
      · exact word_dg_t l hl x hx he h hd hb
      · exact word_dg_f l hl x hx he h hd hb
  · cases hb : decide (12 < wh isAl l)
    · exact word_lo_f l hl x hx he h hb
    · exact word_lo_t l hl x hx he h hb
end Go.Proofs.YtfonpegkaajnkaaDoor.Lx
