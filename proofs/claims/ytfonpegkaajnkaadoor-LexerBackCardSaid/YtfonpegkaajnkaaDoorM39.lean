/-
  lexer: Lex, walked.
-/
import Derived.Test.YtfonpegkaajnkaaDoorM37
import Derived.Test.YtfonpegkaajnkaaDoorM38
/-
  lexer: Lex, walked.
-/
namespace Go.Proofs.YtfonpegkaajnkaaDoor.Lx
open Go Go.RowKit Dt Tx
set_option linter.unusedSimpArgs false
set_option linter.unusedVariables false
attribute [local go_sem ↓] Go.wp_at_zero Go.wp_at_succ

def tokE : Elem Tryd.prog Tok where
  sl := 41
  e := 48
  sz := 5
  bytes := 48
  z := .agg #[.int .u8 0, .string ⟨#[]⟩, .int .i64 0, .int .i64 0, .int .i64 0]
  enc := fun x => [.int .u8 x.k, .string (bs x.t), .int .i64 x.c, .int .i64 x.s, .int .i64 x.p]
  und := Tryd.underlying41
  info := by kernel_rfl
  zs := rfl
  pos := by decide
  len := fun _ => rfl
  one := fun x u hu => by simp only [List.mem_cons, List.not_mem_nil, or_false] at hu; rcases hu with rfl | rfl | rfl | rfl | rfl <;> rfl
def LexPost (r : List Tok × Int × Int) (w : World) (e : Ending) (w' : World) : Prop := ∃ v, e = .returned (.tuple #[v, .int .i64 r.2.1, .int .i64 r.2.2]) ∧ tokE.Arg w' v r.1 ∧ Below w.heap.size w w'
theorem word_at (l : List UInt8) (p : Int) : wordP l p = (⟨(wordP l 0).1.k, (wordP l 0).1.t, (wordP l 0).1.c, (wordP l 0).1.s, p⟩, (wordP l 0).2) := by
  unfold wordP
  split
  · rfl
  · split
    · rfl
    · split <;> rfl
theorem lex_step {l : List UInt8} {at_ : Nat} {acc : List Tok} {x : UInt8} (h : l[at_]? = some x) (hx : x ≠ 32) {k c s p e : Int} {t : List UInt8} (hw : wordP (l.drop at_) 0 = (⟨k, t, c, s, p⟩, e)) :
    (e = 0 → lexR l at_ acc = lexR l (at_ + t.length) (acc ++ [⟨k, t, c, s, (at_ : Int)⟩]) ∧ 0 < t.length ∧ t.length ≤ l.length - at_) ∧ (¬ e = 0 → lexR l at_ acc = ([], (at_ : Int), e)) := by
  have hwk := word_at (l.drop at_) (at_ : Int)
  rw [hw] at hwk
  simp only at hwk
  constructor
  · rintro rfl
    have h1 := lexR_word (acc := acc) h hx (by rw [hwk])
    have h2 := word_len (l := l.drop at_) (p := (at_ : Int)) (by rw [hwk])
    rw [hwk] at h1 h2
    simp only at h1 h2
    rw [List.length_drop] at h2
    exact ⟨h1, h2.1, h2.2.2⟩
  · intro he
    have h1 := lexR_bad (acc := acc) h hx (by rw [hwk]; exact he)
    rw [hwk] at h1
    exact h1
set_option maxRecDepth 100000 in
set_option maxHeartbeats 2000000 in
theorem lex_is {w : World} (l : List UInt8) (hl : l.length ≤ 1000) (he : Env w) : Calls Tryd.prog 21 #[.string (bs l)] w (LexPost (lexP l) w) := by
  have HE := Lib.hid he
  have hz : (bs l).size = l.length := bs_size l
  obtain ⟨N, hN⟩ : ∃ N, Hid (l.length = N) := ⟨_, rfl⟩
  rw [hN.out] at hz hl
  by_cases h400 : 400 < N
  · have d1 : decide (400 < N) = true := by simpa using h400
    have d2 : decide ((400 : Int) < (N : Int)) = true := by simp; omega
    have E : lexP l = ([], 0, 3) := by unfold lexP; rw [if_pos (by rw [hN.out]; exact h400)]
    rw [E]
    obtain ⟨S, hS⟩ : ∃ S, Hid (bs l = S) := ⟨_, rfl⟩
    rw [hS.out] at hz ⊢
    clear h400 he hS hl E
    go_enter Tryd.func21, Tryd.ntmps21
    go_wp2_with fail
    refine bodyPost_ret (v := .tuple #[.slice none 0 0, .int .i64 0, .int .i64 3]) (by simp [results, Tryd.results21, go_sem]) rfl ?_
    exact ⟨_, rfl, Elem.Arg.nil _, Below.refl _ _⟩
  · have d1 : decide (400 < N) = false := by simpa using h400
    have d2 : decide ((400 : Int) < (N : Int)) = false := by simp; omega
    have E := Lib.hid (lexP_eq (l := l) (by rw [hN.out]; omega))
    have HN4 := Lib.hid (show N ≤ 400 by omega)
    obtain ⟨S, hS⟩ : ∃ S, Hid (bs l = S) := ⟨_, rfl⟩
    rw [hS.out] at hz ⊢
    clear h400 he hl
    go_enter Tryd.func21, Tryd.ntmps21
    go_wp2_with fail
    go_loopw [5, 6] (fun v i wr => ∃ (k : Nat) (acc : List Tok), i = .int .i64 (k : Int) ∧ k ≤ N ∧ Hid (acc.length ≤ k) ∧ Hid (lexR l k acc = lexP l) ∧ Hid (tokE.Row wr w.heap.size v acc) ∧ Hid (Below w.heap.size w wr)) (fun _ i _ => N - (intOf i).toNat)
    case atStart => exact ⟨0, [], rfl, Nat.zero_le _, Nat.le_refl _, E.out.symm, Elem.Row.nil _ _, Below.refl _ _⟩
    case round =>
      obtain ⟨wo, rfl⟩ : ∃ wo : World, wo = wr := ⟨_, rfl⟩
      obtain ⟨k, acc, rfl, hk, HAC, HR, RR, B⟩ := hrel
      by_cases hkl : k < N
      · obtain ⟨c, hc⟩ : ∃ c, l[k]? = some c := ⟨_, List.getElem?_eq_getElem (by rw [hN.out]; exact hkl)⟩
        have kc := at_byte l k c hc
        rw [hS.out] at kc
        have i0 : (0 : Int) ≤ (k : Int) := by omega
        have i1 : decide ((k : Int) < (N : Int)) = true := by simp; omega
        have i2 : decide (k < N) = true := by simpa using hkl
        have HK := Lib.hid hkl
        by_cases h32 : c = 32
        · subst h32
          have kw : IntKind.i64.wrap ((k : Int) + 1) = (k : Int) + 1 := wrap_one k (by have := HN4.out; omega)
          have HR2 := Lib.hid ((lexR_blank (acc := acc) hc).symm.trans HR.out)
          clear hc hk hkl HR
          go_wp2_with fail
          refine ⟨⟨k + 1, acc, rfl, HK.out, Nat.le_succ_of_le HAC.out, HR2, RR, B⟩, ?_⟩
          show N - ((k : Int) + 1).toNat < N - (k : Int).toNat
          have := HK.out; omega
        · have hcn : ¬ c.toNat = 32 := fun e => h32 (UInt8.toNat.inj e)
          obtain ⟨y, hy⟩ : ∃ y, Hid (c.toNat = y) := ⟨_, rfl⟩
          rw [hy.out] at kc hcn
          have e1 : ((y : Int) == 32) = false := by simp; omega
          have e2 : decide ((y : Int) = 32) = false := by simp; omega
          have e3 : decide (y = 32) = false := by simpa using hcn
          have SL := slice_from l k (by rw [hN.out]; omega)
          have WD := word_is (w := wo) (l.drop k) (by rw [List.length_drop, hN.out]; have := HN4.out; omega) c (by rw [List.getElem?_drop]; simpa using hc) (HE.out.below B.out)
          unfold WdPost at WD
          obtain ⟨⟨⟨tk, tt, tc, ts, tp⟩, er⟩, hw⟩ : ∃ r, Hid (wordP (l.drop k) 0 = r) := ⟨_, rfl⟩
          have hstep := lex_step (acc := acc) hc h32 hw.out
          have htp : tp = 0 := by
            have h1 := word_at (l.drop k) 0
            rw [hw.out] at h1
            simp only [Prod.mk.injEq, Tok.mk.injEq] at h1
            exact h1.1.2.2.2.2
          subst htp
          rw [hw.out] at WD
          simp only at WD
          obtain ⟨T, hT⟩ : ∃ S, Hid (bs (l.drop k) = S) := ⟨_, rfl⟩
          rw [hT.out] at WD SL
          rw [hS.out] at SL
          obtain ⟨U, hU⟩ : ∃ S, Hid (bs tt = S) := ⟨_, rfl⟩
          have hzU : U.size = tt.length := by rw [← hU.out]; exact bs_size tt
          rw [hU.out] at WD
          by_cases h0 : er = 0
          · subst h0
            obtain ⟨hs1, hs2, hs3⟩ := hstep.1 rfl
            have HR2 := Lib.hid (hs1.symm.trans HR.out)
            have HS2 := Lib.hid hs2
            have HS3 := Lib.hid hs3
            clear hstep hs1 hs2 hs3 hc hk hkl h32 hcn hy HR hw hT
            obtain ⟨av, cv, rfl, hcw, hgw⟩ := RR.out.form
            have HHL := Lib.hid (show k + tt.length ≤ 1000000 by have := HS3.out; have := HN4.out; have := hN.out; have := HK.out; omega)
            obtain ⟨n, hn⟩ : ∃ n, Hid (tt.length = n) := ⟨_, rfl⟩
            rw [hn.out] at hzU
            have kw : IntKind.i64.wrap ((k : Int) + (n : Int)) = ((k + n : Nat) : Int) := wrap_add k n (by rw [← hn.out]; exact HHL.out)
            go_upto_region 9 with (go_at_call 37; (with_reducible refine WD.mono ?_); rintro e4 w4 ⟨rfl, q4⟩; have R4 := Lib.hid (Elem.Row.below RR.out (bt q4 (ba w4 (.cells #[.int .u8 tk, .string U, .int .i64 tc, .int .i64 ts, .int .i64 0] 48)))); have RL := Lib.hid (fun g h => Nat.lt_of_lt_of_le (RR.out.lt g h).2 q4.size); have HI7 := Lib.hid (Nat.le_trans B.out.size q4.size); have B4 := Lib.hid (bt B.out (bt q4 (ba w4 (.cells #[.int .u8 tk, .string U, .int .i64 tc, .int .i64 ts, .int .i64 0] 48)))); have X4 := Lib.hid (Five.new w4 tk U tc ts 0); clear q4 WD)
            obtain ⟨wz, hwz⟩ : ∃ v, Hid (v = w4.alloc (.cells #[.int .u8 tk, .string U, .int .i64 tc, .int .i64 ts, .int .i64 0] 48)) := ⟨_, rfl⟩
            obtain ⟨i7, hi7⟩ : ∃ v, Hid (w4.heap.size = v) := ⟨_, rfl⟩
            rw [← hwz.out] at R4 B4 X4 ⊢
            rw [hi7.out] at X4 RL ⊢
            rw [hi7.out] at HI7
            clear hwz hi7 RR
            have f4 := X4.out.f 4
            have g4 := X4.out.c4
            go_upto_region 12 with fail
            have X5 := Lib.hid (X4.out.s4 (k : Int))
            have B5 := Lib.hid (Below.setCell B4.out (p := ⟨i7, 4, none⟩) HI7.out (.int .i64 (k : Int)))
            have R5 : Hid (tokE.Row (wz.setCell ⟨i7, 4, none⟩ (.int .i64 (k : Int))) w.heap.size (.slice av acc.length cv) acc) := Lib.hid (R4.out.block fun g hg => heap_setCell_other wz ⟨i7, 4, none⟩ g _ (Nat.ne_of_lt (RL.out g hg)))
            obtain ⟨wy, hwy⟩ : ∃ v, Hid (v = wz.setCell ⟨i7, 4, none⟩ (.int .i64 (k : Int))) := ⟨_, rfl⟩
            rw [← hwy.out] at X5 B5 R5 ⊢
            clear hwy f4 g4 X4 B4 R4
            have g0 := X5.out.c0; have g1 := X5.out.c1; have g2 := X5.out.c2; have g3 := X5.out.c3; have g4 := X5.out.c4
            have SRC : Hid (tokE.Arg (wy.alloc (.cells #[.int .u8 tk, .string U, .int .i64 tc, .int .i64 ts, .int .i64 (k : Int)] 48)) (.slice (some ⟨wy.heap.size, 0, none⟩) 1 1) [⟨tk, tt, tc, ts, (k : Int)⟩]) := by
              rw [← hU.out]; exact Lib.hid (Elem.arg_one (E := tokE) (w := wy) ⟨tk, tt, tc, ts, (k : Int)⟩ 48)
            have RA := Lib.hid (Elem.Row.below R5.out (ba wy (.cells #[.int .u8 tk, .string U, .int .i64 tc, .int .i64 ts, .int .i64 (k : Int)] 48)))
            have XA := Lib.hid (X5.out.below (ba wy (.cells #[.int .u8 tk, .string U, .int .i64 tc, .int .i64 ts, .int .i64 (k : Int)] 48)))
            have BA := Lib.hid (bt B5.out (ba wy (.cells #[.int .u8 tk, .string U, .int .i64 tc, .int .i64 ts, .int .i64 (k : Int)] 48)))
            have HFL : Hid (acc.length + 1 ≤ 1000001) := Lib.hid (by have := HAC.out; have := HK.out; have := HN4.out; omega)
            have HB := Lib.hid BA.out.size
            go_upto_region 13 with (at_builtin; go_loud (refine Elem.app (E := tokE) rfl _ _ rfl w.heap.size (.slice av acc.length cv) acc (.slice (some ⟨wy.heap.size, 0, none⟩) 1 1) [⟨tk, tt, tc, ts, (k : Int)⟩] rfl rfl RA.out SRC.out HFL.out (by decide) HB.out ?_; intro v6 w6 r6 q6 _; have R6 := Lib.hid r6; have X6 : Hid (Five w6 i7 tk U tc ts (k : Int)) := Lib.hid ((q6.block i7 XA.out.lt (fun e => absurd (RL.out i7 e.symm) (Nat.lt_irrefl _))).trans XA.out); have B6 := Lib.hid (BA.out.grown q6 BA.out.size (fun z hz => (RA.out.lt z hz).1)); clear r6 q6))
            clear g0 g1 g2 g3 g4 SRC RA XA BA HFL HB X5 B5 R5
            have g1 := X6.out.c1
            go_wp2_with fail
            refine ⟨⟨k + n, _, rfl, ?_, ?_, ?_, R6, B6⟩, ?_⟩
            · have := HS3.out; have := hn.out; have := hN.out; have := HK.out; omega
            · show (acc ++ [_]).length ≤ k + n
              rw [List.length_append]; have := HAC.out; have := HS2.out; have := hn.out; show acc.length + 1 ≤ _; omega
            · show lexR l (k + n) _ = _
              rw [← hn.out]; exact HR2.out
            · show N - (((k + n : Nat) : Int)).toNat < N - ((k : Int)).toNat
              have := HS2.out; have := hn.out; have := HK.out; omega
          · have h1 := hstep.2 h0
            have HR2 := Lib.hid (HR.out.symm.trans h1)
            have z1 : decide (er = 0) = false := by simpa using h0
            have z2 : (er == 0) = false := by simpa using h0
            have z3 : (er != 0) = true := by simpa using h0
            clear hstep h1 hc hk hkl h32 hcn hy HR hw hT h0
            go_wp2_with (go_at_call 37; (with_reducible refine WD.mono ?_); rintro e4 w4 ⟨rfl, q4⟩; have B4 := Lib.hid (bt B.out (bt q4 (ba w4 (.cells #[.int .u8 tk, .string U, .int .i64 tc, .int .i64 ts, .int .i64 0] 48)))); clear q4 WD)
            refine bodyPost_ret (v := .tuple #[.slice none 0 0, .int .i64 (k : Int), .int .i64 er]) (by simp [results, Tryd.results21, go_sem]) rfl ?_
            rw [HR2.out]
            exact ⟨_, rfl, Elem.Arg.nil _, B4.out⟩
      · have hkN : k = N := by omega
        subst hkN
        have i1 : decide ((k : Int) < (k : Int)) = false := by simp
        have i2 : decide (k < k) = false := by simp
        have HR2 := Lib.hid (HR.out.symm.trans (lexR_done (acc := acc) (List.getElem?_eq_none (by rw [hN.out]; exact Nat.le_refl _))))
        have AR := Lib.hid RR.out.arg
        clear hk hkl HR
        go_wp2_with fail
        refine bodyPost_ret (v := .tuple #[_, .int .i64 0, .int .i64 0]) (by simp [results, Tryd.results21, go_sem]; rfl) rfl ?_
        rw [HR2.out]
        exact ⟨_, rfl, AR.out, B.out⟩
end Go.Proofs.YtfonpegkaajnkaaDoor.Lx
