/-
  LexerBack: walked; What the rows' condition gives: the library's tables, its number, its error.
-/
import Derived.Test.YtfonpegkaajnkaaDoorM47
import Derived.Lib.TrimByte
import Derived.Test.YtfonpegkaajnkaaDoorM46
/-
  LexerBack: walked.
-/
namespace Go.Proofs.YtfonpegkaajnkaaDoor.Lx
open Go Go.RowKit Dt Tx
set_option linter.unusedSimpArgs false
set_option linter.unusedVariables false
attribute [local go_sem ↓] Go.wp_at_zero Go.wp_at_succ

def strE : Elem Tryd.prog ByteArray where
  sl := 46
  e := 9
  sz := 1
  bytes := 16
  z := .string ByteArray.empty
  enc := fun x => [.string x]
  und := Tryd.underlying46
  info := by kernel_rfl
  zs := rfl
  pos := by decide
  len := fun _ => rfl
  one := fun x u hu => by simp only [List.mem_cons, List.not_mem_nil, or_false] at hu; rcases hu with rfl; rfl
/-- blanks alone: nothing is left -/
theorem trim_blank {w : World} (m : List UInt8) (h : ∀ i, i < m.length → m[i]? = some 32) (hm : m.length ≤ 1000) : Calls Tryd.prog 26 #[.string (bs m), .string ⟨#[32]⟩] w fun e w' => e = .returned (.string ⟨#[]⟩) ∧ Below w.heap.size w w' := by
  have T := Tryd.strings_Trim_one (bs m) 32 (by decide) w (by rw [bs_size]; omega)
  refine T.mono ?_
  rintro e w' ⟨rfl, hw⟩
  refine ⟨?_, ?_⟩
  · have e1 : Lib.trimRightB m 32 = m.take 0 := Lib.trimRightB_take m 32 0 (Nat.zero_le _) (fun j b _ hb => by
      have := h j (List.getElem?_eq_some_iff.1 hb).1
      rw [this] at hb; exact (Option.some.inj hb).symm) (fun b h0 => absurd h0 (Nat.lt_irrefl _))
    have e2 : (bs m).data.toList = m := rfl
    rw [e2]
    unfold Lib.trimB
    rw [e1]
    rfl
  · rcases hw with rfl | rfl
    · exact Below.refl _ _
    · exact ⟨rfl, rfl, rfl, Nat.le_refl _, fun _ _ => rfl⟩
def wordsB (ts : List Tok) : List ByteArray := ts.map fun t => bs t.t
theorem join_is {w : World} {B : Nat} {v : Value} (ts : List Tok) (h : strE.Row w B v (wordsB ts)) (hl : (joinT ts).length ≤ 400) (hn : ts.length ≤ 400) : Calls Tryd.prog 27 #[v, .string ⟨#[32]⟩] w fun e w' => e = .returned (.string (bs (joinT ts))) ∧ Below w.heap.size w w' := by
  obtain ⟨ao, cap, hv, hc, hg⟩ := h.form
  have hlen : (wordsB ts).length = ts.length := by unfold wordsB; rw [List.length_map]
  by_cases h0 : ts.length = 0
  · obtain rfl : ts = [] := List.length_eq_zero_iff.1 h0
    rw [hlen] at hv
    subst hv
    refine (Tryd.strings_Join_none ao cap ⟨#[32]⟩ w).mono ?_
    rintro e w' ⟨rfl, rfl⟩
    exact ⟨rfl, Below.refl _ _⟩
  · obtain ⟨g, rfl⟩ := hg (by rw [hlen]; omega)
    subst hv
    have cells : ∀ (j : Nat) x, (wordsB ts)[j]? = some x → w.cell? ⟨g, 0 + j, none⟩ = some (.string x) := by
      intro j x hx
      obtain ⟨ao', cap', e, _, hcc⟩ := h.arg
      obtain ⟨b', o', e1, _, hccc⟩ := hcc j x hx
      simp only [Value.slice.injEq] at e
      obtain ⟨e0, _, _⟩ := e
      subst e0
      cases e1
      have := hccc 0 _ rfl
      rw [show 0 + j * strE.sz + 0 = 0 + j by show 0 + j * 1 + 0 = _; omega] at this
      exact this
    have hj : Lib.join ((wordsB ts).map (·.data.toList)) (⟨#[32]⟩ : ByteArray).data.toList = joinT ts := by
      rw [joinT_is]
      unfold wordsB
      rw [List.map_map]
      rfl
    have J := Tryd.strings_Join g 0 cap (wordsB ts) ⟨#[32]⟩ w cells (h.lt g rfl).2 (by rw [hlen]; omega) (by exact hc) (by rw [hj]; omega)
    rw [hj] at J
    exact J
set_option maxRecDepth 100000 in
set_option maxHeartbeats 4000000 in
theorem back_law {w : World} (s : ByteArray) (he : EnvL w) : Calls Tryd.prog 7 #[.string s] w fun e w' => e = .returned (.bool true) ∧ Below w.heap.size w w' := by
  obtain ⟨l, rfl⟩ : ∃ l, bs l = s := ⟨_, bs_of s⟩
  have hz : (bs l).size = l.length := bs_size l
  obtain ⟨N, hN⟩ : ∃ N, Hid (l.length = N) := ⟨_, rfl⟩
  rw [hN.out] at hz
  have HE := Lib.hid he
  by_cases h1 : 200 < N
  · have d1 : decide (200 < N) = true := by simpa using h1
    have d2 : decide ((200 : Int) < (N : Int)) = true := by simp; omega
    have K := knownL_is he
    obtain ⟨S, hS⟩ : ∃ S, Hid (bs l = S) := ⟨_, rfl⟩
    rw [hS.out] at hz ⊢
    clear h1 he hS
    go_enter Tryd.func7, Tryd.ntmps7
    go_wp2_with (go_at_call 20; (with_reducible refine K.mono ?_); rintro e w1 ⟨rfl, b1⟩; have B1 := Lib.hid b1; clear b1)
    go_ret
    exact ⟨rfl, B1.out⟩
  · have d1 : decide (200 < N) = false := by simpa using h1
    have d2 : decide ((200 : Int) < (N : Int)) = false := by simp; omega
    have hl : l.length ≤ 1000 := by rw [hN.out]; omega
    have HN2 := Lib.hid (show N ≤ 200 by omega)
    have A := lex_is l hl he.env
    unfold LexPost at A
    obtain ⟨⟨xs, p, f⟩, hr⟩ : ∃ r, Hid (lexP l = r) := ⟨_, rfl⟩
    rw [hr.out] at A
    simp only at A
    by_cases hf : f = 0
    · subst hf
      have SEG := Lib.hid (lexP_segs hr.out)
      have LB := Lib.hid (lex_back (l := l) (by rw [hN.out]; exact HN2.out) hr.out)
      obtain ⟨S, hS⟩ : ∃ S, Hid (bs l = S) := ⟨_, rfl⟩
      rw [hS.out] at hz A ⊢
      have HLX : Hid (xs.length ≤ 200) := by have := (joinT_len SEG.out).2; have := hN.out; have := HN2.out; show _ ≤ _; omega
      clear h1 he hl
      go_enter Tryd.func7, Tryd.ntmps7
      go_upto_region 4 with (go_at_call 21; (with_reducible refine A.mono ?_); rintro e1 w1 ⟨v1, rfl, a1, q1⟩; obtain ⟨ao, cap, rfl, h1⟩ := argT a1; have A1 := Lib.hid a1; have H1 := Lib.hid h1; have B1 := Lib.hid q1; clear q1 a1 h1 A)
      obtain ⟨M, hM⟩ : ∃ M, Hid (xs.length = M) := ⟨_, rfl⟩
      rw [hM.out] at A1 ⊢
      go_upto_region 9 with fail
      go_loopw [6, 7, 34] (fun v a i wr => ∃ (k q : Nat), i = .int .i64 (k : Int) ∧ a = .int .i64 (q : Int) ∧ k ≤ M ∧ Hid (segs l q (xs.drop k)) ∧ Hid (strE.Row wr w1.heap.size v (wordsB (xs.take k))) ∧ Hid (Below w1.heap.size w1 wr)) (fun _ _ i _ => M - (intOf i).toNat)
      case atStart => exact ⟨0, 0, rfl, rfl, Nat.zero_le _, SEG.out, Elem.Row.nil _ _, Below.refl _ _⟩
      case round =>
        obtain ⟨wo, rfl⟩ : ∃ wo : World, wo = wr := ⟨_, rfl⟩
        obtain ⟨k, q, rfl, rfl, hk, SG, RR, B⟩ := hrel
        by_cases hkl : k < M
        · obtain ⟨x, hx⟩ : ∃ x, xs[k]? = some x := ⟨_, List.getElem?_eq_getElem (by rw [hM.out]; exact hkl)⟩
          obtain ⟨ba', oa, rfl, l1, c0, c1, c2, c3, c4⟩ := H1.out k x hx
          have i0 : (0 : Int) ≤ (k : Int) := by omega
          have i1 : (k : Int) < (M : Int) := by omega
          have i2 : decide ((k : Int) < (M : Int)) = true := by simp; omega
          have c0' := (B.out.cell (p := ⟨ba', _, none⟩) l1).trans c0; have c1' := (B.out.cell (p := ⟨ba', _, none⟩) l1).trans c1; have c2' := (B.out.cell (p := ⟨ba', _, none⟩) l1).trans c2; have c3' := (B.out.cell (p := ⟨ba', _, none⟩) l1).trans c3; have c4' := (B.out.cell (p := ⟨ba', _, none⟩) l1).trans c4
          have kw : IntKind.i64.wrap ((k : Int) + 1) = (k : Int) + 1 := wrap1 k (by have := HLX.out; have := hM.out; omega)
          have hdk : xs.drop k = x :: xs.drop (k + 1) := by
            have hkx := (List.getElem?_eq_some_iff.1 hx)
            obtain ⟨hlt, he⟩ := hkx
            rw [List.drop_eq_getElem_cons hlt, he]
          have htk : wordsB (xs.take (k + 1)) = wordsB (xs.take k) ++ [bs x.t] := by unfold wordsB; rw [List.take_add_one, hx, List.map_append]; rfl
          have sg := SG.out
          rw [hdk] at sg
          obtain ⟨y, e1, e2, e3, e4, e5, e6, _, e8⟩ := sg
          obtain ⟨x0, x1, x2, x3, x4⟩ := x
          simp only at e1 e2 e3 e4 e5 e6 e8 c0' c1' c2' c3' c4' htk
          subst e1
          have SL1 := fun w => slice_both l y (y + x1.length) (by omega) e4 w
          rw [show y + x1.length - y = x1.length by omega, e5] at SL1
          have SL2 := fun w => slice_both l q y e2 (by omega) w
          have TR := fun w => trim_blank (w := w) ((l.drop q).take (y - q)) (fun i hi => by
            rw [List.length_take, List.length_drop] at hi
            rw [List.getElem?_take_of_lt (by omega), List.getElem?_drop]
            exact e3 _ (by omega) (by omega)) (by rw [List.length_take, List.length_drop]; have := HN2.out; have := hN.out; omega)
          obtain ⟨U, hU⟩ : ∃ S, Hid (bs ((l.drop q).take (y - q)) = S) := ⟨_, rfl⟩
          rw [hU.out] at SL2 TR
          have ss := self_toList (bs x1)
          have hne : ((bs x1).toList == []) = false := by rw [bs_toList]; cases x1 with | nil => simp at e6 | cons _ _ => rfl
          have hzT : (bs x1).size = x1.length := bs_size x1
          obtain ⟨T, hT⟩ : ∃ S, Hid (bs x1 = S) := ⟨_, rfl⟩
          obtain ⟨n, hn⟩ : ∃ n, Hid (x1.length = n) := ⟨_, rfl⟩
          rw [hT.out] at c1' ss hne hzT SL1 htk
          rw [hn.out] at hzT SL1 e4 e6 e8
          rw [hS.out] at SL1 SL2
          rw [hN.out] at e4
          have kw2 : IntKind.i64.wrap ((y : Int) + (n : Int)) = ((y + n : Nat) : Int) := wrap_add y n (by have := HN2.out; omega)
          obtain ⟨z, hzz⟩ : ∃ z, Hid (y + n = z) := ⟨_, rfl⟩
          rw [hzz.out] at kw2 SL1 e4 e8
          have g1 : decide ((y : Int) < (q : Int)) = false := by simp; omega
          have g2 : decide ((N : Int) < (z : Int)) = false := by simp; omega
          have g3 : decide (y < q) = false := by simp; omega
          have g4 : decide (N < z) = false := by simp; omega
          have HK := Lib.hid hkl
          have E2 := Lib.hid e2; have E4 := Lib.hid e4; have E8 := Lib.hid e8; have HTK := Lib.hid htk
          clear hx hkl hk c0 c1 c2 c3 c4 hU hdk e2 e3 e4 e5 e6 e8 htk SG hT hn
          obtain ⟨ws, hws⟩ : ∃ S, Hid (wordsB (xs.take k) = S) := ⟨_, rfl⟩
          rw [hws.out] at RR HTK
          have HWL : Hid (ws.length = k) := by show _ = _; rw [← hws.out]; unfold wordsB; rw [List.length_map, List.length_take]; have := HK.out; have := hM.out; omega
          obtain ⟨aw, cw, rfl, hcw, hgw⟩ := RR.out.form
          obtain ⟨nl, hnl⟩ : ∃ n, Hid (ws.length = n) := ⟨_, rfl⟩
          rw [hnl.out] at RR ⊢
          clear hws hcw hgw
          go_upto_region 11 with fail
          have R4 := Lib.hid (Elem.Row.below RR.out (ba wo (.cells #[.int .u8 x0, .string T, .int .i64 x2, .int .i64 x3, .int .i64 (y : Int)] 48)))
          have B4 := Lib.hid (bt B.out (ba wo (.cells #[.int .u8 x0, .string T, .int .i64 x2, .int .i64 x3, .int .i64 (y : Int)] 48)))
          have X4 := Lib.hid (Five.new wo x0 T x2 x3 (y : Int))
          have RL := Lib.hid (fun g h => (RR.out.lt g h).2)
          have HI7 := Lib.hid B.out.size
          obtain ⟨wz, hwz⟩ : ∃ v, Hid (v = wo.alloc (.cells #[.int .u8 x0, .string T, .int .i64 x2, .int .i64 x3, .int .i64 (y : Int)] 48)) := ⟨_, rfl⟩
          obtain ⟨i7, hi7⟩ : ∃ v, Hid (wo.heap.size = v) := ⟨_, rfl⟩
          rw [← hwz.out] at R4 B4 X4 ⊢
          rw [hi7.out] at X4 RL ⊢
          rw [hi7.out] at HI7
          clear hwz hi7 RR B c0' c1' c2' c3' c4'
          have dr : Below wz.heap.size wz wz.drew := ⟨rfl, rfl, rfl, Nat.le_refl _, fun _ _ => rfl⟩
          have mk : ∀ w', Below wz.heap.size wz w' → w'.cell? ⟨i7, 1, none⟩ = some (.string T) ∧ w'.cell? ⟨i7, 4, none⟩ = some (.int .i64 (y : Int)) := fun w' h => ⟨(X4.out.below h).c1, (X4.out.below h).c4⟩
          have HS0 := mk wz.drew dr
          have TR' := TR wz.drew
          go_region_held3 (fun w' : World => w'.cell? ⟨i7, 1, none⟩ = some (.string T) ∧ w'.cell? ⟨i7, 4, none⟩ = some (.int .i64 (y : Int)))
            (first | with_reducible exact HS0 | with_reducible assumption)
            (first
              | (go_at_call 26; (with_reducible refine TR'.mono ?_); rintro e7 w7 ⟨rfl, q7⟩; have HS7 := mk w7 (bt dr q7); have B7 := Lib.hid (bt dr q7); clear q7 TR' TR))
          clear HS0 HS7 dr SL1 SL2
          go_upto_region 13 with fail
          have RA := Lib.hid (Elem.Row.below R4.out (bt (bt B7.out ((Below.refl w7.heap.size w7).drew)) (ba w7.drew (.cells #[.string T] 9))))
          have BA := Lib.hid (bt B4.out (bt (bt B7.out ((Below.refl w7.heap.size w7).drew)) (ba w7.drew (.cells #[.string T] 9))))
          have XA := Lib.hid (X4.out.below (bt (bt B7.out ((Below.refl w7.heap.size w7).drew)) (ba w7.drew (.cells #[.string T] 9))))
          have SRC : Hid (strE.Arg (w7.drew.alloc (.cells #[.string T] 9)) (.slice (some ⟨w7.heap.size, 0, none⟩) 1 1) [T]) := Elem.arg_one (E := strE) (w := w7.drew) T 9
          have HFL : Hid (ws.length + [T].length ≤ 1000001) := by have := HWL.out; have := HK.out; have := HLX.out; have := hM.out; show ws.length + 1 ≤ _; omega
          have HB := Lib.hid BA.out.size
          have HSD := mk w7.drew (bt B7.out ((Below.refl w7.heap.size w7).drew))
          have HSA : (w7.alloc (.cells #[.string T] 9)).drew.cell? ⟨i7, 1, none⟩ = some (.string T) ∧ (w7.alloc (.cells #[.string T] 9)).drew.cell? ⟨i7, 4, none⟩ = some (.int .i64 (y : Int)) := mk (w7.drew.alloc (.cells #[.string T] 9)) (bt (bt B7.out ((Below.refl w7.heap.size w7).drew)) (ba w7.drew _))
          clear mk R4 B4 X4 B7
          go_region_held3 (fun w' : World => w'.cell? ⟨i7, 1, none⟩ = some (.string T) ∧ w'.cell? ⟨i7, 4, none⟩ = some (.int .i64 (y : Int)))
            (first | with_reducible exact HSD | with_reducible exact HSA | with_reducible assumption)
            (first
              | (go_loud (refine Elem.step (E := strE) rfl _ _ rfl w1.heap.size (.slice aw nl cw) ws (.slice (some ⟨w7.heap.size, 0, none⟩) 1 1) [T] rfl rfl RA.out SRC.out HFL.out (by decide) HB.out ?_; intro v8 w8 r8 q8 l8; have x8 : Five w8 i7 x0 T x2 x3 (y : Int) := (q8.block i7 XA.out.lt (fun e => absurd (RL.out i7 e.symm) (Nat.lt_irrefl _))).trans XA.out; have HS8 := And.intro x8.c1 x8.c4; have R8 := Lib.hid r8; have B8 := Lib.hid (BA.out.grown q8 BA.out.size (fun z hz => (RA.out.lt z hz).1)); clear r8 q8 l8 x8)))
          clear HSD HSA HS8 RA BA XA SRC HFL HB
          go_wp2_with fail
          refine ⟨⟨k + 1, z, rfl, rfl, HK.out, E8, by show strE.Row _ _ _ (wordsB _); rw [HTK.out]; exact R8.out, B8.out⟩, ?_⟩
          show M - ((k : Int) + 1).toNat < M - ((k : Int)).toNat; have := HK.out; omega
        · have hke : k = M := by omega
          subst hke
          have i2 : decide ((k : Int) < (k : Int)) = false := by simp
          clear hkl hk
          have sg := SG.out
          rw [← hM.out, List.drop_length] at sg
          have RX := RR.out
          rw [← hM.out, List.take_length] at RX
          have J := join_is (w := wo) xs RX LB.out.2 (Nat.le_trans HLX.out (by decide))
          have HQ := Lib.hid sg.1
          have SL := slice_from l q (by have := HQ.out; omega)
          have TR := fun w => trim_blank (w := w) (l.drop q) (fun i hi => by
            rw [List.length_drop] at hi
            rw [List.getElem?_drop]
            exact sg.2 _ (by omega) (by omega)) (by rw [List.length_drop]; have := HN2.out; have := hN.out; omega)
          obtain ⟨U, hU⟩ : ∃ S, Hid (bs (l.drop q) = S) := ⟨_, rfl⟩
          rw [hU.out, hS.out] at SL
          rw [hU.out] at TR
          obtain ⟨T, hT⟩ : ∃ S, Hid (bs (joinT xs) = S) := ⟨_, rfl⟩
          have LX := fun w h => lex_at (w := w) (joinT xs) T hT.out (by have := LB.out.2; omega) h LB.out.1
          unfold LexPost at LX
          rw [hT.out] at J
          obtain ⟨ws, hws⟩ : ∃ S, Hid (wordsB xs = S) := ⟨_, rfl⟩
          obtain ⟨aw, cw, hv, hcw, hgw⟩ := RX.form
          clear hcw hgw
          subst hv
          have HLN : Hid ((wordsB xs).length = k) := by show _ = _; unfold wordsB; rw [List.length_map]; exact hM.out
          rw [HLN.out] at J ⊢
          have BB := Lib.hid B.out
          clear sg RX RR SG B hU hT hws
          have q0 : (0 : Int) ≤ (q : Int) := by omega
          have q1 : (q : Int) ≤ (N : Int) := by have := HQ.out; have := hN.out; omega
          go_upto_region 16 with (first
            | (go_at_call 27; (with_reducible refine J.mono ?_); rintro e2 w2 ⟨rfl, q2⟩; have B2 := Lib.hid (bt BB.out q2); have LX' := LX w2 (HE.out.env.below (bt B1.out B2.out)); clear q2 J LX)
            | (go_at_call 21; (with_reducible refine LX'.mono ?_); rintro e3 w3 ⟨v3, rfl, a3, q3⟩; have B3 := Lib.hid (bt B2.out q3); have A3 := Lib.hid a3; clear q3 a3 LX'))
          obtain ⟨ab, cb, hv3, h3⟩ := argT A3.out
          subst hv3
          rw [reT_len, hM.out]
          have H3 := Lib.hid h3
          have TR' := TR w3
          clear h3 TR A3 LB
          go_upto_region 18 with (go_at_call 26; (with_reducible refine TR'.mono ?_); rintro e4 w4 ⟨rfl, q4⟩; have B4 := Lib.hid (bt B3.out q4); have C4 := Lib.hid q4; clear q4 TR')
          go_wp2_with fail
          go_loopw [119] (fun i wr => ∃ (j : Nat), i = .int .i64 (j : Int) ∧ j ≤ k ∧ Hid (Below w4.heap.size w4 wr)) (fun i _ => k - (intOf i).toNat)
          case atStart => exact ⟨0, rfl, Nat.zero_le _, Below.refl _ _⟩
          case round =>
            obtain ⟨wo, rfl⟩ : ∃ wo : World, wo = wr := ⟨_, rfl⟩
            obtain ⟨j, rfl, hj, B⟩ := hrel
            by_cases hjl : j < k
            · obtain ⟨x, hx⟩ : ∃ x, xs[j]? = some x := ⟨_, List.getElem?_eq_getElem (by rw [hM.out]; exact hjl)⟩
              obtain ⟨pp, hx2⟩ := reT_get xs 0 j x hx
              obtain ⟨ba', oa, rfl, l1, c0, c1, c2, c3, _⟩ := H1.out j x hx
              obtain ⟨bb, ob, rfl, l2, d0, d1, d2', d3, _⟩ := H3.out j _ hx2
              have i0 : (0 : Int) ≤ (j : Int) := by omega
              have i1 : (j : Int) < (k : Int) := by omega
              have i3 : decide ((j : Int) < (k : Int)) = true := by simp; omega
              have BW := (bt B4.out B.out)
              have BX := (bt C4.out B.out)
              have c0' := (BW.cell (p := ⟨ba', _, none⟩) l1).trans c0; have c1' := (BW.cell (p := ⟨ba', _, none⟩) l1).trans c1; have c2' := (BW.cell (p := ⟨ba', _, none⟩) l1).trans c2; have c3' := (BW.cell (p := ⟨ba', _, none⟩) l1).trans c3
              have e0' := (BX.cell (p := ⟨bb, _, none⟩) l2).trans d0; have e1' := (BX.cell (p := ⟨bb, _, none⟩) l2).trans d1; have e2' := (BX.cell (p := ⟨bb, _, none⟩) l2).trans d2'; have e3' := (BX.cell (p := ⟨bb, _, none⟩) l2).trans d3
              have HK := Lib.hid hjl
              have kw : IntKind.i64.wrap ((j : Int) + 1) = (j : Int) + 1 := wrap1 j (by have := HLX.out; have := hM.out; omega)
              obtain ⟨x0, x1, x2, x3, x4⟩ := x
              have ss := self_toList (bs x1)
              simp only at c0' c1' c2' c3' e0' e1' e2' e3'
              obtain ⟨T, hT⟩ : ∃ S, Hid (bs x1 = S) := ⟨_, rfl⟩
              rw [hT.out] at c1' e1' ss
              clear hx hx2 hjl hj c0 c1 c2 c3 d0 d1 d2' d3 hT BW BX
              go_upto_region 21 with fail
              go_quiet (fail)
              go_wp2_with fail
              go_roundw
              case rel => exact ⟨j + 1, rfl, by have := HK.out; omega, below_drewN B.out _⟩
              case measure => show k - ((j : Int) + 1).toNat < k - ((j : Int)).toNat; have := HK.out; omega
            · have hje : j = k := by omega
              subst hje
              have i3 : decide ((j : Int) < (j : Int)) = false := by simp
              have BZ := Lib.hid (bt B1.out (bt B4.out B.out))
              have K := knownL_is (HE.out.below BZ.out)
              clear hjl hj
              go_wp2_with (go_at_call 20; (with_reducible refine K.mono ?_); rintro e9 w9 ⟨rfl, q9⟩; have B9 := Lib.hid (bt BZ.out q9); clear q9 K)
              go_ret
              exact ⟨rfl, B9.out⟩
    · have hx := lexP_bad hr.out hf
      subst hx
      have d3 : decide (f = 0) = false := by simpa using hf
      have d4 : (f == 0) = false := by simpa using hf
      have K := fun w => knownL_is (w := w)
      obtain ⟨S, hS⟩ : ∃ S, Hid (bs l = S) := ⟨_, rfl⟩
      rw [hS.out] at hz A ⊢
      clear h1 he hS hl hf
      go_enter Tryd.func7, Tryd.ntmps7
      go_upto_region 4 with (go_at_call 21; (with_reducible refine A.mono ?_); rintro e1 w1 ⟨v1, rfl, a1, q1⟩; obtain ⟨ao, cap, rfl, h1⟩ := argT a1; have B1 := Lib.hid q1; have K1 := K w1 (HE.out.below q1); clear q1 a1 h1 A K)
      go_wp2_with (go_at_call 20; (with_reducible refine K1.mono ?_); rintro e2 w2 ⟨rfl, q2⟩; have B2 := Lib.hid (bt B1.out q2); clear q2 K1)
      go_ret
      exact ⟨rfl, B2.out⟩
end Go.Proofs.YtfonpegkaajnkaaDoor.Lx
/-
  What the rows' condition gives: the library's tables, its number, its error.
-/
namespace Go.Proofs.YtfonpegkaajnkaaDoor.Lxb
open Go Go.RowKit Tx Lx
set_option maxRecDepth 100000 in
theorem env_of {W : World} (hL : laidMetH Tryd.prog Rows.lexerBackRow.laid W) (hS : W.ShapedOpen Tryd.prog) : EnvL W := by
  refine ⟨⟨?_, ?_, ?_⟩, ?_⟩
  · have h1 : laidMetH Tryd.prog [("internal/strconv.uint64pow10", Rows.laid_internal_strconv_uint64pow10)] W := laidMetH.filter (fun x => x.1 == "internal/strconv.uint64pow10") hL
    exact Lib.tabIs_of_head (rest := []) gTab (by kernel_rfl) Tryd.underlying181 Tryd.underlying89 (by kernel_rfl) (by kernel_rfl) h1
  · exact cell_of_shapedOpen_int (zero := #[.int .i64 0]) (t := 3) hS (of_decide_eq_true (by kernel_rfl)) (by kernel_rfl) (by kernel_rfl) (by kernel_rfl) (by kernel_rfl) Tryd.underlying3
  · have h1 : laidMetH Tryd.prog [("strconv.ErrRange", Rows.laid_strconv_ErrRange)] W := laidMetH.filter (fun x => x.1 == "strconv.ErrRange") hL
    exact iface_of_head (rest := []) (show Tryd.prog.globalNamed "strconv.ErrRange" = some 6 by kernel_rfl) (by kernel_rfl) Tryd.underlying77 h1
  · have h1 : laidMetH Tryd.prog [("strings.asciiSpace", Rows.laid_strings_asciiSpace)] W := laidMetH.filter (fun x => x.1 == "strings.asciiSpace") hL
    exact Lib.tabIs_of_head (rest := []) (show Tryd.prog.globalNamed "strings.asciiSpace" = some 0 by kernel_rfl) (by kernel_rfl) Tryd.underlying108 Tryd.underlying5 (by kernel_rfl) (by kernel_rfl) h1
end Go.Proofs.YtfonpegkaajnkaaDoor.Lxb
