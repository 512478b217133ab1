/-
  Names: the program's Name, walked; The document's Same of equal words; the known texts; LexerWords: walked; LexerWords: walked; A laid sentinel's cell; What the rows' condition gives: the library's tables, its number, its error.
-/
import Derived.Test.YtfonpegkaajnkaaDoorM45
import Derived.BigQuiet
import Derived.Laws.StructEq
import Derived.Deep.QuietTactic
import Derived.Test.YtfonpegkaajnkaaDoorRows
import Derived.Test.YtfonpegkaajnkaaDoorM4
import Derived.Lib.LaidTab
import Derived.LaidSub
import Derived.Shelf.Vars
/-
  Names: the program's Name, walked.
-/
namespace Go.Proofs.YtfonpegkaajnkaaDoor.Lx
open Go Go.RowKit Dt Tx
set_option linter.unusedSimpArgs false
set_option linter.unusedVariables false
attribute [local go_sem ↓] Go.wp_at_zero Go.wp_at_succ

structure EnvL (w : World) : Prop where
  env : Env w
  sp : Lib.TabIs Tryd.prog w "strings.asciiSpace" .u8 Lib.asciiSpaceTab
theorem EnvL.below {w w' : World} (h : EnvL w) (k : Below w.heap.size w w') : EnvL w' := by
  refine ⟨h.env.below k, ?_⟩
  have hg : Tryd.prog.globalNamed "strings.asciiSpace" = some 0 := by kernel_rfl
  have := h.sp
  unfold Lib.TabIs World.var? at this ⊢
  rw [hg] at this ⊢
  simp only [Option.bind_some] at this ⊢
  cases e : w.heap[0]? with
  | none => rw [e] at this; cases this
  | some o => rw [k.block _ (Array.getElem?_eq_some_iff.1 e).1, e]; rw [e] at this; exact this
def keptS : List UInt8 := [116, 114, 117, 101, 32, 102, 97, 108, 115, 101, 32, 97, 110, 100, 32, 111, 114, 32, 110, 111, 116, 32, 105, 102, 32, 109, 105, 110, 32, 109, 97, 120, 32, 97, 98, 115, 32, 114, 111, 117, 110, 100, 32, 104, 97, 115, 32, 111, 114, 101, 108, 115, 101, 32, 108, 97, 103, 32, 108, 101, 97, 115, 116, 32, 109, 111, 115, 116, 32, 97, 110, 121, 32, 101, 118, 101, 114, 121]
theorem fields_kept : Lib.fields keptS = keptW := by decide +kernel
theorem contains_bs (l : List UInt8) : Lib.containsS ((keptW.map bs).take 17) (bs l) = keptW.contains l := by
  rw [Bool.eq_iff_iff, Lib.containsS_iff, List.contains_iff_mem]
  rw [List.take_of_length_le (by simp [keptW])]
  constructor
  · intro h
    obtain ⟨y, hy, e⟩ := List.mem_map.1 h
    have := congrArg (fun x : ByteArray => x.data.toList) e
    simp only [bs_list] at this
    rw [← this]; exact hy
  · intro h
    exact List.mem_map.2 ⟨l, h, rfl⟩
set_option maxRecDepth 100000 in
set_option maxHeartbeats 2000000 in
theorem name_is {w : World} (l : List UInt8) (he : EnvL w) : Calls Tryd.prog 24 #[.string (bs l)] w (NmPost (nameP l) w) := by
  have HE := Lib.hid he
  have hz : (bs l).size = l.length := bs_size l
  have NM := named_is (w := w) l
  have FL := fun w (h : EnvL w) => Tryd.strings_Fields (bs keptS) w (by rw [bs_size]; decide) (by
    rw [bs_list]
    intro j b hb
    have hm := List.mem_of_getElem? hb
    have : ∀ b ∈ keptS, b.toNat < 128 := by decide
    exact this b hm) h.sp
  rw [bs_list, fields_kept] at FL
  have CN := fun (b : Nat) (w : World) hc => Tryd.slices_Contains_string b 0 17 17 (keptW.map bs) (bs l) w (by simp [keptW]) (by decide) hc
  rw [contains_bs] at CN
  obtain ⟨N, hN⟩ : ∃ N, Hid (l.length = N) := ⟨_, rfl⟩
  rw [hN.out] at hz
  have ht : (bs l).toList = l := bs_toList l
  unfold NmPost
  by_cases h0 : l = []
  · subst h0
    rw [name_nil]
    clear CN FL NM hz hN ht he
    simp only [bs]
    go_enter Tryd.func24, Tryd.ntmps24
    go_wp2_with fail
    go_ret
    exact ⟨rfl, Below.refl _ _⟩
  · have hne : ((bs l).toList == []) = false := by rw [ht]; exact beq_eq_false_iff_ne.2 h0
    have hne2 : (bs l).toList.isEmpty = false := by rw [ht]; simpa using h0
    have hpos : 0 < N := by rw [← hN.out]; exact List.length_pos_iff.2 h0
    obtain ⟨x, hx⟩ : ∃ x, l[0]? = some x := ⟨_, List.getElem?_eq_getElem (by rw [hN.out]; omega)⟩
    have kc : ∀ w, (Instr.index 9 (.string (bs l)) (.int .i64 0)).run Tryd.prog w = .ok (.int .u8 (x.toNat : Int)) w := at_byte l 0 x hx
    obtain ⟨S, hS⟩ : ∃ S, Hid (bs l = S) := ⟨_, rfl⟩
    rw [hS.out] at hz NM CN kc hne hne2 ⊢
    have hpos2 : (0 : Int) < (N : Int) := by omega
    clear ht h0
    by_cases h12 : N ≤ 12
    · have k1 : decide ((N : Int) ≤ 12) = true := by simp; omega
      have k2 : decide (N ≤ 12) = true := by simpa using h12
      have LT := fun w => letter_is x w
      obtain ⟨y, hy⟩ : ∃ y, Hid (x.toNat = y) := ⟨_, rfl⟩
      rw [hy.out] at LT kc
      cases hlo : isLo x
      · rw [hlo] at LT
        rw [name_first (by rw [hx]; exact hlo)]
        clear hS hN h12 hx hlo hy CN FL NM he
        go_enter Tryd.func24, Tryd.ntmps24
        go_wp2_with (go_at_call 41; (with_reducible refine (LT _).mono ?_); rintro e1 w1 ⟨rfl, hq⟩; obtain rfl := hq.symm; clear LT)
        go_ret
        exact ⟨rfl, Below.refl _ _⟩
      · rw [hlo] at LT
        obtain ⟨n, hn⟩ : ∃ n, Hid (wh isAl l = n) := ⟨_, rfl⟩
        rw [hn.out] at NM
        by_cases hw : n = N
        · subst hw
          have E : nameP l = !keptW.contains l := by
            unfold nameP
            rw [hx, hn.out, hN.out]
            simp [hlo, h12, hpos]
          rw [E]
          obtain ⟨kp, hkp⟩ : ∃ b, Hid (keptW.contains l = b) := ⟨_, rfl⟩
          rw [hkp.out] at CN ⊢
          clear E hS hN h12 hx hlo hy hn hkp he
          go_enter Tryd.func24, Tryd.ntmps24
          go_wp2_with (first
            | (go_at_call 41; (with_reducible refine (LT _).mono ?_); rintro e1 w1 ⟨rfl, hq⟩; obtain rfl := hq.symm; clear LT)
            | (go_at_call 42; (with_reducible refine NM.mono ?_); rintro e2 w2 ⟨rfl, q2⟩; have B2 := Lib.hid q2; have FL2 := FL w2 (HE.out.below B2.out); clear q2 NM FL)
            | (go_at_call 44; (refine FL2.mono ?_); rintro e3 w3 ⟨rfl, hq3⟩; have B3 := Lib.hid (show Below w2.heap.size w2 w3 by rw [hq3]; exact ba _ _); have CN3 := CN w2.heap.size w3 (fun j hj => by rw [hq3, Nat.zero_add, cell_of_row _ _ _ _ _ (0, 0) (heap_alloc_new w2 _)]; simp only [List.length_map] at hj; simp [List.getD, List.getElem?_map, List.getElem?_eq_getElem hj]; rfl); clear FL2 CN hq3)
            | (go_at_call 43; (refine CN3.mono ?_); rintro e4 w4 ⟨rfl, hq4⟩; obtain rfl := hq4.symm; clear CN3))
          go_ret
          exact ⟨rfl, bt B2.out B3.out⟩
        · have c1 : decide ((n : Int) = (N : Int)) = false := by simp; omega
          have c2 : ((n : Int) == (N : Int)) = false := by simp; omega
          have c3 : decide (n = N) = false := by simpa using hw
          rw [name_wh (by rw [hn.out, hN.out]; exact hw)]
          clear hS hN h12 hx hlo hy hn CN FL he hw
          go_enter Tryd.func24, Tryd.ntmps24
          go_wp2_with (first
            | (go_at_call 41; (with_reducible refine (LT _).mono ?_); rintro e1 w1 ⟨rfl, hq⟩; obtain rfl := hq.symm; clear LT)
            | (go_at_call 42; (with_reducible refine NM.mono ?_); rintro e2 w2 ⟨rfl, q2⟩; have B2 := Lib.hid q2; clear q2 NM))
          go_ret
          exact ⟨rfl, B2.out⟩
    · have k1 : decide ((N : Int) ≤ 12) = false := by simp; omega
      have k2 : decide (N ≤ 12) = false := by simpa using h12
      rw [name_long (by rw [hN.out]; omega)]
      clear hS hN h12 hx kc CN FL NM he
      go_enter Tryd.func24, Tryd.ntmps24
      go_wp2_with fail
      go_ret
      exact ⟨rfl, Below.refl _ _⟩
end Go.Proofs.YtfonpegkaajnkaaDoor.Lx
/-
  The document's Same of equal words; the known texts; LexerWords: walked.
-/
namespace Go.Proofs.YtfonpegkaajnkaaDoor.Lx
open Go Go.RowKit Dt Tx
set_option linter.unusedSimpArgs false
set_option linter.unusedVariables false
attribute [local go_sem ↓] Go.wp_at_zero Go.wp_at_succ

theorem below_drewN {n : Nat} {w w' : World} (h : Below n w w') : ∀ q, Below n w (w'.drewN q)
  | 0 => h
  | q + 1 => ⟨h.os, h.tape, h.output, h.size, h.block⟩
theorem argT {w : World} {v : Value} {xs : List Tok} (h : tokE.Arg w v xs) : ∃ (ao : Option Addr) (cap : Nat), v = .slice ao xs.length cap ∧ ∀ (i : Nat) (x : Tok), xs[i]? = some x → ∃ b o : Nat, ao = some ⟨b, o, none⟩ ∧ b < w.heap.size ∧
    w.cell? ⟨b, o + i * 5, none⟩ = some (.int .u8 x.k) ∧ w.cell? ⟨b, o + i * 5 + 1, none⟩ = some (.string (bs x.t)) ∧ w.cell? ⟨b, o + i * 5 + 2, none⟩ = some (.int .i64 x.c) ∧ w.cell? ⟨b, o + i * 5 + 3, none⟩ = some (.int .i64 x.s) ∧ w.cell? ⟨b, o + i * 5 + 4, none⟩ = some (.int .i64 x.p) := by
  obtain ⟨ao, cap, e, _, h⟩ := h
  refine ⟨ao, cap, e, fun i x hx => ?_⟩
  obtain ⟨b, o, h1, h2, h3⟩ := h i x hx
  exact ⟨b, o, h1, h2, h3 0 _ rfl, h3 1 _ rfl, h3 2 _ rfl, h3 3 _ rfl, h3 4 _ rfl⟩
set_option maxRecDepth 100000 in
set_option maxHeartbeats 2000000 in
theorem tsame_is {w : World} {va vb : Value} {xs : List Tok} (ha : tokE.Arg w va xs) (hb : tokE.Arg w vb xs) (hl : xs.length ≤ 1000000) :
    Calls Tryd.prog 23 #[va, vb] w fun e w' => e = .returned (.bool true) ∧ Below w.heap.size w w' := by
  obtain ⟨aa, ca, rfl, h1⟩ := argT ha
  obtain ⟨ab, cb, rfl, h2⟩ := argT hb
  have HA := Lib.hid h1; have HB := Lib.hid h2; have HL := Lib.hid hl
  obtain ⟨N, hN⟩ : ∃ N, Hid (xs.length = N) := ⟨_, rfl⟩
  rw [hN.out]
  clear ha hb h1 h2 hl
  go_enter Tryd.func23, Tryd.ntmps23
  go_wp2_with fail
  go_loopw [5] (fun i wr => ∃ (k : Nat), i = .int .i64 (k : Int) ∧ k ≤ N ∧ Hid (Below w.heap.size w wr)) (fun i _ => N - (intOf i).toNat)
  case atStart => exact ⟨0, rfl, by omega, Below.refl _ _⟩
  case round =>
    obtain ⟨wo, rfl⟩ : ∃ wo : World, wo = wr := ⟨_, rfl⟩
    obtain ⟨k, rfl, hk, B⟩ := hrel
    by_cases hkl : k < N
    · obtain ⟨x, hx⟩ : ∃ x, xs[k]? = some x := ⟨_, List.getElem?_eq_getElem (by rw [hN.out]; exact hkl)⟩
      obtain ⟨ba', oa, rfl, l1, c0, c1, c2, c3, c4⟩ := HA.out k x hx
      obtain ⟨bb, ob, rfl, l2, d0, d1, d2, d3, d4⟩ := HB.out k x hx
      have i0 : (0 : Int) ≤ (k : Int) := by omega
      have i1 : (k : Int) < (N : Int) := by omega
      have i2 : decide ((k : Int) < (N : Int)) = true := by simp; omega
      have c0' := (B.out.cell (p := ⟨ba', _, none⟩) l1).trans c0; have c1' := (B.out.cell (p := ⟨ba', _, none⟩) l1).trans c1; have c2' := (B.out.cell (p := ⟨ba', _, none⟩) l1).trans c2; have c3' := (B.out.cell (p := ⟨ba', _, none⟩) l1).trans c3; have c4' := (B.out.cell (p := ⟨ba', _, none⟩) l1).trans c4
      have d0' := (B.out.cell (p := ⟨bb, _, none⟩) l2).trans d0; have d1' := (B.out.cell (p := ⟨bb, _, none⟩) l2).trans d1; have d2' := (B.out.cell (p := ⟨bb, _, none⟩) l2).trans d2; have d3' := (B.out.cell (p := ⟨bb, _, none⟩) l2).trans d3; have d4' := (B.out.cell (p := ⟨bb, _, none⟩) l2).trans d4
      have HK := Lib.hid hkl
      have kw : IntKind.i64.wrap ((k : Int) + 1) = (k : Int) + 1 := wrap1 k (by have := HL.out; have := hN.out; omega)
      have ss := self_toList (bs x.t)
      obtain ⟨S, hS⟩ : ∃ S, Hid (bs x.t = S) := ⟨_, rfl⟩
      rw [hS.out] at c1' d1' ss
      obtain ⟨x0, x1, x2, x3, x4⟩ := x
      clear hx hkl hk c0 c1 d0 d1 c2 c3 c4 d2 d3 d4 hS
      dsimp only at c0' c1' c2' c3' c4' d0' d1' d2' d3' d4'
      go_upto_region 6 with fail
      go_quiet (fail)
      go_wp2_with fail
      go_roundw
      case rel => exact ⟨k + 1, rfl, by have := HK.out; omega, below_drewN B.out _⟩
      case measure => show N - ((k : Int) + 1).toNat < N - ((k : Int)).toNat; have := HK.out; omega
    · have hke : k = N := by omega
      subst hke
      have i2 : decide ((k : Int) < (k : Int)) = false := by simp
      clear hkl hk
      go_wp2_with fail
      go_ret
      exact ⟨rfl, B.out⟩
theorem lex_at {w : World} (L : List UInt8) (S : ByteArray) (hS : bs L = S) (hl : L.length ≤ 1000) (he : Env w) {r : List Tok × Int × Int} (h : lexP L = r) : Calls Tryd.prog 21 #[.string S] w (LexPost r w) := by
  rw [← hS, ← h]; exact lex_is L hl he
theorem name_at {w : World} (L : List UInt8) (S : ByteArray) (hS : bs L = S) (he : EnvL w) {b : Bool} (h : nameP L = b) : Calls Tryd.prog 24 #[.string S] w (NmPost b w) := by
  rw [← hS, ← h]; exact name_is L he
set_option maxRecDepth 100000 in
set_option maxHeartbeats 2000000 in
theorem knownL_is {w : World} (he : EnvL w) : Calls Tryd.prog 20 #[] w fun e w' => e = .returned (.bool true) ∧ Below w.heap.size w w' := by
  have HE := Lib.hid he
  have L1 := fun w (h : EnvL w) => lex_at (w := w) [97, 49, 60, 61, 50, 46, 53] ⟨#[97, 49, 60, 61, 50, 46, 53]⟩ rfl (by decide) h.env (show lexP _ = ([⟨1, [97, 49], 0, 0, 0⟩, ⟨3, [60, 61], 0, 0, 2⟩, ⟨2, [50, 46, 53], 25, 1, 4⟩], 0, 0) by decide +kernel)
  have L2 := fun w (h : EnvL w) => lex_at (w := w) [97, 49, 60, 61, 50, 46, 53, 48] ⟨#[97, 49, 60, 61, 50, 46, 53, 48]⟩ rfl (by decide) h.env (show lexP _ = ([], 4, 4) by decide +kernel)
  have L3 := fun w (h : EnvL w) => lex_at (w := w) [97, 32, 35, 32, 98] ⟨#[97, 32, 35, 32, 98]⟩ rfl (by decide) h.env (show lexP _ = ([], 2, 4) by decide +kernel)
  have N1 := fun w (h : EnvL w) => name_at (w := w) [97, 49] ⟨#[97, 49]⟩ rfl h (show nameP _ = true by decide +kernel)
  have N2 := fun w (h : EnvL w) => name_at (w := w) [108, 97, 103] ⟨#[108, 97, 103]⟩ rfl h (show nameP _ = false by decide +kernel)
  unfold LexPost at L1 L2 L3
  unfold NmPost at N1 N2
  have L1' := L1 w he
  clear he L1
  go_enter Tryd.func20, Tryd.ntmps20
  go_upto_region 2 with (go_at_call 21; (with_reducible refine L1'.mono ?_); rintro e1 w1 ⟨v1, rfl, a1, q1⟩; obtain ⟨ao, cap, rfl, h1⟩ := argT a1; have B1 := Lib.hid q1; have H1 := Lib.hid h1; have L2' := L2 w1 (HE.out.below B1.out); clear q1 a1 h1 L1' L2)
  go_upto_region 3 with (go_at_call 21; (with_reducible refine L2'.mono ?_); rintro e2 w2 ⟨v2, rfl, _, q2⟩; have C2 := Lib.hid q2; have B2 := Lib.hid (bt B1.out q2); have L3' := L3 w2 (HE.out.below B2.out); clear q2 L2' L3)
  obtain ⟨b, o, rfl, l1, _, t1, _⟩ := H1.out 1 _ rfl
  obtain ⟨_, _, e, _, _, _, u2, u3, u4⟩ := H1.out 2 _ rfl
  cases e
  simp only at t1 u2 u3 u4
  have T1 := Lib.hid t1; have U2 := Lib.hid u2; have U3 := Lib.hid u3; have U4 := Lib.hid u4; have LL := Lib.hid l1
  clear t1 u2 u3 u4 l1 H1
  go_upto_region 4 with (go_at_call 21; (with_reducible refine L3'.mono ?_); rintro e3 w3 ⟨v3, rfl, _, q3⟩; have C3 := Lib.hid (bt C2.out q3); have B3 := Lib.hid (bt B2.out q3); have N1' := N1 w3 (HE.out.below B3.out); have t1 := (C3.out.cell (p := ⟨b, _, none⟩) LL.out).trans T1.out; have u2 := (C3.out.cell (p := ⟨b, _, none⟩) LL.out).trans U2.out; have u3 := (C3.out.cell (p := ⟨b, _, none⟩) LL.out).trans U3.out; have u4 := (C3.out.cell (p := ⟨b, _, none⟩) LL.out).trans U4.out; clear q3 L3' N1)
  simp only [bs] at t1
  go_wp2_with (first
    | (go_at_call 24; (with_reducible refine N1'.mono ?_); rintro e4 w4 ⟨rfl, q4⟩; have B4 := Lib.hid (bt B3.out q4); have N2' := N2 w4 (HE.out.below B4.out); clear q4 N1' N2)
    | (go_at_call 24; (with_reducible refine N2'.mono ?_); rintro e5 w5 ⟨rfl, q5⟩; have B5 := Lib.hid (bt B4.out q5); clear q5 N2'))
  go_ret
  exact ⟨rfl, B5.out⟩
end Go.Proofs.YtfonpegkaajnkaaDoor.Lx
/-
  LexerWords: walked.
-/
namespace Go.Proofs.YtfonpegkaajnkaaDoor.Lx
open Go Go.RowKit Dt Tx
set_option linter.unusedSimpArgs false
set_option linter.unusedVariables false
attribute [local go_sem ↓] Go.wp_at_zero Go.wp_at_succ

theorem lexF_len (l : List UInt8) : ∀ (n at_ : Nat) (acc : List Tok), (lexF l n at_ acc).1.length ≤ acc.length + n
  | 0, _, acc => by simp [lexF]
  | n + 1, at_, acc => by
    simp only [lexF]
    split
    · simp only; omega
    · split
      · have := lexF_len l n (at_ + 1) acc; omega
      · split
        · refine Nat.le_trans (lexF_len l n _ _) ?_
          rw [List.length_append]; simp only [List.length_cons, List.length_nil]; omega
        · simp
theorem lexP_len {l : List UInt8} (h : l.length ≤ 1000) : (lexP l).1.length ≤ 1000 := by
  unfold lexP
  split
  · simp
  · have := lexF_len l l.length 0 []
    simp only [List.length_nil] at this
    omega
set_option maxRecDepth 100000 in
set_option maxHeartbeats 4000000 in
theorem words_law {w : World} (s t : ByteArray) (he : EnvL w) : Calls Tryd.prog 6 #[.string s, .string t] w fun e w' => e = .returned (.bool true) ∧ Below w.heap.size w w' := by
  obtain ⟨l, rfl⟩ : ∃ l, bs l = s := ⟨_, bs_of s⟩
  obtain ⟨m, rfl⟩ : ∃ l, bs l = t := ⟨_, bs_of t⟩
  have hz : (bs l).size = l.length := bs_size l
  have hy : (bs m).size = m.length := bs_size m
  obtain ⟨N, hN⟩ : ∃ N, Hid (l.length = N) := ⟨_, rfl⟩
  obtain ⟨M, hM⟩ : ∃ N, Hid (m.length = N) := ⟨_, rfl⟩
  rw [hN.out] at hz
  rw [hM.out] at hy
  have HE := Lib.hid he
  by_cases h1 : 500 < N
  · have d1 : decide (500 < N) = true := by simpa using h1
    have d2 : decide ((500 : Int) < (N : Int)) = true := by simp; omega
    have K := knownL_is he
    obtain ⟨S, hS⟩ : ∃ S, Hid (bs l = S) := ⟨_, rfl⟩
    obtain ⟨T, hT⟩ : ∃ S, Hid (bs m = S) := ⟨_, rfl⟩
    rw [hS.out] at hz ⊢
    rw [hT.out] at hy ⊢
    clear h1 he hS hT
    go_enter Tryd.func6, Tryd.ntmps6
    go_wp2_with (go_at_call 20; (with_reducible refine K.mono ?_); rintro e w1 ⟨rfl, b1⟩; have B1 := Lib.hid b1; clear b1)
    go_ret
    exact ⟨rfl, B1.out⟩
  · have d1 : decide (500 < N) = false := by simpa using h1
    have d2 : decide ((500 : Int) < (N : Int)) = false := by simp; omega
    by_cases h2 : 100 < M
    · have d3 : decide (100 < M) = true := by simpa using h2
      have d4 : decide ((100 : Int) < (M : Int)) = true := by simp; omega
      have K := knownL_is he
      obtain ⟨S, hS⟩ : ∃ S, Hid (bs l = S) := ⟨_, rfl⟩
      obtain ⟨T, hT⟩ : ∃ S, Hid (bs m = S) := ⟨_, rfl⟩
      rw [hS.out] at hz ⊢
      rw [hT.out] at hy ⊢
      clear h1 h2 he hS hT
      go_enter Tryd.func6, Tryd.ntmps6
      go_wp2_with (go_at_call 20; (with_reducible refine K.mono ?_); rintro e w1 ⟨rfl, b1⟩; have B1 := Lib.hid b1; clear b1)
      go_ret
      exact ⟨rfl, B1.out⟩
    · have d3 : decide (100 < M) = false := by simpa using h2
      have d4 : decide ((100 : Int) < (M : Int)) = false := by simp; omega
      have hl : l.length ≤ 1000 := by rw [hN.out]; omega
      have hm : m.length ≤ 1000 := by rw [hM.out]; omega
      have A := lex_is l hl he.env
      have R := fun w => rlex_is (w := w) l hl
      have NA := fun w h => name_is (w := w) m h
      have NR := fun w => rname_is (w := w) m hm
      have LL := Lib.hid (lexP_len hl)
      unfold LexPost at A R
      unfold NmPost at NA NR
      obtain ⟨⟨xs, p, f⟩, hr⟩ : ∃ r, Hid (lexP l = r) := ⟨_, rfl⟩
      rw [hr.out] at A R LL
      simp only at A R LL
      obtain ⟨b, hb⟩ : ∃ b, Hid (nameP m = b) := ⟨_, rfl⟩
      rw [hb.out] at NA NR
      obtain ⟨S, hS⟩ : ∃ S, Hid (bs l = S) := ⟨_, rfl⟩
      obtain ⟨T, hT⟩ : ∃ S, Hid (bs m = S) := ⟨_, rfl⟩
      rw [hS.out] at hz A R ⊢
      rw [hT.out] at hy NA NR ⊢
      clear h1 h2 he hS hT hl hm hr hb
      go_enter Tryd.func6, Tryd.ntmps6
      go_upto_region 5 with (first
        | (go_at_call 21; (with_reducible refine A.mono ?_); rintro e1 w1 ⟨v1, rfl, a1, q1⟩; have B1 := Lib.hid q1; have A1 := Lib.hid a1; clear q1 a1 A)
        | (go_at_call 22; (with_reducible refine (R _).mono ?_); rintro e2 w2 ⟨v2, rfl, a2, q2⟩; have A2 := Lib.hid (A1.out.below q2); have B2 := Lib.hid (bt B1.out q2); have A3 := Lib.hid a2; clear q2 a2 R))
      have SAME := tsame_is A2.out A3.out (by have := LL.out; show xs.length ≤ 1000000; exact Nat.le_trans this (by decide))
      go_wp2_with (first
        | (go_at_call 23; (with_reducible refine SAME.mono ?_); rintro e3 w3 ⟨rfl, q3⟩; have B3 := Lib.hid (bt B2.out q3); have NA3 := NA w3 (HE.out.below B3.out); clear q3 SAME NA)
        | (go_at_call 24; (with_reducible refine NA3.mono ?_); rintro e4 w4 ⟨rfl, q4⟩; have B4 := Lib.hid (bt B3.out q4); clear q4 NA3)
        | (go_at_call 25; (with_reducible refine (NR _).mono ?_); rintro e5 w5 ⟨rfl, q5⟩; have B5 := Lib.hid (bt B4.out q5); have K := knownL_is (HE.out.below B5.out); clear q5 NR)
        | (go_at_call 20; (with_reducible refine K.mono ?_); rintro e9 w9 ⟨rfl, q9⟩; have B9 := Lib.hid (bt B5.out q9); clear q9 K))
      go_ret
      exact ⟨rfl, B9.out⟩
end Go.Proofs.YtfonpegkaajnkaaDoor.Lx
/-
  A laid sentinel's cell.
-/
namespace Go.Proofs.YtfonpegkaajnkaaDoor.Tx
open Go Go.RowKit
theorem iface_of_trod {H : Type} {enc : TypeId × Value → H} {P : Program} {w : World} {base : Nat} {sp : Nat → Bool} {held : Bool} {fuel : Nat} {t : TypeId} {cs : List Value} {x} {n : String} {d : DataW H} {p : List MemPlace}
    (ht : P.underlying t = some (.interface x)) (h : DataW.trod enc P w base sp held fuel t cs = some (.iface n d, p)) : ∃ u v, cs = [.iface u v] := by
  cases fuel with
  | zero => simp [DataW.trod] at h
  | succ fuel =>
    match cs, h with
    | [], h => simp [DataW.trod, ht] at h
    | [v], h => cases v <;> simp [DataW.trod, ht] at h ⊢
    | a :: b :: r, h => simp [DataW.trod, ht] at h
theorem iface_of_head {P : Program} {W : World} {name : String} {n : String} {d : DataW Unit} {rest : List (String × DataW Unit)} {g : Nat} {t : TypeId} {x}
    (hg : P.globalNamed name = some g) (hty : (P.globals[g]?).map (·.type) = some t) (ht : P.underlying t = some (.interface x))
    (h : laidMet P ((name, .iface n d) :: rest) W) : ∃ u v, W.cell? ⟨g, 0, none⟩ = some (.iface u v) := by
  obtain ⟨ps, ⟨g', t', cs, fuel, p, q, hg', ht', hvar, hd, _, _⟩, _⟩ := h
  obtain rfl := Option.some.inj (hg.symm.trans hg')
  obtain rfl := Option.some.inj (hty.symm.trans ht')
  obtain ⟨u, v, hcs⟩ := iface_of_trod ht hd
  refine ⟨u, v, ?_⟩
  have e : cs = #[.iface u v] := Array.ext' hcs
  rw [e] at hvar
  exact World.var?_cell hg hvar 0
end Go.Proofs.YtfonpegkaajnkaaDoor.Tx
/-
  What the rows' condition gives: the library's tables, its number, its error.
-/
namespace Go.Proofs.YtfonpegkaajnkaaDoor.Lx
open Go Go.RowKit Tx
set_option maxRecDepth 100000 in
theorem env_of {W : World} (hL : laidMetH Tryd.prog Rows.lexerWordsRow.laid W) (hS : W.ShapedOpen Tryd.prog) : EnvL W := by
  refine ⟨⟨?_, ?_, ?_⟩, ?_⟩
  · have h1 : laidMetH Tryd.prog [("internal/strconv.uint64pow10", Rows.laid_internal_strconv_uint64pow10)] W := laidMetH.filter (fun x => x.1 == "internal/strconv.uint64pow10") hL
    exact Lib.tabIs_of_head (rest := []) gTab (by kernel_rfl) Tryd.underlying181 Tryd.underlying89 (by kernel_rfl) (by kernel_rfl) h1
  · exact cell_of_shapedOpen_int (zero := #[.int .i64 0]) (t := 3) hS (of_decide_eq_true (by kernel_rfl)) (by kernel_rfl) (by kernel_rfl) (by kernel_rfl) (by kernel_rfl) Tryd.underlying3
  · have h1 : laidMetH Tryd.prog [("strconv.ErrRange", Rows.laid_strconv_ErrRange)] W := laidMetH.filter (fun x => x.1 == "strconv.ErrRange") hL
    exact iface_of_head (rest := []) (show Tryd.prog.globalNamed "strconv.ErrRange" = some 6 by kernel_rfl) (by kernel_rfl) Tryd.underlying77 h1
  · have h1 : laidMetH Tryd.prog [("strings.asciiSpace", Rows.laid_strings_asciiSpace)] W := laidMetH.filter (fun x => x.1 == "strings.asciiSpace") hL
    exact Lib.tabIs_of_head (rest := []) (show Tryd.prog.globalNamed "strings.asciiSpace" = some 0 by kernel_rfl) (by kernel_rfl) Tryd.underlying108 Tryd.underlying5 (by kernel_rfl) (by kernel_rfl) h1
end Go.Proofs.YtfonpegkaajnkaaDoor.Lx
