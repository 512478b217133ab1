/-
  avl: AvlOrder's walk.
-/
import Derived.Test.YtpgmndbmcciniaaAvlLess
namespace Go.Proofs.Ytpgmndbmcciniaa.Av
open Go Go.RowKit
set_option linter.unusedSimpArgs false
set_option linter.unusedVariables false
attribute [local go_sem ↓] Go.wp_at_zero Go.wp_at_succ

set_option maxRecDepth 100000 in
set_option maxHeartbeats 4000000 in
theorem order_main (vl vm : Value) (l m : List It) (w : World) (hl : ArgT w vl l) (hm : ArgT w vm m) (h1 : l.length ≤ 100) (h2 : m.length ≤ 100) : Calls Try.prog 4 #[vl, vm] w fun e w' => e = .returned (.bool true) ∧ Below w.heap.size w w' := by
  obtain ⟨al, cl, rfl, hcl, cel⟩ := hl
  obtain ⟨am, cm, rfl, hcm, cem⟩ := hm
  have CL := Lib.hid cel
  have CM := Lib.hid cem
  have HL := Lib.hid h1
  have HM := Lib.hid h2
  have d1 : decide ((100 : Int) < (l.length : Int)) = false := by simp; omega
  have d2 : decide ((100 : Int) < (m.length : Int)) = false := by simp; omega
  have d3 : decide (100 < l.length) = false := by simp; omega
  have d4 : decide (100 < m.length) = false := by simp; omega
  clear cel cem h1 h2 hcl hcm
  go_enter Try.func4, Try.ntmps4
  go_upto_region 7 with (first
    | (go_at_call 8; (with_reducible refine (new_is (w := w) (B := w.heap.size) (by omega) (by omega) (Nat.le_refl _)).mono ?_); rintro e w1 ⟨rfl, t1, b1⟩; have T1 := Lib.hid t1; have B1 := Lib.hid b1; clear t1 b1)
    | (go_at_call 8; (with_reducible refine (new_is (w := w1) (B := w.heap.size) (by omega) (by omega) B1.out.size).mono ?_); rintro e w2 ⟨rfl, t2, b2⟩; have T2 := Lib.hid t2; have B2 := Lib.hid b2; clear t2 b2))
  clear d1 d2 d3 d4
  have TW : Two w w2 w.heap.size w1.heap.size [] [] (.slice none 0 0) [] := by
    have hs := T1.out.lt w.heap.size rfl
    exact ⟨_, _, T1.out.but (Below.but B2.out (fun _ => False)) (fun _ _ z => z), T2.out, fun k (y : k = _) (z : k = _) => by omega, fun k (y : k = _) => by omega, fun k (y : k = _) => by omega, World.ownsRow_nil _ _ _ _, fun k hk => by simp [Value.ownBlock] at hk, bt B1.out B2.out⟩
  replace TW := Lib.hid TW
  obtain ⟨a, ha⟩ : ∃ a, Hid (w.heap.size = a) := ⟨_, rfl⟩
  obtain ⟨b, hb⟩ : ∃ b, Hid (w1.heap.size = b) := ⟨_, rfl⟩
  rw [ha.out, hb.out] at TW ⊢
  clear T1 B1 T2 B2 ha hb
  go_wp2_with fail
  go_loopw [53] (fun i wr => ∃ (k : Nat) (La : List It), i = .int .i64 (k : Int) ∧ k ≤ l.length ∧ Hid (Two w wr a b La [] (.slice none 0 0) []) ∧ Hid (S1 l La k)) (fun i _ => l.length - (intOf i).toNat)
  case atStart => exact ⟨0, [], rfl, by omega, TW.out, s1_start l⟩
  case round =>
    obtain ⟨wo, rfl⟩ : ∃ wo : World, wo = wr := ⟨_, rfl⟩
    clear TW
    obtain ⟨k, La, rfl, hk, TW, SA⟩ := hrel
    by_cases hkl : k < l.length
    · obtain ⟨x, hx⟩ : ∃ x, l[k]? = some x := ⟨_, List.getElem?_eq_getElem hkl⟩
      obtain ⟨bl, ol, rfl, hbl, c0, c1, c2⟩ := CL.out k x hx
      have e0 := (TW.out.bel.cell (p := ⟨bl, _, none⟩) hbl).trans c0
      have e1 := (TW.out.bel.cell (p := ⟨bl, _, none⟩) hbl).trans c1
      have e2 := (TW.out.bel.cell (p := ⟨bl, _, none⟩) hbl).trans c2
      have i0 : (0 : Int) ≤ (k : Int) := by omega
      have i1 : (k : Int) < ((l.length : Nat) : Int) := by omega
      have SB := Lib.hid (s1_step SA.out hx (by have := HL.out; omega))
      have HK := Lib.hid hkl
      have kw : IntKind.i64.wrap ((k : Int) + 1) = (k : Int) + 1 := by rw [IntWalk.i64_left]; exact IntWalk.wrap64_in _ (by have := HL.out; omega)
      have A1 := two_insA (x := x) (TW.out.below (ba wo (Obj.cells #[.int .i64 x.f, .int .i64 x.t, .int .i64 x.i] 33)))
      clear hx c0 c1 c2 hbl hk
      go_wp2_with (go_at_call 9; (with_reducible refine A1.mono ?_); rintro e w5 ⟨rfl, t5⟩; have T5 := Lib.hid t5; clear t5 A1)
      go_roundw
      case rel => exact ⟨k + 1, (putA 200 x La).2, rfl, by have := HK.out; omega, T5.out, SB.out⟩
      case measure => show _ - ((k : Int) + 1).toNat < _ - ((k : Int)).toNat; have := HK.out; omega
    · have hke : k = l.length := by omega
      subst hke
      clear hkl hk
      go_wp2_with fail
      go_loopw [11, 63] (fun mv i wr => ∃ (k : Nat) (Lb mine : List It) (ao : Option Addr) (cap : Nat), mv = .slice ao mine.length cap ∧ i = .int .i64 (k : Int) ∧ k ≤ m.length ∧ Hid (Two w wr a b La Lb (.slice ao mine.length cap) mine) ∧ Hid (S2 m Lb mine k)) (fun _ i _ => m.length - (intOf i).toNat)
      case atStart => exact ⟨0, [], [], none, 0, rfl, rfl, by omega, TW.out, s2_start m⟩
      case round =>
        obtain ⟨wo, rfl⟩ : ∃ wo : World, wo = wr := ⟨_, rfl⟩
        clear TW
        obtain ⟨k, Lb, mine, ao, cap, rfl, rfl, hk, TW, SB⟩ := hrel
        by_cases hkl : k < m.length
        · obtain ⟨x, hx⟩ : ∃ x, m[k]? = some x := ⟨_, List.getElem?_eq_getElem hkl⟩
          obtain ⟨bm, om, rfl, hbm, c0, c1, c2⟩ := CM.out k x hx
          have e0 := (TW.out.bel.cell (p := ⟨bm, _, none⟩) hbm).trans c0
          have e1 := (TW.out.bel.cell (p := ⟨bm, _, none⟩) hbm).trans c1
          have e2 := (TW.out.bel.cell (p := ⟨bm, _, none⟩) hbm).trans c2
          have i0 : (0 : Int) ≤ (k : Int) := by omega
          have i1 : (k : Int) < ((m.length : Nat) : Int) := by omega
          have HK := Lib.hid hkl
          have kw : IntKind.i64.wrap ((k : Int) + 1) = (k : Int) + 1 := by rw [IntWalk.i64_left]; exact IntWalk.wrap64_in _ (by have := HM.out; omega)
          have A1 := two_insX (x := x) TW.out
          have SZ : Hid (mine.length ≤ k) := SB.out.2.2.2
          obtain ⟨ix, hix⟩ : ∃ i, Hid (wo.heap.size = i) := ⟨_, rfl⟩
          by_cases h0 : (putA 200 x Lb).1 = 0
          · have SC := Lib.hid (s2_took SB.out hx (by have := HM.out; omega) h0)
            rw [h0] at A1
            obtain ⟨L', hL'⟩ : ∃ L', Hid ((putA 200 x Lb).2 = L') := ⟨_, rfl⟩
            rw [hL'.out] at A1 SC
            clear hx c0 c1 c2 hbm hk h0 hkl
            go_upto_region 17 with (go_at_call 9; (with_reducible refine A1.mono ?_); rintro e w5 ⟨rfl, t5, x5⟩; have T5 := Lib.hid t5; have X5 := Lib.hid x5; clear t5 x5 A1)
            clear e0 e1 e2
            have x0 := X5.out.c0
            have x1 := X5.out.c1
            have x2 := X5.out.c2
            have RA := Lib.hid (owns_but T5.out.row ((But.refl (fun _ => False) w5).alloc (Obj.cells #[Value.int .i64 x.f, .int .i64 x.t, .int .i64 x.i] 33)) (fun _ _ z => z))
            have HB : Hid (w.heap.size ≤ (w5.alloc (Obj.cells #[Value.int .i64 x.f, .int .i64 x.t, .int .i64 x.i] 33)).heap.size) := by have := T5.out.bel.size; show _ ≤ _; rw [World.size_alloc]; omega
            have HL1 : Hid (mine.length < 1000001) := by have := SZ.out; have := HK.out; have := HM.out; show _ < _; omega
            go_upto_region 18 with (at_builtin; go_loud (refine app_item rfl _ _ rfl w.heap.size (.slice ao mine.length cap) mine x rfl RA.out w5.heap.size rfl (item_cells w5 x) HL1.out HB.out ?_; intro ao' cap' w6 r1 b1 l1; have T6 := Lib.hid ((T5.out.below (ba w5 _)).grown r1 b1 l1); clear r1 b1 l1))
            clear x0 x1 x2
            go_wp2_with fail
            go_roundw
            case rel => exact ⟨k + 1, L', mine ++ [x], ao', cap', by rw [List.length_append]; rfl, rfl, by have := HK.out; omega, by show Two _ _ _ _ _ _ _ _; rw [List.length_append]; exact T6.out, SC.out⟩
            case measure => show _ - ((k : Int) + 1).toNat < _ - ((k : Int)).toNat; have := HK.out; omega
          · have SC := Lib.hid (s2_left SB.out hx (by have := HM.out; omega) h0)
            obtain ⟨cd, hcd⟩ : ∃ c, Hid ((putA 200 x Lb).1 = c) := ⟨_, rfl⟩
            rw [hcd.out] at A1 h0
            obtain ⟨L', hL'⟩ : ∃ L', Hid ((putA 200 x Lb).2 = L') := ⟨_, rfl⟩
            rw [hL'.out] at A1 SC
            clear hx c0 c1 c2 hbm hk hkl
            go_wp2_with (go_at_call 9; (with_reducible refine A1.mono ?_); rintro e w5 ⟨rfl, t5, x5⟩; have T5 := Lib.hid t5; clear t5 x5 A1)
            go_roundw
            case rel => exact ⟨k + 1, L', mine, ao, cap, rfl, rfl, by have := HK.out; omega, T5.out, SC.out⟩
            case measure => show _ - ((k : Int) + 1).toNat < _ - ((k : Int)).toNat; have := HK.out; omega
        · have hke : k = m.length := by omega
          subst hke
          clear hkl hk
          go_wp2_with fail
          have SB3 := Lib.hid (s3_start (l := l) SB.out.1)
          obtain ⟨mv, hmv⟩ : ∃ v, Hid (Value.slice ao mine.length cap = v) := ⟨_, rfl⟩
          have MN : Hid (mine.length ≤ 100) := by have := SB.out.2.2.2; have := HM.out; show _ ≤ _; omega
          rw [hmv.out] at TW ⊢
          go_loopw [78] (fun i wr => ∃ (k : Nat) (Lb : List It), i = .int .i64 (k : Int) ∧ k ≤ l.length ∧ Hid (Two w wr a b La Lb mv mine) ∧ Hid (S3 l m Lb k)) (fun i _ => l.length - (intOf i).toNat)
          case atStart => exact ⟨0, Lb, rfl, by omega, TW.out, SB3.out⟩
          case round =>
            obtain ⟨wo, rfl⟩ : ∃ wo : World, wo = wr := ⟨_, rfl⟩
            clear TW SB3
            have MV : Hid (mine.Nodup ∧ ∀ y, y ∈ mine ↔ (y ∈ m ∧ ok y)) := by
              obtain ⟨q1, q2, q3, q4⟩ := SB.out
              refine ⟨q2, fun y => ?_⟩
              rw [q3, q1.1, List.take_length]
            clear SB
            obtain ⟨k, Lb, rfl, hk, TW, SC⟩ := hrel
            by_cases hkl : k < l.length
            · obtain ⟨x, hx⟩ : ∃ x, l[l.length - 1 - k]? = some x := ⟨_, List.getElem?_eq_getElem (by omega)⟩
              obtain ⟨bl, ol, rfl, hbl, c0, c1, c2⟩ := CL.out _ x hx
              obtain ⟨j, hj⟩ : ∃ j, Hid (l.length - 1 - k = j) := ⟨_, rfl⟩
              have SD := Lib.hid (s3_step SC.out hkl hx (by have := HL.out; have := HM.out; omega))
              rw [hj.out] at c0 c1 c2
              have e0 := (TW.out.bel.cell (p := ⟨bl, _, none⟩) hbl).trans c0
              have e1 := (TW.out.bel.cell (p := ⟨bl, _, none⟩) hbl).trans c1
              have e2 := (TW.out.bel.cell (p := ⟨bl, _, none⟩) hbl).trans c2
              have i0 : (0 : Int) ≤ (j : Int) := by omega
              have i1 : (j : Int) < ((l.length : Nat) : Int) := by have := hj.out; omega
              have l0 : (k : Int) < ((l.length : Nat) : Int) := by omega
              have HK := Lib.hid hkl
              have kw : IntKind.i64.wrap ((k : Int) + 1) = (k : Int) + 1 := by rw [IntWalk.i64_left]; exact IntWalk.wrap64_in _ (by have := HL.out; omega)
              have lw : IntKind.i64.wrap (((l.length : Nat) : Int) - 1) = ((l.length : Nat) : Int) - 1 := by rw [IntWalk.i64_left]; exact IntWalk.wrap64_in _ (by have := HL.out; omega)
              have jw : IntKind.i64.wrap (((l.length : Nat) : Int) - 1 - (k : Int)) = (j : Int) := by rw [IntWalk.i64_left, IntWalk.wrap64_in _ (by have := HL.out; omega)]; have := hj.out; omega
              have A1 := two_insB (x := x) TW.out
              clear hx c0 c1 c2 hbl hk hkl
              go_wp2_with (go_at_call 9; (with_reducible refine A1.mono ?_); rintro e w5 ⟨rfl, t5⟩; have T5 := Lib.hid t5; clear t5 A1)
              go_roundw
              case rel => exact ⟨k + 1, (putA 200 x Lb).2, rfl, by have := HK.out; omega, T5.out, SD.out⟩
              case measure => show _ - ((k : Int) + 1).toNat < _ - ((k : Int)).toNat; have := HK.out; omega
            · have hke : k = l.length := by omega
              subst hke
              clear hkl hk
              rw [← hmv.out] at TW ⊢
              go_wp2_with fail
              have S40 := Lib.hid (s4_start (La := La) (mine := mine) SC.out)
              go_loopw [94] (fun i wr => ∃ (k : Nat) (Lb : List It), i = .int .i64 (k : Int) ∧ k ≤ mine.length ∧ Hid (Two w wr a b La Lb (.slice ao mine.length cap) mine) ∧ Hid (S4 l m La Lb mine k)) (fun i _ => mine.length - (intOf i).toNat)
              case atStart => exact ⟨0, Lb, rfl, by omega, TW.out, S40.out⟩
              case round =>
                obtain ⟨wo, rfl⟩ : ∃ wo : World, wo = wr := ⟨_, rfl⟩
                clear TW SC S40
                obtain ⟨k, Lb, rfl, hk, TW, SD⟩ := hrel
                by_cases hkl : k < mine.length
                · obtain ⟨x, hx⟩ : ∃ x, mine[k]? = some x := ⟨_, List.getElem?_eq_getElem hkl⟩
                  obtain ⟨ao', cap', ee, _, hcells⟩ := rowT_cells TW.out.row
                  simp only [Value.slice.injEq, true_and] at ee
                  obtain ⟨e1, e2⟩ := ee
                  subst e1
                  subst e2
                  obtain ⟨bl, ol, rfl, hbl, c0, c1, c2⟩ := hcells k x hx
                  have i0 : (0 : Int) ≤ (k : Int) := by omega
                  have i1 : (k : Int) < ((mine.length : Nat) : Int) := by omega
                  have HK := Lib.hid hkl
                  have kw : IntKind.i64.wrap ((k : Int) + 1) = (k : Int) + 1 := by rw [IntWalk.i64_left]; exact IntWalk.wrap64_in _ (by have := MN.out; omega)
                  have A1 := two_hasA (x := x) (TW.out.below (ba wo (Obj.cells #[.int .i64 x.f, .int .i64 x.t, .int .i64 x.i] 33)))
                  have XN := Lib.hid (itAt_new wo x)
                  by_cases hL : x ∈ La
                  · rw [decide_eq_true hL] at A1
                    have SE := Lib.hid (s4_keep SD.out hx hL)
                    clear hx hbl hk hkl hL hcells
                    go_wp2_with (go_at_call 13; (with_reducible refine A1.mono ?_); rintro e w5 ⟨rfl, t5, b5⟩; have T5 := Lib.hid t5; clear t5 b5 A1 c0 c1 c2)
                    go_roundw
                    case rel => exact ⟨k + 1, Lb, rfl, by have := HK.out; omega, T5.out, SE.out⟩
                    case measure => show _ - ((k : Int) + 1).toNat < _ - ((k : Int)).toNat; have := HK.out; omega
                  · rw [decide_eq_false hL] at A1
                    obtain ⟨hin, se⟩ := s4_gone SD.out hx hL TW.out.sorted.2 MV.out.1 (fun y hy => (MV.out.2 y).1 hy)
                    have SE := Lib.hid se
                    have HD : Hid ((delA x Lb).1 = 0) := by show _ = _; unfold delA; rw [if_pos hin]
                    clear hx hbl hk hkl hL hcells hin se
                    go_wp2_with (first
                      | (go_at_call 13; (with_reducible refine A1.mono ?_); rintro e w5 ⟨rfl, t5, b5⟩; have T5 := Lib.hid t5; have X5 := Lib.hid (XN.out.below b5); clear t5 b5 A1 c0 c1 c2; have A2 := two_delB (x := x) T5.out; (rw [HD.out] at A2); have x0 := X5.out.c0; have x1 := X5.out.c1; have x2 := X5.out.c2)
                      | (go_at_call 11; (with_reducible refine A2.mono ?_); rintro e w6 ⟨rfl, t6⟩; have T6 := Lib.hid t6; clear t6 A2 x0 x1 x2))
                    go_roundw
                    case rel => exact ⟨k + 1, (delA x Lb).2, rfl, by have := HK.out; omega, T6.out, SE.out⟩
                    case measure => show _ - ((k : Int) + 1).toNat < _ - ((k : Int)).toNat; have := HK.out; omega
                · have hke : k = mine.length := by omega
                  subst hke
                  clear hkl hk
                  have EQ := s4_end SD.out SA.out MV.out.2 TW.out.sorted.1 TW.out.sorted.2
                  subst EQ
                  have A1 := two_itemsA TW.out
                  have TS : Hid (Tr.Sorted Lb) := TW.out.sorted.2
                  have LL : Hid (Lb.length ≤ 100) := by have := SA.out.2; have := HL.out; show _ ≤ _; omega
                  go_upto_region 31 with (first
                    | (go_at_call 15; (with_reducible refine A1.mono ?_); rintro e w5 ⟨u1, rfl, r5, b5⟩; have R5 := Lib.hid r5; have B5 := Lib.hid b5; have A2 := two_itemsB (TW.out.below b5); clear r5 b5 A1)
                    | (go_at_call 15; (with_reducible refine A2.mono ?_); rintro e w6 ⟨u2, rfl, r6, b6⟩; have R6 := Lib.hid r6; have B6 := Lib.hid b6; clear r6 b6 A2))
                  have BW := Lib.hid (bt TW.out.bel (bt B5.out B6.out))
                  have U1 := (rowT_cells R5.out).below B6.out
                  have U2 := rowT_cells R6.out
                  obtain ⟨a1, cp1, e1, hc1, ce1⟩ := U1
                  obtain ⟨a2, cp2, e2, hc2, ce2⟩ := U2
                  subst e1
                  subst e2
                  have U1 : Hid (ArgT w6 (.slice a1 Lb.length cp1) Lb) := ⟨a1, cp1, rfl, hc1, ce1⟩
                  have U2 : Hid (ArgT w6 (.slice a2 Lb.length cp2) Lb) := ⟨a2, cp2, rfl, hc2, ce2⟩
                  clear R5 R6 B5 B6 TW SD SA MV CL CM HL HM MN hc1 hc2 ce1 ce2
                  go_wp2_with fail
                  go_loopw [120] (fun i wr => ∃ k : Nat, i = .int .i64 (k : Int) ∧ k ≤ Lb.length ∧ Hid (Below w.heap.size w wr) ∧ Hid (ArgT wr (.slice a1 Lb.length cp1) Lb) ∧ Hid (ArgT wr (.slice a2 Lb.length cp2) Lb)) (fun i _ => Lb.length - (intOf i).toNat)
                  case atStart => exact ⟨0, rfl, by omega, BW.out, U1.out, U2.out⟩
                  case round =>
                    obtain ⟨wo, rfl⟩ : ∃ wo : World, wo = wr := ⟨_, rfl⟩
                    clear BW U1 U2
                    obtain ⟨k, rfl, hk, BW, U1, U2⟩ := hrel
                    by_cases hkl : k < Lb.length
                    · obtain ⟨x, hx⟩ : ∃ x, Lb[k]? = some x := ⟨_, List.getElem?_eq_getElem hkl⟩
                      have U1o := U1.out
                      have U2o := U2.out
                      obtain ⟨a1', cp1', ee1, _, hcells1⟩ := U1o
                      obtain ⟨a2', cp2', ee2, _, hcells2⟩ := U2o
                      simp only [Value.slice.injEq, true_and] at ee1 ee2
                      obtain ⟨f1, f2⟩ := ee1
                      obtain ⟨f3, f4⟩ := ee2
                      subst f1; subst f2; subst f3; subst f4
                      obtain ⟨b1, o1, rfl, hb1, c0, c1, c2⟩ := hcells1 k x hx
                      obtain ⟨b2, o2, rfl, hb2, g0, g1, g2⟩ := hcells2 k x hx
                      have i0 : (0 : Int) ≤ (k : Int) := by omega
                      have i1 : (k : Int) < ((Lb.length : Nat) : Int) := by omega
                      have HK := Lib.hid hkl
                      have kw : IntKind.i64.wrap ((k : Int) + 1) = (k : Int) + 1 := by rw [IntWalk.i64_left]; exact IntWalk.wrap64_in _ (by have := LL.out; omega)
                      have V1 : Hid (ArgT wo (.slice (some ⟨b1, o1, none⟩) Lb.length cp1) Lb) := U1.out
                      have V2 : Hid (ArgT wo (.slice (some ⟨b2, o2, none⟩) Lb.length cp2) Lb) := U2.out
                      by_cases hk0 : k = 0
                      · subst hk0
                        simp only [Nat.zero_mul, Nat.add_zero] at c0 c1 c2 g0 g1 g2
                        rw [show ((0 : Nat) : Int) = 0 from rfl] at i0 i1 kw ⊢
                        clear hcells1 hcells2 hk hkl U1 U2 hx
                        go_upto_region 36 with fail
                        go_quiet (fail)
                        clear c0 c1 c2 g0 g1 g2
                        go_wp2_with fail
                        go_roundw
                        case rel => exact ⟨1, rfl, by have := HK.out; omega, bdN BW.out nq, V1.out.below (bdN (Below.refl _ _) nq), V2.out.below (bdN (Below.refl _ _) nq)⟩
                        case measure => show _ - ((0 : Int) + 1).toNat < _ - ((0 : Int)).toNat; have := HK.out; omega
                      · obtain ⟨n, hn⟩ : ∃ n, Hid (k = n + 1) := ⟨k - 1, by show _ = _; omega⟩
                        obtain ⟨x', hx'⟩ : ∃ x', Lb[n]? = some x' := ⟨_, List.getElem?_eq_getElem (by have := hn.out; omega)⟩
                        obtain ⟨b1', o1', ee, _, e0, e1, e2⟩ := hcells1 n x' hx'
                        simp only [Option.some.injEq, Addr.mk.injEq, and_true] at ee
                        obtain ⟨q1, q2⟩ := ee
                        subst q1; subst q2
                        have LT : x'.lt x := by
                          have hn2 := hn.out
                          obtain ⟨z1, z2⟩ := List.getElem?_eq_some_iff.1 hx'
                          obtain ⟨z3, z4⟩ := List.getElem?_eq_some_iff.1 hx
                          have := (List.pairwise_iff_getElem.1 TS.out) n k z1 z3 (by omega)
                          rw [z2, z4] at this; exact this
                        have n0 : (0 : Int) ≤ (n : Int) := by omega
                        have n1 : (n : Int) < ((Lb.length : Nat) : Int) := by have := hn.out; omega
                        have kw2 : IntKind.i64.wrap ((k : Int) - 1) = (n : Int) := by rw [IntWalk.i64_left, IntWalk.wrap64_in _ (by have := LL.out; omega)]; have := hn.out; omega
                        have dk : decide ((0 : Int) < (k : Int)) = true := by simp; omega
                        have dk2 : decide (0 < k) = true := by simp; omega
                        have hb1' := Lib.hid hb1
                        have hb2' := Lib.hid hb2
                        have A1 := less_any x' x wo.drew
                        rw [decide_eq_true LT] at A1
                        have HS0 : (fun w' : World => w'.cell? ⟨b1, o1 + k * 3, none⟩ = some (.int .i64 x.f) ∧ w'.cell? ⟨b1, o1 + k * 3 + 1, none⟩ = some (.int .i64 x.t) ∧ w'.cell? ⟨b1, o1 + k * 3 + 2, none⟩ = some (.int .i64 x.i) ∧ w'.cell? ⟨b2, o2 + k * 3, none⟩ = some (.int .i64 x.f) ∧ w'.cell? ⟨b2, o2 + k * 3 + 1, none⟩ = some (.int .i64 x.t) ∧ w'.cell? ⟨b2, o2 + k * 3 + 2, none⟩ = some (.int .i64 x.i) ∧ w'.cell? ⟨b1, o1 + n * 3, none⟩ = some (.int .i64 x'.f) ∧ w'.cell? ⟨b1, o1 + n * 3 + 1, none⟩ = some (.int .i64 x'.t) ∧ w'.cell? ⟨b1, o1 + n * 3 + 2, none⟩ = some (.int .i64 x'.i)) wo.drew := ⟨c0, c1, c2, g0, g1, g2, e0, e1, e2⟩
                        have mkS : ∀ w', Below wo.heap.size wo w' → (w'.cell? ⟨b1, o1 + k * 3, none⟩ = some (.int .i64 x.f) ∧ w'.cell? ⟨b1, o1 + k * 3 + 1, none⟩ = some (.int .i64 x.t) ∧ w'.cell? ⟨b1, o1 + k * 3 + 2, none⟩ = some (.int .i64 x.i) ∧ w'.cell? ⟨b2, o2 + k * 3, none⟩ = some (.int .i64 x.f) ∧ w'.cell? ⟨b2, o2 + k * 3 + 1, none⟩ = some (.int .i64 x.t) ∧ w'.cell? ⟨b2, o2 + k * 3 + 2, none⟩ = some (.int .i64 x.i) ∧ w'.cell? ⟨b1, o1 + n * 3, none⟩ = some (.int .i64 x'.f) ∧ w'.cell? ⟨b1, o1 + n * 3 + 1, none⟩ = some (.int .i64 x'.t) ∧ w'.cell? ⟨b1, o1 + n * 3 + 2, none⟩ = some (.int .i64 x'.i)) := fun w' hb => ⟨(hb.cell (p := ⟨b1, _, none⟩) hb1'.out).trans c0, (hb.cell (p := ⟨b1, _, none⟩) hb1'.out).trans c1, (hb.cell (p := ⟨b1, _, none⟩) hb1'.out).trans c2, (hb.cell (p := ⟨b2, _, none⟩) hb2'.out).trans g0, (hb.cell (p := ⟨b2, _, none⟩) hb2'.out).trans g1, (hb.cell (p := ⟨b2, _, none⟩) hb2'.out).trans g2, (hb.cell (p := ⟨b1, _, none⟩) hb1'.out).trans e0, (hb.cell (p := ⟨b1, _, none⟩) hb1'.out).trans e1, (hb.cell (p := ⟨b1, _, none⟩) hb1'.out).trans e2⟩
                        have HK0 : Hid (0 < k) := by show _ < _; omega
                        clear hcells1 hcells2 hk hkl U1 U2 hx hx' hk0 hb1 hb2 LT
                        go_upto_region 36 with fail
                        go_region_held3 (fun w' => w'.cell? ⟨b1, o1 + k * 3, none⟩ = some (.int .i64 x.f) ∧ w'.cell? ⟨b1, o1 + k * 3 + 1, none⟩ = some (.int .i64 x.t) ∧ w'.cell? ⟨b1, o1 + k * 3 + 2, none⟩ = some (.int .i64 x.i) ∧ w'.cell? ⟨b2, o2 + k * 3, none⟩ = some (.int .i64 x.f) ∧ w'.cell? ⟨b2, o2 + k * 3 + 1, none⟩ = some (.int .i64 x.t) ∧ w'.cell? ⟨b2, o2 + k * 3 + 2, none⟩ = some (.int .i64 x.i) ∧ w'.cell? ⟨b1, o1 + n * 3, none⟩ = some (.int .i64 x'.f) ∧ w'.cell? ⟨b1, o1 + n * 3 + 1, none⟩ = some (.int .i64 x'.t) ∧ w'.cell? ⟨b1, o1 + n * 3 + 2, none⟩ = some (.int .i64 x'.i))
                          (first | with_reducible exact HS0 | with_reducible assumption)
                          (first
                            | (go_at_call 18; (with_reducible refine A1.mono ?_); rintro e w7 ⟨rfl, b7⟩; have HS7 := mkS w7 (bt ((Below.refl _ _).drew) b7); have B7 := Lib.hid (bt ((Below.refl wo.heap.size wo).drew) b7); clear b7 A1))
                        clear c0 c1 c2 g0 g1 g2 e0 e1 e2 HS0 mkS
                        go_wp2_with fail
                        go_roundw
                        case rel => exact ⟨k + 1, rfl, by have := HK.out; omega, bt BW.out B7.out, V1.out.below B7.out, V2.out.below B7.out⟩
                        case measure => show _ - ((k : Int) + 1).toNat < _ - ((k : Int)).toNat; have := HK.out; omega
                    · have hke : k = Lb.length := by omega
                      subst hke
                      clear hkl hk
                      go_wp2_with (go_at_call 7; (with_reducible refine (known_any _).mono ?_); rintro e w9 ⟨rfl, b9⟩; have B9 := Lib.hid b9; clear b9)
                      go_ret
                      exact ⟨rfl, bt BW.out B9.out⟩
theorem order_law (vl vm : Value) (l m : List It) (w : World) (hl : ArgT w vl l) (hm : ArgT w vm m) : Calls Try.prog 4 #[vl, vm] w fun e w' => e = .returned (.bool true) ∧ Below w.heap.size w w' := by
  by_cases h1 : l.length ≤ 100
  · by_cases h2 : m.length ≤ 100
    · exact order_main vl vm l m w hl hm h1 h2
    · obtain ⟨al, cl, rfl, _, _⟩ := hl
      obtain ⟨am, cm, rfl, _, _⟩ := hm
      have d1 : decide ((100 : Int) < (l.length : Int)) = false := by simp; omega
      have d2 : decide ((100 : Int) < (m.length : Int)) = true := by simp; omega
      have d3 : decide (100 < l.length) = false := by simp; omega
      have d4 : decide (100 < m.length) = true := by simp; omega
      clear h1 h2
      go_enter Try.func4, Try.ntmps4
      go_wp2_with (go_at_call 7; (with_reducible refine (known_any _).mono ?_); rintro e w9 ⟨rfl, b9⟩; have B9 := Lib.hid b9; clear b9)
      go_ret
      exact ⟨rfl, B9.out⟩
  · obtain ⟨al, cl, rfl, _, _⟩ := hl
    obtain ⟨am, cm, rfl, _, _⟩ := hm
    have d1 : decide ((100 : Int) < (l.length : Int)) = true := by simp; omega
    have d3 : decide (100 < l.length) = true := by simp; omega
    clear h1
    go_enter Try.func4, Try.ntmps4
    go_wp2_with (go_at_call 7; (with_reducible refine (known_any _).mono ?_); rintro e w9 ⟨rfl, b9⟩; have B9 := Lib.hid b9; clear b9)
    go_ret
    exact ⟨rfl, B9.out⟩
end Go.Proofs.Ytpgmndbmcciniaa.Av
