/-
  THE WALK of math/bits.Div64.
-/
import Derived.Test.YtfonpegkaajnkaaDoorM10
import Derived.Test.YtfonpegkaajnkaaDoorM22
import Derived.Deep.CutBlock
/-
  THE WALK of math/bits.Div64.
-/
namespace Go.Proofs.YtfonpegkaajnkaaDoor
open Go.RowKit

theorem sg_cast2 (s : Nat) : ((2 ^ s : Nat) : Int) = (2 : Int) ^ s := by simp
theorem tdivN (a b : Nat) (h : a < 18446744073709551616) : IntKind.u64.wrap ((a : Int).tdiv (b : Int)) = ((a / b : Nat) : Int) := by
  have e : (a : Int).tdiv (b : Int) = ((a / b : Nat) : Int) := (Int.ofNat_tdiv a b).symm
  have l := Nat.div_le_self a b
  rw [e]
  generalize a / b = q at *
  rw [IntKind.wrap_u64]; omega
theorem wrapTo (z : Int) (n : Nat) (h : z = (n : Int)) (hn : n < 18446744073709551616) : IntKind.u64.wrap z = (n : Int) := by
  subst h; rw [IntKind.wrap_u64]; omega
theorem wrapEq (z : Int) (n : Nat) (hn : n < 18446744073709551616) (h : ∃ k : Int, z = (n : Int) + k * 18446744073709551616) : IntKind.u64.wrap z = (n : Int) := by
  obtain ⟨k, rfl⟩ := h; rw [IntKind.wrap_u64]; omega

set_option maxRecDepth 100000 in
set_option maxHeartbeats 4000000 in
theorem div64_pos (hi lo y : Nat) (hy : hi < y) (h1 : y < 18446744073709551616) (hl : lo < 18446744073709551616) (h0 : 0 < hi) (w : World) :
    Calls Tryd.prog 147 #[.int .u64 hi, .int .u64 lo, .int .u64 y] w fun e w' => e = .returned (.tuple #[.int .u64 (((hi * 18446744073709551616 + lo) / y : Nat) : Int), .int .u64 (((hi * 18446744073709551616 + lo) % y : Nat) : Int)]) ∧ w' = w := by
  have e1 : ((y : Int) == 0) = false := by simp; omega
  have e1' : decide ((y : Int) = 0) = false := by simp; omega
  have e2 : decide ((y : Int) ≤ hi) = false := by simp; omega
  have e3 : ((hi : Int) == 0) = false := by simp; omega
  have e3' : decide ((hi : Int) = 0) = false := by simp; omega
  go_enter Tryd.func147, Tryd.ntmps147
  go_wp2_with fail
  refine (lz64_any y _ (by omega) (by omega)).mono ?_
  rintro e w' ⟨rfl, rfl⟩
  have hL := Bt.len_le y h1 (by omega)
  obtain ⟨s, hs⟩ : ∃ s : Nat, Hid (s = 64 - Lib.bitLen y) := ⟨_, rfl⟩
  have es : (64 - (Lib.bitLen (y : Int).toNat : Int)) = (s : Int) := by rw [hs.out]; simp; omega
  rw [es]
  have hN := Dv.norm y s h1 (by omega) hs.out
  have hs2 := hN.1
  clear es hL hs
  go_upto_region 15 with fail
  obtain ⟨Y, hY⟩ : ∃ Y : Nat, Hid (Y = y * 2 ^ s) := ⟨_, rfl⟩
  obtain ⟨U, hU⟩ : ∃ U : Nat, Hid (U = hi * 2 ^ s + lo / 2 ^ (64 - s)) := ⟨_, rfl⟩
  obtain ⟨L, hLL⟩ : ∃ L : Nat, Hid (L = lo * 2 ^ s % 18446744073709551616) := ⟨_, rfl⟩
  have up := Dv.upper hi lo y s hs2 hy hl hN.2.1
  have sh := Dv.shifted (hi * 18446744073709551616 + lo) y s
  rw [up.2.2.2, ← hY.out, ← hU.out, ← hLL.out] at sh
  have lU : U < Y := by rw [hU.out, hY.out]; exact up.2.2.1
  have lY : Y < 18446744073709551616 := by rw [hY.out]; exact hN.2.1
  have gY : 9223372036854775808 ≤ Y := by rw [hY.out]; exact hN.2.2
  have lL : L < 18446744073709551616 := by rw [hLL.out]; exact Nat.mod_lt _ (by decide)
  have fY : IntKind.u64.wrap ((y : Int) * 2 ^ s) = (Y : Int) := wrapTo _ _ (by rw [hY.out, ← sg_cast2, ← Int.natCast_mul]) lY
  have fU : bits .or .u64 (IntKind.u64.wrap ((hi : Int) * 2 ^ s)) ((lo : Int) / 2 ^ (64 - s)) = (U : Int) := by
    have a : IntKind.u64.wrap ((hi : Int) * 2 ^ s) = ((hi * 2 ^ s : Nat) : Int) := wrapTo _ _ (by rw [← sg_cast2, ← Int.natCast_mul]) up.1
    have b : (lo : Int) / 2 ^ (64 - s) = ((lo / 2 ^ (64 - s) : Nat) : Int) := by rw [← sg_cast2]; exact (Int.natCast_ediv _ _).symm
    have lU2 : hi * 2 ^ s + lo / 2 ^ (64 - s) < 18446744073709551616 := by rw [← hU.out]; omega
    rw [a, b, bits_or_u64_nat _ _ up.1 (by omega), Dv.or_parts _ _ _ up.2.1, hU.out]
  have fL : IntKind.u64.wrap ((lo : Int) * 2 ^ s) = (L : Int) := by
    rw [← sg_cast2, ← Int.natCast_mul, Bt.wrapM, hLL.out]
  obtain ⟨y1, hy1⟩ : ∃ n : Nat, n = Y / 4294967296 := ⟨_, rfl⟩
  obtain ⟨y0, hy0⟩ : ∃ n : Nat, n = Y % 4294967296 := ⟨_, rfl⟩
  obtain ⟨u1, hu1⟩ : ∃ n : Nat, n = L / 4294967296 := ⟨_, rfl⟩
  obtain ⟨u0, hu0⟩ : ∃ n : Nat, n = L % 4294967296 := ⟨_, rfl⟩
  have fy1 : (Y : Int) / 4294967296 = (y1 : Int) := by omega
  have fu1 : (L : Int) / 4294967296 = (u1 : Int) := by omega
  have fy0 : bits .and .u64 (Y : Int) 4294967295 = (y0 : Int) := by rw [Bt.maskN Y lY, hy0]
  have fu0 : bits .and .u64 (L : Int) 4294967295 = (u0 : Int) := by rw [Bt.maskN L lL, hu0]
  have D1 : Dv.Div U u1 Y y1 y0 := ⟨by omega, by omega, by omega, by omega, lU, by omega⟩
  have hT : U * 18446744073709551616 + L = (U * 4294967296 + u1) * 4294967296 + u0 := by omega
  rw [hT] at sh
  have bo := Dv.both U u1 u0 Y (by omega)
  rw [bo.1, bo.2] at sh
  obtain ⟨Q1, hQ1⟩ : ∃ n : Nat, Hid (n = (U * 4294967296 + u1) / Y) := ⟨_, rfl⟩
  obtain ⟨R1, hR1⟩ : ∃ n : Nat, Hid (n = (U * 4294967296 + u1) % Y) := ⟨_, rfl⟩
  obtain ⟨Q0, hQ0⟩ : ∃ n : Nat, Hid (n = (R1 * 4294967296 + u0) / Y) := ⟨_, rfl⟩
  obtain ⟨R0, hR0⟩ : ∃ n : Nat, Hid (n = (R1 * 4294967296 + u0) % Y) := ⟨_, rfl⟩
  rw [← hQ1.out, ← hR1.out, ← hQ0.out, ← hR0.out] at sh
  have lR1 : R1 < Y := by rw [hR1.out]; exact Nat.mod_lt _ (by omega)
  have D0 : Dv.Div R1 u0 Y y1 y0 := ⟨D1.y, D1.l1, D1.h1, D1.l0, lR1, by omega⟩
  simp only [fY, fU, fL, fy1, fu1, fy0, fu0]
  have SH : Hid (Q1 * 4294967296 + Q0 = (hi * 18446744073709551616 + lo) / y ∧ R0 / 2 ^ s = (hi * 18446744073709551616 + lo) % y ∧ s ≤ 63) := ⟨sh.1, sh.2, hs2⟩
  have HD1 := Lib.hid D1; have HD0 := Lib.hid D0
  have HY := Lib.hid (And.intro gY lY)
  clear fY fU fL fy1 fu1 fy0 fu0 up sh hN hY hU hLL hy1 hy0 hu1 hu0 bo hT D1 D0 lU lR1 lY gY lL hs2 e1 e1' e2 e3 e3'
  have ny : ¬ ((y1 : Int) = 0) := by have := HD1.out.h1; omega
  obtain ⟨q, hq⟩ : ∃ n : Nat, n = U / y1 := ⟨_, rfl⟩
  obtain ⟨r, hr⟩ : ∃ n : Nat, n = U % y1 := ⟨_, rfl⟩
  have hi1 : Hid (Dv.Inv U u1 Y y1 y0 q r) := by have := Dv.init HD1.out; rw [← hq, ← hr] at this; exact this
  have hr1 : r < 4294967296 := by have := Nat.mod_lt U (show 0 < y1 by omega); have := HD1.out.l1; omega
  have f1 : IntKind.u64.wrap ((U : Int).tdiv (y1 : Int)) = (q : Int) := by rw [hq]; exact tdivN _ _ (by have := HD1.out.lu; have := HY.out; omega)
  have f2 : IntKind.u64.wrap ((q : Int) * (y1 : Int)) = (q : Int) * (y1 : Int) := by
    have a := hi1.out.split; have := HD1.out.lu; have := HY.out
    rw [← Int.natCast_mul]; exact wrapTo _ _ rfl (by omega)
  have f3 : IntKind.u64.wrap ((U : Int) - (q : Int) * (y1 : Int)) = (r : Int) := by
    have a := hi1.out.split
    exact wrapTo _ _ (by rw [← Int.natCast_mul]; omega) (by omega)
  have f1' : IntKind.u64.wrap ((U : Int) / (y1 : Int)) = (q : Int) := by
    rw [hq, ← Int.natCast_ediv]; exact wrapTo _ _ rfl (by have := Nat.div_le_self U y1; have := HD1.out.lu; have := HY.out; omega)
  clear hq hr
  go_upto_block 0 with fail
  clear f1 f1' f2 f3
  go_cut [15, 16] (fun s15 _s16 wx => s15 = .int .u64 (Q1 : Int) ∧ wx = w')
  case first =>
    go_wp2_with fail
    go_loop [15, 16] (fun a b => ∃ q r : Nat, a = .int .u64 (q : Int) ∧ b = .int .u64 (r : Int) ∧ r < 4294967296 ∧ Hid (Dv.Inv U u1 Y y1 y0 q r)) (fun a _ => (intOf a).toNat)
    case atStart => exact ⟨q, r, rfl, rfl, hr1, hi1⟩
    case round =>
      clear hi1 hr1
      obtain ⟨q, r, rfl, rfl, hr, hi⟩ := hrel
      have q1 := hi.out.small
      have q2 : Hid (q * y0 < 18446744073709551616 ∨ 4294967296 ≤ q) := by
        by_cases t : 4294967296 ≤ q
        · exact .inr t
        · left
          have := Nat.mul_le_mul (show q ≤ 4294967295 by omega) (show y0 ≤ 4294967295 by have := HD1.out.l0; omega)
          show _ < _; omega
      have ul := HD1.out.l
      have yl := HD1.out.l1
      have v1 : IntKind.u64.wrap (4294967296 * (r : Int)) = 4294967296 * (r : Int) := by rw [IntKind.wrap_u64]; omega
      have v2 : IntKind.u64.wrap (4294967296 * (r : Int) + (u1 : Int)) = 4294967296 * (r : Int) + (u1 : Int) := by rw [IntKind.wrap_u64]; omega
      have v3 : IntKind.u64.wrap ((r : Int) + (y1 : Int)) = (r : Int) + (y1 : Int) := by rw [IntKind.wrap_u64]; omega
      by_cases t : 4294967296 ≤ q ∨ 4294967296 * r + u1 < q * y0
      · have st := Dv.step HD1.out hi.out t
        obtain ⟨p, rfl⟩ : ∃ p, q = p + 1 := ⟨q - 1, by omega⟩
        rw [Nat.add_sub_cancel] at st
        obtain ⟨_, si, sl⟩ := st
        have SI := Lib.hid si
        have v4 : IntKind.u64.wrap (((p + 1 : Nat) : Int) - 1) = (p : Int) := wrapTo _ _ (by omega) (by omega)
        have v5 : IntKind.u64.wrap (p : Int) = (p : Int) := wrapTo _ _ rfl (by omega)
        have v6 : IntKind.u64.wrap ((p : Int) + 1 - 1) = (p : Int) := wrapTo _ _ (by omega) (by omega)
        clear si hi
        rw [show (((p + 1 : Nat) : Int)) = (p : Int) + 1 from rfl] at *
        by_cases b : 4294967296 ≤ r + y1
        · have BR : Hid ((p : Int) = (Q1 : Int)) := by
            have := Dv.found HD1.out SI.out (Dv.broke HD1.out sl b)
            show _ = _; rw [hQ1.out, ← this]
          have db : decide ((4294967296 : Int) ≤ (r : Int) + (y1 : Int)) = true := by simp; omega
          by_cases t1 : 4294967296 ≤ p + 1
          · have d1 : decide ((4294967296 : Int) ≤ (p : Int) + 1) = true := by simp; omega
            clear q2 t
            go_wp2_with fail
            go_meet
            case rel => exact ⟨by rw [← BR.out], rfl⟩
          · have d1 : decide ((4294967296 : Int) ≤ (p : Int) + 1) = false := by simp; omega
            have d2 : decide (4294967296 * (r : Int) + (u1 : Int) < ((p : Int) + 1) * (y0 : Int)) = true := by
              rw [decide_eq_true_eq, show ((p : Int) + 1) * (y0 : Int) = (((p + 1) * y0 : Nat) : Int) by simp]; omega
            have v7 : IntKind.u64.wrap (((p : Int) + 1) * (y0 : Int)) = ((p : Int) + 1) * (y0 : Int) := by
              rw [show ((p : Int) + 1) * (y0 : Int) = (((p + 1) * y0 : Nat) : Int) by simp]; exact wrapTo _ _ rfl (by have := q2.out; omega)
            clear q2 t
            go_wp2_with fail
            go_meet
            case rel => exact ⟨by rw [← BR.out], rfl⟩
        · have db : decide ((4294967296 : Int) ≤ (r : Int) + (y1 : Int)) = false := by simp; omega
          by_cases t1 : 4294967296 ≤ p + 1
          · have d1 : decide ((4294967296 : Int) ≤ (p : Int) + 1) = true := by simp; omega
            clear q2 t
            go_wp2_with fail
            go_round
            case rel => exact ⟨p, r + y1, rfl, by simp, by omega, SI⟩
            case measure => simp [intOf]
          · have d1 : decide ((4294967296 : Int) ≤ (p : Int) + 1) = false := by simp; omega
            have d2 : decide (4294967296 * (r : Int) + (u1 : Int) < ((p : Int) + 1) * (y0 : Int)) = true := by
              rw [decide_eq_true_eq, show ((p : Int) + 1) * (y0 : Int) = (((p + 1) * y0 : Nat) : Int) by simp]; omega
            have v7 : IntKind.u64.wrap (((p : Int) + 1) * (y0 : Int)) = ((p : Int) + 1) * (y0 : Int) := by
              rw [show ((p : Int) + 1) * (y0 : Int) = (((p + 1) * y0 : Nat) : Int) by simp]; exact wrapTo _ _ rfl (by have := q2.out; omega)
            clear q2 t
            go_wp2_with fail
            go_round
            case rel => exact ⟨p, r + y1, rfl, by simp, by omega, SI⟩
            case measure => simp [intOf]
      · have BR : Hid ((q : Int) = (Q1 : Int)) := by
          have := Dv.found HD1.out hi.out (by omega)
          show _ = _; rw [hQ1.out, ← this]
        have d1 : decide ((4294967296 : Int) ≤ (q : Int)) = false := by simp; omega
        have d2 : decide (4294967296 * (r : Int) + (u1 : Int) < (q : Int) * (y0 : Int)) = false := by
          rw [decide_eq_false_iff_not, ← Int.natCast_mul]; omega
        have v7 : IntKind.u64.wrap ((q : Int) * (y0 : Int)) = (q : Int) * (y0 : Int) := by
          rw [← Int.natCast_mul]; exact wrapTo _ _ rfl (by have := q2.out; omega)
        clear q2 t hi
        go_wp2_with fail
        go_meet
        case rel => exact ⟨by rw [← BR.out], rfl⟩
  case rest =>
    obtain ⟨rfl, rfl⟩ := hcut
    clear hi1 hr1
    have k1 : Hid ((Q1 : Int) * (Y : Int) + (R1 : Int) = (U : Int) * 4294967296 + (u1 : Int)) := by
      have := Nat.div_add_mod (U * 4294967296 + u1) Y
      rw [← hQ1.out, ← hR1.out, Nat.mul_comm] at this
      show _ = _; rw [← Int.natCast_mul]; omega
    have k0 : Hid ((Q0 : Int) * (Y : Int) + (R0 : Int) = (R1 : Int) * 4294967296 + (u0 : Int)) := by
      have := Nat.div_add_mod (R1 * 4294967296 + u0) Y
      rw [← hQ0.out, ← hR0.out, Nat.mul_comm] at this
      show _ = _; rw [← Int.natCast_mul]; omega
    have lR0 : R0 < Y := by rw [hR0.out]; exact Nat.mod_lt _ (by have := HY.out; omega)
    have LR : Hid (R1 < 18446744073709551616 ∧ R0 < 18446744073709551616) := ⟨by have := HD0.out.lu; have := HY.out; omega, by have := HY.out; omega⟩
    have LQ : Hid (Q1 < 4294967296 ∧ Q0 < 4294967296) := by
      have hy' : 0 < Y := by have := HY.out; omega
      refine ⟨?_, ?_⟩
      · rw [hQ1.out, Nat.div_lt_iff_lt_mul hy']; have := HD1.out.lu; have := HD1.out.l; have := Nat.mul_comm 4294967296 Y; omega
      · rw [hQ0.out, Nat.div_lt_iff_lt_mul hy']; have := HD0.out.lu; have := HD0.out.l; have := Nat.mul_comm 4294967296 Y; omega
    clear lR0
    go_upto_region 21 with fail
    go_cut [17] (fun s17 wx => s17 = .int .u64 (R1 : Int) ∧ wx = wc)
    case first =>
      go_wp2_with fail
      go_meet
      case rel =>
        refine ⟨congrArg (Value.int IntKind.u64) ?_, rfl⟩
        have a := k1.out; have b := LR.out.1
        simp only [IntKind.wrap_u64]
        generalize (Q1 : Int) * (Y : Int) = P at *
        omega
    case rest =>
      obtain ⟨rfl, rfl⟩ := hcut
      obtain ⟨q, hq⟩ : ∃ n : Nat, n = R1 / y1 := ⟨_, rfl⟩
      obtain ⟨r, hr⟩ : ∃ n : Nat, n = R1 % y1 := ⟨_, rfl⟩
      have hi1 : Hid (Dv.Inv R1 u0 Y y1 y0 q r) := by have := Dv.init HD0.out; rw [← hq, ← hr] at this; exact this
      have hr1 : r < 4294967296 := by have := Nat.mod_lt R1 (show 0 < y1 by omega); have := HD0.out.l1; omega
      have f1 : IntKind.u64.wrap ((R1 : Int).tdiv (y1 : Int)) = (q : Int) := by rw [hq]; exact tdivN _ _ LR.out.1
      have f1' : IntKind.u64.wrap ((R1 : Int) / (y1 : Int)) = (q : Int) := by
        rw [hq, ← Int.natCast_ediv]; exact wrapTo _ _ rfl (by have := Nat.div_le_self R1 y1; have := LR.out.1; omega)
      have f2 : IntKind.u64.wrap ((q : Int) * (y1 : Int)) = (q : Int) * (y1 : Int) := by
        have a := hi1.out.split; have := LR.out.1
        rw [← Int.natCast_mul]; exact wrapTo _ _ rfl (by omega)
      have f3 : IntKind.u64.wrap ((R1 : Int) - (q : Int) * (y1 : Int)) = (r : Int) := by
        have a := hi1.out.split
        exact wrapTo _ _ (by rw [← Int.natCast_mul]; omega) (by omega)
      clear hq hr
      go_upto_block 2 with fail
      clear f1 f1' f2 f3
      go_cut [18, 16] (fun s18 _s16 wx => s18 = .int .u64 (Q0 : Int) ∧ wx = wc)
      case first =>
        go_wp2_with fail
        go_loop [18, 16] (fun a b => ∃ q r : Nat, a = .int .u64 (q : Int) ∧ b = .int .u64 (r : Int) ∧ r < 4294967296 ∧ Hid (Dv.Inv R1 u0 Y y1 y0 q r)) (fun a _ => (intOf a).toNat)
        case atStart => exact ⟨q, r, rfl, rfl, hr1, hi1⟩
        case round =>
          clear hi1 hr1
          obtain ⟨q, r, rfl, rfl, hr, hi⟩ := hrel
          have q1 := hi.out.small
          have q2 : Hid (q * y0 < 18446744073709551616 ∨ 4294967296 ≤ q) := by
            by_cases t : 4294967296 ≤ q
            · exact .inr t
            · left
              have := Nat.mul_le_mul (show q ≤ 4294967295 by omega) (show y0 ≤ 4294967295 by have := HD0.out.l0; omega)
              show _ < _; omega
          have ul := HD0.out.l
          have yl := HD0.out.l1
          have v1 : IntKind.u64.wrap (4294967296 * (r : Int)) = 4294967296 * (r : Int) := by rw [IntKind.wrap_u64]; omega
          have v2 : IntKind.u64.wrap (4294967296 * (r : Int) + (u0 : Int)) = 4294967296 * (r : Int) + (u0 : Int) := by rw [IntKind.wrap_u64]; omega
          have v3 : IntKind.u64.wrap ((r : Int) + (y1 : Int)) = (r : Int) + (y1 : Int) := by rw [IntKind.wrap_u64]; omega
          by_cases t : 4294967296 ≤ q ∨ 4294967296 * r + u0 < q * y0
          · have st := Dv.step HD0.out hi.out t
            obtain ⟨p, rfl⟩ : ∃ p, q = p + 1 := ⟨q - 1, by omega⟩
            rw [Nat.add_sub_cancel] at st
            obtain ⟨_, si, sl⟩ := st
            have SI := Lib.hid si
            have v4 : IntKind.u64.wrap (((p + 1 : Nat) : Int) - 1) = (p : Int) := wrapTo _ _ (by omega) (by omega)
            have v5 : IntKind.u64.wrap (p : Int) = (p : Int) := wrapTo _ _ rfl (by omega)
            have v6 : IntKind.u64.wrap ((p : Int) + 1 - 1) = (p : Int) := wrapTo _ _ (by omega) (by omega)
            clear si hi
            rw [show (((p + 1 : Nat) : Int)) = (p : Int) + 1 from rfl] at *
            by_cases b : 4294967296 ≤ r + y1
            · have BR : Hid ((p : Int) = (Q0 : Int)) := by
                have := Dv.found HD0.out SI.out (Dv.broke HD0.out sl b)
                show _ = _; rw [hQ0.out, ← this]
              have db : decide ((4294967296 : Int) ≤ (r : Int) + (y1 : Int)) = true := by simp; omega
              by_cases t1 : 4294967296 ≤ p + 1
              · have d1 : decide ((4294967296 : Int) ≤ (p : Int) + 1) = true := by simp; omega
                clear q2 t
                go_wp2_with fail
                go_meet
                case rel => exact ⟨by rw [← BR.out], rfl⟩
              · have d1 : decide ((4294967296 : Int) ≤ (p : Int) + 1) = false := by simp; omega
                have d2 : decide (4294967296 * (r : Int) + (u0 : Int) < ((p : Int) + 1) * (y0 : Int)) = true := by
                  rw [decide_eq_true_eq, show ((p : Int) + 1) * (y0 : Int) = (((p + 1) * y0 : Nat) : Int) by simp]; omega
                have v7 : IntKind.u64.wrap (((p : Int) + 1) * (y0 : Int)) = ((p : Int) + 1) * (y0 : Int) := by
                  rw [show ((p : Int) + 1) * (y0 : Int) = (((p + 1) * y0 : Nat) : Int) by simp]; exact wrapTo _ _ rfl (by have := q2.out; omega)
                clear q2 t
                go_wp2_with fail
                go_meet
                case rel => exact ⟨by rw [← BR.out], rfl⟩
            · have db : decide ((4294967296 : Int) ≤ (r : Int) + (y1 : Int)) = false := by simp; omega
              by_cases t1 : 4294967296 ≤ p + 1
              · have d1 : decide ((4294967296 : Int) ≤ (p : Int) + 1) = true := by simp; omega
                clear q2 t
                go_wp2_with fail
                go_round
                case rel => exact ⟨p, r + y1, rfl, by simp, by omega, SI⟩
                case measure => simp [intOf]
              · have d1 : decide ((4294967296 : Int) ≤ (p : Int) + 1) = false := by simp; omega
                have d2 : decide (4294967296 * (r : Int) + (u0 : Int) < ((p : Int) + 1) * (y0 : Int)) = true := by
                  rw [decide_eq_true_eq, show ((p : Int) + 1) * (y0 : Int) = (((p + 1) * y0 : Nat) : Int) by simp]; omega
                have v7 : IntKind.u64.wrap (((p : Int) + 1) * (y0 : Int)) = ((p : Int) + 1) * (y0 : Int) := by
                  rw [show ((p : Int) + 1) * (y0 : Int) = (((p + 1) * y0 : Nat) : Int) by simp]; exact wrapTo _ _ rfl (by have := q2.out; omega)
                clear q2 t
                go_wp2_with fail
                go_round
                case rel => exact ⟨p, r + y1, rfl, by simp, by omega, SI⟩
                case measure => simp [intOf]
          · have BR : Hid ((q : Int) = (Q0 : Int)) := by
              have := Dv.found HD0.out hi.out (by omega)
              show _ = _; rw [hQ0.out, ← this]
            have d1 : decide ((4294967296 : Int) ≤ (q : Int)) = false := by simp; omega
            have d2 : decide (4294967296 * (r : Int) + (u0 : Int) < (q : Int) * (y0 : Int)) = false := by
              rw [decide_eq_false_iff_not, ← Int.natCast_mul]; omega
            have v7 : IntKind.u64.wrap ((q : Int) * (y0 : Int)) = (q : Int) * (y0 : Int) := by
              rw [← Int.natCast_mul]; exact wrapTo _ _ rfl (by have := q2.out; omega)
            clear q2 t hi
            go_wp2_with fail
            go_meet
            case rel => exact ⟨by rw [← BR.out], rfl⟩
      case rest =>
        obtain ⟨rfl, rfl⟩ := hcut
        clear hi1 hr1
        go_upto_region 28 with fail
        go_wp2_with fail
        go_ret2
        refine ⟨congrArg Ending.returned (congrArg Value.tuple ?_), rfl⟩
        have g1 := SH.out.1; have g2 := SH.out.2.1; have e4 : min s 64 = s := (by have := SH.out.2.2; omega); have a := k0.out; have b := LR.out; have c := LQ.out
        rw [← g1, ← g2]
        have e1 : IntKind.u64.wrap (IntKind.u64.wrap ((Q1 : Int) * 4294967296) + (Q0 : Int)) = ((Q1 * 4294967296 + Q0 : Nat) : Int) := by
          simp only [IntKind.wrap_u64]; omega
        have e2 : IntKind.u64.wrap (IntKind.u64.wrap (IntKind.u64.wrap ((R1 : Int) * 4294967296) + (u0 : Int)) - IntKind.u64.wrap ((Q0 : Int) * (Y : Int))) = (R0 : Int) := by
          simp only [IntKind.wrap_u64]
          generalize (Q0 : Int) * (Y : Int) = P at *
          omega
        have e3 : (R0 : Int) / (2 : Int) ^ s = ((R0 / 2 ^ s : Nat) : Int) := by rw [← sg_cast2]; exact (Int.natCast_ediv _ _).symm
        simp only [e1, e2, e4, e3]
        rfl

set_option maxRecDepth 100000 in
theorem div64_zero (lo y : Nat) (hy : 0 < y) (h1 : y < 18446744073709551616) (hl : lo < 18446744073709551616) (w : World) :
    Calls Tryd.prog 147 #[.int .u64 0, .int .u64 lo, .int .u64 y] w fun e w' => e = .returned (.tuple #[.int .u64 ((lo / y : Nat) : Int), .int .u64 ((lo % y : Nat) : Int)]) ∧ Below w.heap.size w w' := by
  have e1 : ((y : Int) == 0) = false := by simp; omega
  have e1' : decide ((y : Int) = 0) = false := by simp; omega
  have e2 : decide ((y : Int) ≤ 0) = false := by simp; omega
  have ny : ¬ ((y : Int) = 0) := by omega
  have q1 : IntKind.u64.wrap ((lo : Int).tdiv (y : Int)) = ((lo / y : Nat) : Int) := tdivN _ _ hl
  have lq := Nat.div_le_self lo y
  have lr := Nat.mod_le lo y
  have q2 : IntKind.u64.wrap ((lo : Int) / (y : Int)) = ((lo / y : Nat) : Int) := by rw [← Int.natCast_ediv]; exact wrapTo _ _ rfl (by omega)
  have q3 : IntKind.u64.wrap ((lo : Int).tmod (y : Int)) = ((lo % y : Nat) : Int) := by rw [show (lo : Int).tmod (y : Int) = ((lo % y : Nat) : Int) from (Int.ofNat_tmod lo y).symm]; exact wrapTo _ _ rfl (by omega)
  have q4 : IntKind.u64.wrap ((lo : Int) % (y : Int)) = ((lo % y : Nat) : Int) := by rw [← Int.natCast_emod]; exact wrapTo _ _ rfl (by omega)
  clear lq lr h1 hl
  go_enter Tryd.func147, Tryd.ntmps147
  go_upto_region 6 with fail
  go_quiet (fail)
  go_wp2_with fail
  go_ret2
  exact ⟨by first | rfl | simp [*], (Below.refl _ _).trans ⟨rfl, rfl, rfl, Nat.le_refl _, fun _ _ => rfl⟩⟩
theorem div64_any (hi lo y : Nat) (hy : hi < y) (h1 : y < 18446744073709551616) (hl : lo < 18446744073709551616) (w : World) :
    Calls Tryd.prog 147 #[.int .u64 hi, .int .u64 lo, .int .u64 y] w fun e w' => e = .returned (.tuple #[.int .u64 (((hi * 18446744073709551616 + lo) / y : Nat) : Int), .int .u64 (((hi * 18446744073709551616 + lo) % y : Nat) : Int)]) ∧ Below w.heap.size w w' := by
  rcases Nat.eq_zero_or_pos hi with e | e
  · subst e
    rw [Nat.zero_mul, Nat.zero_add]
    exact div64_zero lo y hy h1 hl w
  · exact (div64_pos hi lo y hy h1 hl e w).mono fun _ _ ⟨a, b⟩ => ⟨a, b ▸ Below.refl _ _⟩
end Go.Proofs.YtfonpegkaajnkaaDoor
