/-
  THE WALKS of the reference's short, Word, plus, minus, against.
-/
import Derived.Test.YtfonpegkaajnkaaDoorM12
/-
  THE WALKS of the reference's short, Word, plus, minus, against.
-/
namespace Go.Proofs.YtfonpegkaajnkaaDoor
open Go.RowKit

/-- a number comes back: at most k thousands, the integer z; what was there stands -/
def NumPost (k : Nat) (z : Int) (w : World) (e : Ending) (w' : World) : Prop := ∃ v : Value, Num k w' v z ∧ e = .returned v ∧ Below w.heap.size w w'
def RowPost (P : List Nat → Prop) (w : World) (e : Ending) (w' : World) : Prop := ∃ (v : Value) (ds : List Nat), RowW w' v ds ∧ P ds ∧ e = .returned v ∧ Below w.heap.size w w'

/-- a row of n thousands behind the slice at a -/
def RowN (w : World) (a : Option Addr) (cap n : Nat) (es : List Nat) : Prop := es.length = n ∧ RowW w (.slice a n cap) es
theorem rowN_last {w : World} {a : Option Addr} {cap n : Nat} {es : List Nat} (h : RowN w a cap (n + 1) es) :
    ∃ g fs d, a = some ⟨g, 0, none⟩ ∧ es = fs ++ [d] ∧ g < w.heap.size ∧ w.cell? ⟨g, n, none⟩ = some (.int .i64 ((d : Nat) : Int)) ∧ n ≤ cap ∧ RowN w a cap n fs := by
  obtain ⟨h1, h2⟩ := h
  have he : es ≠ [] := by intro e; subst e; simp at h1
  obtain ⟨fs, d, rfl⟩ := Nm.snoc_of es he
  have hn : fs.length = n := by simpa using h1
  obtain ⟨g, rfl, hg⟩ := rowW_some h2 (by simp)
  have hc := rowW_at h2 n d (by rw [← hn]; simp)
  refine ⟨g, fs, d, rfl, rfl, hg, hc, ?_, hn, ?_⟩
  · rcases h2.2 with ⟨e, _⟩ | ⟨_, _, _, e, _, _, h3, _⟩ <;> simp at e
    rw [e.2.2]; simp at h3; omega
  rw [← hn] at h2 ⊢
  exact rowW_pop h2

def lenOf : Value → Nat | .slice _ n _ => n | _ => 0

def ShortPost (a : Option Addr) (cap k : Nat) (z : Int) (w : World) (e : Ending) (w' : World) : Prop := ∃ (b : Bool) (n : Nat), Num k w' (.agg #[.bool b, .slice a n cap]) z ∧ e = .returned (.agg #[.bool b, .slice a n cap]) ∧ Below w.heap.size w w'

set_option maxHeartbeats 1000000 in
theorem short_at (neg : Bool) (a : Option Addr) (cap N : Nat) (ds : List Nat) (w : World) (hl : RowW w (.slice a N cap) ds) (hN0 : ds.length = N) (hm : N ≤ maxLen) (hd : Nm.Digs ds) :
    Calls Tryd.prog 92 #[.bool neg, .slice a N cap] w (ShortPost a cap N (sg neg (Nm.val ds)) w) := by
  unfold maxLen at hm
  have HN := Lib.hid hN0
  have HR : Hid (RowN w a cap N ds ∧ Nm.Digs ds) := ⟨⟨HN.out, hl⟩, hd⟩
  clear hl hd HN hN0
  cases neg
  · go_enter Tryd.func92, Tryd.ntmps92
    go_wp2
    go_loop [1] (fun v => ∃ (n : Nat) (es : List Nat), v = .slice a n cap ∧ Hid (RowN w a cap n es ∧ Nm.Digs es ∧ Nm.val es = Nm.val ds) ∧ n ≤ N) (fun v => lenOf v)
    case atStart => exact ⟨N, ds, rfl, ⟨HR.out.1, HR.out.2, rfl⟩, Nat.le_refl _⟩
    case round =>
      obtain ⟨n, es, rfl, hr, hle⟩ := hrel
      rcases n with _ | n
      · go_wp2
        have hes : es = [] := List.eq_nil_of_length_eq_zero hr.out.1.1
        refine bodyPost_ret (v := .agg #[.bool false, .slice a 0 cap]) (by simp [results, Tryd.results92, go_sem]) rfl ⟨_, _, ?_, rfl, ba _ _⟩
        obtain ⟨h1, h2, h3⟩ := hr.out
        subst hes
        refine ⟨_, [], ?_, rowW_alloc h1.2 _, Nm.canon_nil', by rw [h3, sg_natAbs], by simp⟩
        rw [sg_neg, ← h3]; rfl
      · obtain ⟨g, fs, d, rfl, rfl, hg, hc, hnc, hf⟩ := rowN_last hr.out.1
        have HF := Lib.hid hf
        clear hf
        by_cases hd : d = 0
        · subst hd
          have HP := Lib.hid (Nm.canon_pop fs hr.out.2.1)
          go_wp2
          go_round
          case rel => exact ⟨n, fs, rfl, ⟨HF.out, HP.out.1, HP.out.2.trans hr.out.2.2⟩, by omega⟩
          case measure => simp [lenOf]
        · have hd0 : (((d : Nat) : Int) == 0) = false := by rw [beq_eq_false_iff_ne]; omega
          have HDD := Lib.hid hd
          clear hd
          go_wp2
          refine bodyPost_ret (v := .agg #[.bool (false), .slice (some ⟨g, 0, none⟩) (n + 1) cap]) (by simp [results, Tryd.results92, go_sem]) rfl ⟨_, _, ?_, rfl, ba _ _⟩
          obtain ⟨h1, h2, h3⟩ := hr.out
          have hcan : Nm.Canon (fs ++ [d]) := ⟨h2, by simp; exact HDD.out⟩
          refine ⟨_, fs ++ [d], ?_, rowW_alloc h1.2 _, hcan, by rw [h3, sg_natAbs], by rw [h1.1]; exact hle⟩
          rw [sg_neg, ← h3, canon_pos _ hcan]; simp
  · go_enter Tryd.func92, Tryd.ntmps92
    go_wp2
    go_loop [1] (fun v => ∃ (n : Nat) (es : List Nat), v = .slice a n cap ∧ Hid (RowN w a cap n es ∧ Nm.Digs es ∧ Nm.val es = Nm.val ds) ∧ n ≤ N) (fun v => lenOf v)
    case atStart => exact ⟨N, ds, rfl, ⟨HR.out.1, HR.out.2, rfl⟩, Nat.le_refl _⟩
    case round =>
      obtain ⟨n, es, rfl, hr, hle⟩ := hrel
      rcases n with _ | n
      · go_wp2
        have hes : es = [] := List.eq_nil_of_length_eq_zero hr.out.1.1
        refine bodyPost_ret (v := .agg #[.bool false, .slice a 0 cap]) (by simp [results, Tryd.results92, go_sem]) rfl ⟨_, _, ?_, rfl, ba _ _⟩
        obtain ⟨h1, h2, h3⟩ := hr.out
        subst hes
        refine ⟨_, [], ?_, rowW_alloc h1.2 _, Nm.canon_nil', by rw [h3, sg_natAbs], by simp⟩
        rw [sg_neg, ← h3]; rfl
      · obtain ⟨g, fs, d, rfl, rfl, hg, hc, hnc, hf⟩ := rowN_last hr.out.1
        have HF := Lib.hid hf
        clear hf
        by_cases hd : d = 0
        · subst hd
          have HP := Lib.hid (Nm.canon_pop fs hr.out.2.1)
          go_wp2
          go_round
          case rel => exact ⟨n, fs, rfl, ⟨HF.out, HP.out.1, HP.out.2.trans hr.out.2.2⟩, by omega⟩
          case measure => simp [lenOf]
        · have hd0 : (((d : Nat) : Int) == 0) = false := by rw [beq_eq_false_iff_ne]; omega
          have HDD := Lib.hid hd
          clear hd
          go_wp2
          refine bodyPost_ret (v := .agg #[.bool (true), .slice (some ⟨g, 0, none⟩) (n + 1) cap]) (by simp [results, Tryd.results92, go_sem]) rfl ⟨_, _, ?_, rfl, ba _ _⟩
          obtain ⟨h1, h2, h3⟩ := hr.out
          have hcan : Nm.Canon (fs ++ [d]) := ⟨h2, by simp; exact HDD.out⟩
          refine ⟨_, fs ++ [d], ?_, rowW_alloc h1.2 _, hcan, by rw [h3, sg_natAbs], by rw [h1.1]; exact hle⟩
          rw [sg_neg, ← h3, canon_pos _ hcan]; simp

theorem short_any (neg : Bool) (l : Value) (ds : List Nat) (w : World) (hl : RowW w l ds) (hd : Nm.Digs ds) :
    Calls Tryd.prog 92 #[.bool neg, l] w (NumPost ds.length (sg neg (Nm.val ds)) w) := by
  obtain ⟨a, cap, rfl, hm⟩ := rowW_form hl
  exact (short_at neg a cap _ ds w hl rfl hm hd).mono fun _ _ ⟨b, n, h1, h2, h3⟩ => ⟨_, h1, h2, h3⟩

set_option maxHeartbeats 1000000 in
theorem word_any (n : Int) (w : World) (h0 : 0 ≤ n) (h1 : n < 18446744073709551616) :
    Calls Tryd.prog 60 #[.int .u64 n] w (NumPost 7 n w) := by
  obtain ⟨N, rfl⟩ := Int.eq_ofNat_of_zero_le h0
  have hN2 : Hid (N < 18446744073709551616) := by show N < 18446744073709551616; omega
  have hN : Hid (N < 1000 ^ 7) := by show N < 1000 ^ 7; omega
  clear h0 h1
  go_enter Tryd.func60, Tryd.ntmps60
  go_wp2
  go_loopw [0, 3] (fun n l wr => ∃ (m : Nat) (es : List Nat) (a : Option Addr) (k cap : Nat), n = .int .u64 (m : Int) ∧ l = .slice a k cap ∧ Hid (RowB wr (w.heap.size + 1) l es ∧ Nm.Digs es ∧ Nm.val es + 1000 ^ es.length * m = N ∧ (0 < m ∨ Nm.Canon es) ∧ es.length ≤ 7) ∧ Below (w.heap.size + 1) (w.alloc (.cells #[.bool false, .slice none 0 0] 87)) wr) (fun n _ _ => (intOf n).toNat)
  case atStart => exact ⟨N, [], none, 0, 0, rfl, rfl, ⟨rowB_nil _ _, Nm.digs_nil, by simp [Nm.val], .inr Nm.canon_nil', by simp⟩, Below.refl _ _⟩
  case round =>
    rename_i wr
    obtain ⟨m, es, a, k, cap, rfl, rfl, hr, hb⟩ := hrel
    obtain ⟨c0, f0⟩ := box_cell hb (by omega) 0 _ rfl
    obtain ⟨c1, f1⟩ := box_cell hb (by omega) 1 _ rfl
    have hsz : w.heap.size + 1 ≤ wr.heap.size := by have := hb.size; simpa using this
    by_cases hm0 : 0 < m
    · have HL : Hid (es.length < 7) := by
        obtain ⟨h1, h2, h3, h4, h5⟩ := hr.out
        rcases Nat.lt_or_ge es.length 7 with g | g
        · exact g
        · have q := hN.out
          have e : es.length = 7 := by omega
          rw [e] at h3
          have : 1000 ^ 7 * 1 ≤ 1000 ^ 7 * m := Nat.mul_le_mul_left _ hm0
          omega
      have hw : IntKind.u64.wrap ((m : Int) / 1000) = (m : Int) / 1000 := by
        have q := hN2.out; have h3 := hr.out.2.2.1
        have : 1 * m ≤ 1000 ^ es.length * m := Nat.mul_le_mul_right _ (Nm.pow_pos' _)
        rw [IntKind.wrap_u64]; omega
      have HM : Hid (m % 1000 < 1000 ∧ m / 1000 < m) := ⟨by omega, by omega⟩
      go_wp2_with (at_builtin; refine append1 rfl _ _ rfl (w.heap.size + 1) _ es rfl (rowB_below hr.out.1 (ba _ _)) wr.heap.size (m % 1000) rfl ?_ (by have := HL.out; omega) (by simp; omega) ?_)
      · simp [dv]
      · intro v' w1 hown1 hb1
        have HO := Lib.hid hown1
        obtain ⟨a', cap', rfl, _⟩ := rowW_form hown1.row
        have HB : Hid (Below (w.heap.size + 1) (w.alloc (.cells #[.bool false, .slice none 0 0] 87)) w1) := hb.trans (((Below.refl _ _).alloc hsz _).trans hb1)
        clear hown1 hb1 c0 c1 f0 f1 hsz
        go_wp2
        go_roundw
        case rel =>
          refine ⟨m / 1000, es ++ [m % 1000], a', _, cap', by simp, rfl, ⟨HO.out, ?_, ?_, ?_, ?_⟩, HB.out⟩
          · exact Nm.digs_snoc _ _ hr.out.2.1 HM.out.1
          · rw [Nm.val_snoc, List.length_append, List.length_singleton, Nm.pow_succ', Nat.mul_assoc, Nat.mul_left_comm 1000, Nat.add_assoc, ← Nat.mul_add]
            rw [show m % 1000 + 1000 * (m / 1000) = m from by omega]; exact hr.out.2.2.1
          · rcases Nat.eq_zero_or_pos (m / 1000) with e | e
            · right; exact ⟨Nm.digs_snoc _ _ hr.out.2.1 HM.out.1, by simp; omega⟩
            · left; exact e
          · simp; have := HL.out; omega
        case measure => simp [intOf]; omega
    · obtain rfl : m = 0 := by omega
      go_wp2_with fail
      refine bodyPost_ret (v := .agg #[.bool false, .slice a k cap]) (by simp [results, Tryd.results60, go_sem, c0, c1]) rfl ⟨_, ?_, rfl, ?_⟩
      · obtain ⟨h1, h2, h3, h4, h5⟩ := hr.out
        refine ⟨.slice a k cap, es, by simp, ?_, by simpa using h4, by simpa using h3, h5⟩
        exact (rowB_store (rowB_store h1 (p := ⟨w.heap.size, 0, none⟩) (Nat.lt_succ_self _) _) (p := ⟨w.heap.size, 1, none⟩) (Nat.lt_succ_self _) _).row
      · exact (((ba _ _).trans (hb.mono (Nat.le_succ _))).setCell (Nat.le_refl _) _).setCell (Nat.le_refl _) _
end Go.Proofs.YtfonpegkaajnkaaDoor
