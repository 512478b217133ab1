/-
  Decimals' texts: strings as rows of bytes; the library's functions as they are asked here; dectext: digits, walked; dectext: Parse, walked.
-/
import Derived.Test.YtfonpegkaajnkaaDoorM1
import Derived.Test.YtfonpegkaajnkaaDoorM2
import Derived.Test.YtfonpegkaajnkaaDoorM3
import Derived.Lib.SmallJoins
import Derived.Lib.OthersKept
import Derived.BigQuiet
import Derived.Deep.DeepCutAuto
import Derived.Deep.RegionHeld3
import Derived.Deep.RegionLaw
import Derived.WalkMore
import Derived.Deep.DrawnRows
import Derived.Laws.ResultCell
import Derived.Laws.Rows
/-
  Decimals' texts: strings as rows of bytes; the library's functions as they are asked here.
-/
namespace Go.Proofs.YtfonpegkaajnkaaDoor.Tx
open Go Go.RowKit Dt

def bs (l : List UInt8) : ByteArray := ⟨l.toArray⟩
theorem bs_size (l : List UInt8) : (bs l).size = l.length := by unfold bs; rfl
theorem bs_cat (l k : List UInt8) : bs l ++ bs k = bs (l ++ k) := by
  unfold bs
  apply ByteArray.ext
  rw [ByteArray.data_append]
  simp
theorem bs_of (s : ByteArray) : bs s.data.toList = s := by unfold bs; simp
theorem bs_list (l : List UInt8) : (bs l).data.toList = l := by unfold bs; simp
theorem bs_toList (l : List UInt8) : (bs l).toList = l := by unfold bs; simp
theorem self_toList (S : ByteArray) : (S.toList == S.toList) = true := by simp
theorem slice_lo (l : List UInt8) (i j : Nat) : (bs l).extract i j = bs ((l.drop i).take (j - i)) := by
  unfold bs
  apply ByteArray.ext
  rw [ByteArray.data_extract]
  simp [List.extract_eq_take_drop]
theorem at_byte (l : List UInt8) (k : Nat) (c : UInt8) (h : l[k]? = some c) (w : World) : (Instr.index 9 (.string (bs l)) (.int .i64 (k : Int))).run Tryd.prog w = .ok (.int .u8 (c.toNat : Int)) w := by
  rw [run_index_string w 9 (bs l) .i64 (k : Int) Tryd.underlying9]
  obtain ⟨hk, he⟩ := List.getElem?_eq_some_iff.1 h
  rw [dif_pos ⟨by omega, by rw [bs_size]; omega⟩]
  have : (bs l)[((k : Int)).toNat]'(by rw [bs_size]; simpa using hk) = c := by
    show l.toArray[((k : Int)).toNat]'_ = c
    simp only [Int.toNat_natCast, List.getElem_toArray]
    exact he
  rw [this]
theorem take_snoc {l : List UInt8} {k : Nat} {c : UInt8} (h : l[k]? = some c) : l.take (k + 1) = l.take k ++ [c] := by rw [List.take_add_one, h]; rfl
theorem grow_below (w : World) (n : Nat) (os : Array Obj) : Below w.heap.size w (Sort.grow (w.drewN n) os) :=
  ⟨rfl, rfl, rfl, by show w.heap.size ≤ (w.heap ++ os).size; simp, fun k hk => by show (w.heap ++ os)[k]? = _; rw [Array.getElem?_append_left hk]⟩
theorem drewN_below (w : World) (n : Nat) : Below w.heap.size w (w.drewN n) := ⟨rfl, rfl, rfl, Nat.le_refl _, fun _ _ => rfl⟩
/-- what the library reads: a table, a number, an error -/
structure Env (w : World) : Prop where
  tab : Lib.TabIs Tryd.prog w "internal/strconv.uint64pow10" .u64 Lib.pow10Tab
  mx : ∃ m : Int, w.cell? ⟨4, 0, none⟩ = some (.int .i64 m)
  er : ∃ te pe, w.cell? ⟨6, 0, none⟩ = some (.iface te pe)
theorem gTab : Tryd.prog.globalNamed "internal/strconv.uint64pow10" = some 7 := by kernel_rfl
theorem Env.below {w w' : World} (h : Env w) (k : Below w.heap.size w w') : Env w' := by
  have l1 : 4 < w.heap.size := by obtain ⟨m, hm⟩ := h.mx; exact World.block_lt_of_cell? w _ hm
  have l2 : 6 < w.heap.size := by obtain ⟨m, p, hm⟩ := h.er; exact World.block_lt_of_cell? w _ hm
  refine ⟨?_, ?_, ?_⟩
  · have := h.tab
    unfold Lib.TabIs World.var? at this ⊢
    rw [gTab] at this ⊢
    simp only [Option.bind_some] at this ⊢
    cases e : w.heap[7]? with
    | none => rw [e] at this; cases this
    | some o => rw [k.block _ (Array.getElem?_eq_some_iff.1 e).1, e]; rw [e] at this; exact this
  · obtain ⟨m, hm⟩ := h.mx
    exact ⟨m, (k.cell (p := ⟨_, 0, none⟩) l1).trans hm⟩
  · obtain ⟨m, p, hm⟩ := h.er
    exact ⟨m, p, (k.cell (p := ⟨_, 0, none⟩) l2).trans hm⟩
theorem fmt_is {w : World} (n : Int) (h : Fit n) (he : Env w) : Calls Tryd.prog 65 #[.int .i64 n, .int .i64 10] w fun e w' => e = .returned (.string (bs (Lib.itoa n))) ∧ Below w.heap.size w w' := by
  refine (Tryd.strconv_FormatInt_10 n h.1 h.2 w he.tab).mono ?_
  rintro e w' ⟨rfl, k, os, rfl⟩
  exact ⟨rfl, grow_below _ _ _⟩
/-- without its sign -/
def body (l : List UInt8) : List UInt8 := if l.head? = some 45 then l.drop 1 else l
def cutP (l : List UInt8) : List UInt8 × List UInt8 × Bool := Lib.cut l [46]
theorem trim_is {w : World} (l : List UInt8) : Calls Tryd.prog 57 #[.string (bs l), .string ⟨#[45]⟩] w fun e w' => e = .returned (.string (bs (body l))) ∧ w' = w := by
  refine (Tryd.strings_TrimPrefix (bs l) ⟨#[45]⟩ w).mono ?_
  rintro e w' ⟨rfl, rfl⟩
  refine ⟨?_, rfl⟩
  rw [bs_list]
  have : Lib.trimPrefix l [45] = body l := by
    unfold Lib.trimPrefix body Lib.hasPrefix
    cases l with
    | nil => rfl
    | cons c r =>
      by_cases h : c = 45
      · subst h; rfl
      · have : ¬ (45 : UInt8) = c := fun k => h k.symm
        simp [h, this, List.isPrefixOf]
  show Ending.returned (.string ⟨(Lib.trimPrefix l [45]).toArray⟩) = _
  rw [this]; rfl
theorem cut_is {w : World} (l : List UInt8) (hl : l.length < 4294967281) (he : Env w) : Calls Tryd.prog 56 #[.string (bs l), .string ⟨#[46]⟩] w fun e w' => e = .returned (.tuple #[.string (bs (cutP l).1), .string (bs (cutP l).2.1), .bool (cutP l).2.2]) ∧ Below w.heap.size w w' := by
  obtain ⟨m, hm⟩ := he.mx
  refine (Tryd.strings_Cut (bs l) ⟨#[46]⟩ m w (by rw [bs_size]; exact hl) hm).mono ?_
  rintro e w' ⟨rfl, n, rfl⟩
  refine ⟨?_, drewN_below _ _⟩
  rw [bs_list]
  rfl
/-- what ParseInt tells of a sign and digits -/
def IntPost (z : Int) (w : World) (e : Ending) (w' : World) : Prop := ((Fit z ∧ e = .returned (.tuple #[.int .i64 z, .nilIface])) ∨ (¬ Fit z ∧ ∃ (v : Int) (t : TypeId) (p : Value), e = .returned (.tuple #[.int .i64 v, .iface t p]))) ∧ Below w.heap.size w w'
theorem pint_is {w : World} (neg : Bool) (D : List UInt8) (hD : digs D = true) (hl : D.length < 1000) (he : Env w) : Calls Tryd.prog 59 #[.string (bs (sgn neg ++ D)), .int .i64 10, .int .i64 64] w (IntPost (sg neg (val D)) w) := by
  have hs : (bs (sgn neg ++ D)).size ≤ 1001 := by rw [bs_size, List.length_append]; have : (sgn neg).length ≤ 1 := by cases neg <;> decide
                                                  omega
  have hi := int_of neg D hD
  by_cases h : Fit (sg neg (val D))
  · rw [if_pos h] at hi
    refine (Tryd.strconv_ParseInt_10_at64_ok (bs (sgn neg ++ D)) (by omega) _ (by rw [bs_list]; exact hi) w).mono ?_
    rintro e w' ⟨rfl, hw⟩
    refine ⟨.inl ⟨h, rfl⟩, ?_⟩
    rcases hw with rfl | ⟨t, rfl⟩
    · exact Below.refl _ _
    · exact Lib.bytesWorld_below _ _ _
  · rw [if_neg h] at hi
    obtain ⟨te, pe, hv⟩ := he.er
    refine (Tryd.strconv_ParseInt_10_at64_range (bs (sgn neg ++ D)) (by omega) (by rw [bs_list]; exact hi) _ w hv (.inr ⟨te, pe, rfl⟩)).mono ?_
    rintro e w' ⟨N, rfl, _, _, hb⟩
    exact ⟨.inr ⟨h, _, _, _, rfl⟩, hb⟩
end Go.Proofs.YtfonpegkaajnkaaDoor.Tx
/-
  dectext: digits, walked.
-/
namespace Go.Proofs.YtfonpegkaajnkaaDoor.Tx
open Go Go.RowKit Dt
set_option linter.unusedSimpArgs false
set_option linter.unusedVariables false
attribute [local go_sem ↓] Go.wp_at_zero Go.wp_at_succ

set_option maxRecDepth 100000 in
set_option maxHeartbeats 1000000 in
theorem digits_is {w : World} (l : List UInt8) (hl : l.length ≤ 1000) : Calls Tryd.prog 58 #[.string (bs l)] w fun e w' => e = .returned (.bool (digs l)) ∧ w' = w := by
  have hz : (bs l).size = l.length := bs_size l
  have hne : ((bs l).toList == []) = l.isEmpty := by rw [bs_toList]; cases l <;> rfl
  obtain ⟨N, hN⟩ : ∃ N, Hid (l.length = N) := ⟨_, rfl⟩
  rw [hN.out] at hz hl
  obtain ⟨E, hE⟩ : ∃ E, Hid (l.isEmpty = E) := ⟨_, rfl⟩
  rw [hE.out] at hne
  obtain ⟨S, hS⟩ : ∃ S, Hid (bs l = S) := ⟨bs l, Lib.hid rfl⟩
  rw [hS.out] at hz hne ⊢
  have HL := Lib.hid hl
  clear hl
  go_enter Tryd.func58, Tryd.ntmps58
  go_wp2_with fail
  go_loopw [6] (fun i wr => ∃ k : Nat, i = .int .i64 (k : Int) ∧ k ≤ N ∧ Hid ((l.take k).all isDg = true) ∧ wr = w) (fun i _ => N - (intOf i).toNat)
  case atStart => exact ⟨0, rfl, by omega, rfl, rfl⟩
  case round =>
    obtain ⟨k, rfl, hk, hD, rfl⟩ := hrel
    by_cases hkl : k < N
    · obtain ⟨c, hc⟩ : ∃ c, l[k]? = some c := ⟨_, List.getElem?_eq_getElem (by rw [hN.out]; exact hkl)⟩
      have kc := at_byte l k c hc
      rw [hS.out] at kc
      obtain ⟨x, hxc⟩ : ∃ x, Hid (c.toNat = x) := ⟨_, rfl⟩
      rw [hxc.out] at kc
      have HK := Lib.hid hkl
      have sn := take_snoc hc
      have kw : IntKind.i64.wrap ((k : Int) + 1) = (k : Int) + 1 := by rw [IntWalk.i64_left]; exact IntWalk.wrap64_in _ (by have := HL.out; omega)
      have dk1 : decide (k < N) = true := by simpa using hkl
      have dk2 : decide ((k : Int) < (N : Int)) = true := by simp; omega
      have bad : isDg c = false → digs l = false := fun h => by
        unfold digs
        have : l.all isDg = false := by
          cases e : l.all isDg
          · rfl
          · rw [List.all_eq_true.1 e c (List.mem_of_getElem? hc)] at h; exact Bool.noConfusion h
        rw [this, Bool.and_false]
      have isd : isDg c = (decide (48 ≤ x) && decide (x ≤ 57)) := by unfold isDg; rw [hxc.out]
      by_cases q1 : x < 48
      · have d1 : decide (x < 48) = true := by simpa using q1
        have d2 : decide ((x : Int) < 48) = true := by simp; omega
        have r := Lib.hid (bad (by rw [isd]; simp; omega))
        clear q1 hkl hk hc bad isd sn
        go_wp2_with fail
        go_ret
        exact ⟨congrArg (fun i => Ending.returned (Value.bool i)) r.out.symm, rfl⟩
      · have d1 : decide (x < 48) = false := by simpa using q1
        have d2 : decide ((x : Int) < 48) = false := by simp; omega
        by_cases q2 : 57 < x
        · have d3 : decide (57 < x) = true := by simpa using q2
          have d4 : decide (57 < (x : Int)) = true := by simp; omega
          have r := Lib.hid (bad (by rw [isd]; simp; omega))
          clear q1 q2 hkl hk hc bad isd sn
          go_wp2_with fail
          go_ret
          exact ⟨congrArg (fun i => Ending.returned (Value.bool i)) r.out.symm, rfl⟩
        · have d3 : decide (57 < x) = false := by simpa using q2
          have d4 : decide (57 < (x : Int)) = false := by simp; omega
          have hd : isDg c = true := by rw [isd]; simp; omega
          have NX : Hid ((l.take (k + 1)).all isDg = true) := by
            show _ = _
            rw [sn]; simp only [List.all_append, List.all_cons, List.all_nil, Bool.and_true, Bool.and_eq_true]; exact ⟨hD.out, hd⟩
          clear q1 q2 hkl hk hc bad isd sn hd
          go_wp2_with fail
          refine ⟨⟨k + 1, rfl, HK.out, NX, trivial⟩, ?_⟩
          show N - ((k : Int) + 1).toNat < N - (k : Int).toNat
          have := HK.out; omega
    · have hke : k = N := by omega
      subst hke
      have e : l.take k = l := List.take_of_length_le (by rw [hN.out]; exact Nat.le_refl _)
      have r : Hid (digs l = !E) := by
        show _ = _
        unfold digs
        rw [e] at hD
        rw [hD.out, hE.out, Bool.and_true]
      have dk0 : ¬ (k : Int) < (k : Int) := by omega
      clear hkl hk e
      go_wp2_with fail
      go_ret
      exact ⟨congrArg (fun i => Ending.returned (Value.bool i)) r.out.symm, rfl⟩
end Go.Proofs.YtfonpegkaajnkaaDoor.Tx
/-
  dectext: Parse, walked.
-/
namespace Go.Proofs.YtfonpegkaajnkaaDoor.Tx
open Go Go.RowKit Dt
set_option linter.unusedSimpArgs false
set_option linter.unusedVariables false
attribute [local go_sem ↓] Go.wp_at_zero Go.wp_at_succ

def neg (l : List UInt8) : Bool := decide (l.head? = some 45)
def wBad (v : List UInt8) : Bool := !digs v || (decide (1 < v.length) && decide (v.head? = some 48))
def rBad (r : List UInt8) : Bool := !digs r || decide (9 < r.length) || decide (r.getLast? = some 48)
/-- what a text is read as: a number, an error -/
def dparse (l : List UInt8) : (Int × Int) × Int :=
  if 21 < l.length then ((0, 0), 3)
  else if wBad (cutP (body l)).1 = true ∨ ((cutP (body l)).2.2 = true ∧ rBad (cutP (body l)).2.1 = true) ∨ l = [45, 48] then ((0, 0), 4)
  else if Fit (sg (neg l) (val ((cutP (body l)).1 ++ (cutP (body l)).2.1))) then ((sg (neg l) (val ((cutP (body l)).1 ++ (cutP (body l)).2.1)), ((cutP (body l)).2.1.length : Int)), 0)
  else ((0, 0), 11)
def DpPost (r : (Int × Int) × Int) (w : World) (e : Ending) (w' : World) : Prop := e = .returned (.tuple #[.agg #[.int .i64 r.1.1, .int .i64 r.1.2], .int .i64 r.2]) ∧ Below w.heap.size w w'
theorem DpPost.mk {r : (Int × Int) × Int} {a b e : Int} {w w' : World} (h : r = ((a, b), e)) (hb : Below w.heap.size w w') : DpPost r w (.returned (.tuple #[.agg #[.int .i64 a, .int .i64 b], .int .i64 e])) w' := by
  subst h; exact ⟨rfl, hb⟩
/-- a number in memory -/
def Two (w : World) (b : Nat) (x y : Int) : Prop := w.heap[b]? = some (.cells #[.int .i64 x, .int .i64 y] 24 (0, 0))
section
variable {w : World} {b : Nat} {x y : Int}
theorem Two.lt (h : Two w b x y) : b < w.heap.size := (Array.getElem?_eq_some_iff.1 h).1
theorem Two.c0 (h : Two w b x y) : w.cell? ⟨b, 0, none⟩ = some (.int .i64 x) := by rw [cell_of_row w _ _ _ _ (0, 0) h]; rfl
theorem Two.c1 (h : Two w b x y) : w.cell? ⟨b, 1, none⟩ = some (.int .i64 y) := by rw [cell_of_row w _ _ _ _ (0, 0) h]; rfl
theorem Two.f (h : Two w b x y) (i : Nat) : w.frozen? ⟨b, i, none⟩ = false := frozen_of_row w _ _ _ _ h
theorem Two.below {w' : World} (h : Two w b x y) (k : Below w.heap.size w w') : Two w' b x y := (k.block b h.lt).trans h
theorem Two.set (h : Two w b x y) (x' y' : Int) : Two ((w.setCell ⟨b, 0, none⟩ (.int .i64 x')).setCell ⟨b, 1, none⟩ (.int .i64 y')) b x' y' := by
  have h1 : Two (w.setCell ⟨b, 0, none⟩ (.int .i64 x')) b x' y := by show _ = _; rw [heap_setCell_same w b 0 _ _ _ h]; rfl
  show _ = _
  rw [heap_setCell_same _ b 1 _ _ _ h1]; rfl
theorem results_cell2 {P : Program} {fn : Func} {p u : Tmp} {ty : TypeId} (h : fn.results = #[.cell p ty, .tmp u]) (tmps : Array Value) (w : World) (g : Nat) (t : TypeId) (cs : Array Value) (fr : Nat × Nat) (d : TypeDesc)
    (hp : tmps.getD p undef = .pointer (some ⟨g, 0, none⟩)) (hg : w.heap[g]? = some (.cells cs t fr))
    (hu : P.underlying ty = some d) (hd : (match d with | .struct _ | .array _ _ => true | _ => false) = true) (hi : (P.info? ty).map (·.size) = some cs.size) :
    (results fn tmps).run P w = .ok (.tuple #[.agg cs, tmps.getD u undef]) w := by
  rw [results_cell_tmp h, hp]
  simp [asAddr, run_loadVar_row w g t ty cs fr d hg hu hd hi, Result.andThen]
theorem Two.new (w : World) (x y : Int) : Two (w.alloc (.cells #[.int .i64 x, .int .i64 y] 24)) w.heap.size x y := by
  show (w.heap.push _)[w.heap.size]? = _
  rw [Array.getElem?_push_size]
end
theorem body_len (l : List UInt8) : (body l).length ≤ l.length := by
  unfold body; split
  · rw [List.length_drop]; omega
  · exact Nat.le_refl _
theorem cutP_cases (l : List UInt8) : cutP l = (l, [], false) ∨ ∃ i : Nat, cutP l = (l.take i, l.drop (i + 1), true) ∧ i < l.length ∧ l[i]? = some 46 ∧ ∀ j, j < i → l[j]? ≠ some 46 := by
  unfold cutP Lib.cut
  have hd : ∀ j, j < l.length → (Lib.occAt l [46] j = true ↔ l[j]? = some 46) := fun j hj => by
    rw [Lib.occAt_iff_take l [46] j (by show j + 1 ≤ _; omega), List.length_singleton, List.take_one, List.head?_drop, List.getElem?_eq_getElem hj]
    simp
  rcases Lib.index_spec l [46] with ⟨h, _⟩ | ⟨i, h, hi, ho, hn⟩
  · rw [h]; exact .inl rfl
  · rw [h]
    have room : i + 1 ≤ l.length := by
      rcases Lib.occAt_room ho with k | k
      · exact k
      · cases k
    refine .inr ⟨i, by rw [if_pos (by omega), Int.toNat_natCast]; rfl, room, (hd i room).1 ho, fun j hj k => ?_⟩
    have := (hd j (by omega)).2 k
    rw [hn j hj] at this
    cases this
theorem cutP_len (l : List UInt8) : (cutP l).1.length + (cutP l).2.1.length ≤ l.length := by
  rcases cutP_cases l with e | ⟨i, e, _⟩
  · rw [e]; simp
  · rw [e]; dsimp only; rw [List.length_take, List.length_drop]; omega
theorem digs_ne {l : List UInt8} (h : digs l = true) : l ≠ [] := by intro e; subst e; cases h
theorem digs_app {a b : List UInt8} (h : digs a = true) (k : b.all isDg = true) : digs (a ++ b) = true := by
  have hn := digs_ne h
  unfold digs at h ⊢
  simp only [Bool.and_eq_true] at h ⊢
  refine ⟨?_, by rw [List.all_append, h.2, k]; rfl⟩
  cases a with
  | nil => exact absurd rfl hn
  | cons c r => rfl
theorem digs_all {a : List UInt8} (h : digs a = true) : a.all isDg = true := by unfold digs at h; simp only [Bool.and_eq_true] at h; exact h.2
end Go.Proofs.YtfonpegkaajnkaaDoor.Tx
