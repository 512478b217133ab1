/-
  prorate.Shares: its guards; prorate.Shares: what stands in memory while the shares are made.
-/
import Derived.Test.YtngelemjpgglpaaM15
import Derived.Test.YtngelemjpgglpaaM29
import Derived.BigQuiet
import Derived.Test.YtngelemjpgglpaaM30
import Derived.Test.YtngelemjpgglpaaM31
/-
  prorate.Shares: its guards.
-/
namespace Go.Proofs.Ytngelemjpgglpaa.Pro
open Go Go.RowKit Itr
set_option linter.unusedSimpArgs false
set_option linter.unusedVariables false
attribute [local go_sem ↓] Go.wp_at_zero Go.wp_at_succ
attribute [local go_sem] Oper.semAt_some

theorem calls_marks {P : Program} {f : FuncId} {fn : Func} {c : Code} {args : Array Value} {w : World} {R : Ending → World → Prop} (hf : P.funcs[f]? = some fn) (hb : fn.body = some c)
    (h : c.wp P (bodyPostM Fence.wide 10 P fn R) { tmps := args ++ Array.replicate (fn.ntmps - args.size) undef, defers := [] } w) : Calls P f args w R :=
  (callsIn_wide (n := 10)).1 (callsIn_of_wp_marks hf hb trivial (wpIn_wide.2 h) rfl)
/-- a row of decimals -/
def decCells (x : Int × Nat) : List Value := [.int .i64 x.1, .int .i64 (x.2 : Int)]
def decE : Elem Try.prog (Int × Nat) where
  sl := 26
  e := 23
  sz := 2
  bytes := 16
  z := .agg #[.int .i64 0, .int .i64 0]
  enc := decCells
  und := Try.underlying26
  info := by kernel_rfl
  zs := rfl
  pos := by decide
  len := fun _ => rfl
  one := fun x u hu => by simp only [decCells, List.mem_cons, List.not_mem_nil, or_false] at hu; rcases hu with rfl | rfl <;> rfl
abbrev RowD (w : World) (B : Nat) (v : Value) (xs : List (Int × Nat)) : Prop := decE.Row w B v xs
theorem trim_fits (c : Int) (s : Nat) (h : fits c) : fits (trim c s).1 := by
  have hv := trim_val c s
  have hp := pow_pos10 (s - (trim c s).2)
  have h1 : -9223372036854775808 ≤ c ∧ c ≤ 9223372036854775807 := h
  show -9223372036854775808 ≤ (trim c s).1 ∧ (trim c s).1 ≤ 9223372036854775807
  generalize (trim c s).1 = u at *
  generalize (10 : Int) ^ (s - (trim c s).2) = p at *
  by_cases hu : 0 ≤ u
  · have := Int.mul_le_mul_of_nonneg_left (show 1 ≤ p by omega) hu
    omega
  · have := Int.mul_le_mul_of_nonneg_left (show 1 ≤ p by omega) (show 0 ≤ -u by omega)
    rw [Int.neg_mul, Int.neg_mul] at this
    omega
theorem put_ok (c : Int) (n : Nat) (hc : fits c) (hn : n ≤ 9) : putV c (n : Int) = .tuple #[.agg #[.int .i64 (trim c n).1, .int .i64 ((trim c n).2 : Int)], .int .i64 0] := by
  unfold putV
  rw [if_pos (by unfold isB; simp; omega), show ((n : Int)).toNat = n from rfl, decV_un c n hn]
  unfold decV
  rw [if_pos (trim_fits c n hc)]
/-- what is refused as an argument that may not be -/
def refused (s : Int) (s1 : Nat) (ws : List Int) : Prop := s < (s1 : Int) ∨ 9 < s ∨ 1000 < ws.length ∨ badW ws
instance (s : Int) (s1 : Nat) (ws : List Int) : Decidable (refused s s1 ws) := by unfold refused; exact inferInstance
/-- the boxes at the beginning -/
structure Box0 (w W : World) (i : Nat) (c n s : Int) (rv ev : Value) : Prop where
  a : DAt W i c n
  s : W.heap[i + 1]? = some (.cells #[.int .i64 s] 3 (0, 0))
  r : W.heap[i + 1 + 1]? = some (.cells #[rv] 26 (0, 0))
  e : W.heap[i + 1 + 1 + 1]? = some (.cells #[ev] 27 (0, 0))
  bel : Below i w W
theorem box0_new (w : World) (c n s : Int) : Box0 w ((((w.alloc (.cells #[.int .i64 c, .int .i64 n] 23)).alloc (.cells #[.int .i64 s] 3)).alloc (.cells #[.slice none 0 0] 26)).alloc (.cells #[.int .i64 0] 27)) w.heap.size c n s (.slice none 0 0) (.int .i64 0) := by
  have h1 := heap_alloc_new (w.alloc (.cells #[.int .i64 c, .int .i64 n] 23)) (.cells #[.int .i64 s] 3)
  have h2 := heap_alloc_new ((w.alloc (.cells #[.int .i64 c, .int .i64 n] 23)).alloc (.cells #[.int .i64 s] 3)) (.cells #[.slice none 0 0] 26)
  have h3 := heap_alloc_new (((w.alloc (.cells #[.int .i64 c, .int .i64 n] 23)).alloc (.cells #[.int .i64 s] 3)).alloc (.cells #[.slice none 0 0] 26)) (.cells #[.int .i64 0] 27)
  simp only [World.size_alloc] at h1 h2 h3
  refine ⟨?_, ?_, ?_, h3, bt (bt (bt (ba _ _) (ba _ _)) (ba _ _)) (ba _ _)⟩
  · exact DAt.below (dAt_new w c n) (bt (bt (ba _ _) (ba _ _)) (ba _ _))
  · exact (Below.heap_alloc _ _ _ (by simp)).trans ((Below.heap_alloc _ _ _ (by simp)).trans h1)
  · exact (Below.heap_alloc _ _ _ (by simp)).trans h2
theorem Box0.below {w W W' : World} {i : Nat} {c n s : Int} {rv ev : Value} (h : Box0 w W i c n s rv ev) (k : Below W.heap.size W W') : Box0 w W' i c n s rv ev := by
  have M : ∀ {j : Nat} {o : Obj}, W.heap[j]? = some o → W'.heap[j]? = some o := fun e => (k.block _ (Array.getElem?_eq_some_iff.1 e).1).trans e
  exact ⟨M h.a, M h.s, M h.r, M h.e, h.bel.trans (k.mono (by have := h.a.lt; omega))⟩
theorem Box0.setA {w W : World} {i : Nat} {c n s : Int} {rv ev : Value} (h : Box0 w W i c n s rv ev) (x y : Int) : Box0 w ((W.setCell ⟨i, 0, none⟩ (.int .i64 x)).setCell ⟨i, 1, none⟩ (.int .i64 y)) i x y s rv ev := by
  have M : ∀ {j : Nat} {o : Obj}, j ≠ i → W.heap[j]? = some o → ((W.setCell ⟨i, 0, none⟩ (.int .i64 x)).setCell ⟨i, 1, none⟩ (.int .i64 y)).heap[j]? = some o := fun hj e => (Below.heap_setCell _ _ _ _ hj).trans ((Below.heap_setCell _ _ _ _ hj).trans e)
  exact ⟨dAt_set2 x y h.a, M (by omega) h.s, M (by omega) h.r, M (by omega) h.e, (h.bel.setCell (Nat.le_refl _) _).setCell (Nat.le_refl _) _⟩
/-- what Shares tells -/
def SharesPost (c n s : Int) (ws : List Int) (w : World) (e : Ending) (w' : World) : Prop :=
  ∃ rv, e = .returned (.tuple #[rv, .int .i64 (sharesA c n s ws).2]) ∧ RowD w' w.heap.size rv (sharesA c n s ws).1 ∧ Below w.heap.size w w'
theorem Box0.setR {w W : World} {i : Nat} {c n s : Int} {rv ev : Value} (h : Box0 w W i c n s rv ev) (r e : Value) : Box0 w ((W.setCell ⟨i + 1 + 1, 0, none⟩ r).setCell ⟨i + 1 + 1 + 1, 0, none⟩ e) i c n s r e := by
  have M : ∀ {j : Nat} {o : Obj}, j ≠ i + 1 + 1 → j ≠ i + 1 + 1 + 1 → W.heap[j]? = some o → ((W.setCell ⟨i + 1 + 1, 0, none⟩ r).setCell ⟨i + 1 + 1 + 1, 0, none⟩ e).heap[j]? = some o := fun h1 h2 e => (Below.heap_setCell _ _ _ _ h2).trans ((Below.heap_setCell _ _ _ _ h1).trans e)
  refine ⟨M (by omega) (by omega) h.a, M (by omega) (by omega) h.s, ?_, ?_, (h.bel.setCell (by show i ≤ i + 1 + 1; omega) _).setCell (by show i ≤ i + 1 + 1 + 1; omega) _⟩
  · refine (Below.heap_setCell _ _ _ _ (by show i + 1 + 1 ≠ i + 1 + 1 + 1; omega)).trans ?_
    exact Boxed.set r h.r
  · exact Boxed.set e (show Boxed (W.setCell ⟨i + 1 + 1, 0, none⟩ r) (i + 1 + 1 + 1) _ ev from (Below.heap_setCell _ _ _ _ (by show i + 1 + 1 + 1 ≠ i + 1 + 1; omega)).trans h.e)
theorem Box0.facts {w W : World} {i : Nat} {c n s : Int} {rv ev : Value} (h : Box0 w W i c n s rv ev) :
    W.cell? ⟨i, 0, none⟩ = some (.int .i64 c) ∧ W.cell? ⟨i, 1, none⟩ = some (.int .i64 n) ∧ W.cell? ⟨i + 1, 0, none⟩ = some (.int .i64 s) ∧ W.cell? ⟨i + 1 + 1, 0, none⟩ = some rv ∧ W.cell? ⟨i + 1 + 1 + 1, 0, none⟩ = some ev ∧
    W.frozen? ⟨i, 0, none⟩ = false ∧ W.frozen? ⟨i, 1, none⟩ = false ∧ W.frozen? ⟨i + 1 + 1, 0, none⟩ = false ∧ W.frozen? ⟨i + 1 + 1 + 1, 0, none⟩ = false :=
  ⟨h.a.c0, h.a.c1, Boxed.cell h.s, Boxed.cell h.r, Boxed.cell h.e, h.a.f0, h.a.f1, Boxed.frozen h.r, Boxed.frozen h.e⟩
set_option maxRecDepth 100000 in
set_option maxHeartbeats 4000000 in
/-- a number that is none -/
theorem shares_none {w : World} {v : Value} {ws : List Int} (c n s : Int) (hc : fits c) (ha : ArgI w v ws) (hn : isB n = false) :
    Calls Try.prog 7 #[.agg #[.int .i64 c, .int .i64 n], .int .i64 s, v] w (SharesPost c n s ws w) := by
  obtain ⟨ao, cap, rfl, hcap, hcell⟩ := id ha
  have X := box0_new w c n s
  have PA := dPut_any c n (noneV 2) ((((w.alloc (.cells #[.int .i64 c, .int .i64 n] 23)).alloc (.cells #[.int .i64 s] 3)).alloc (.cells #[.slice none 0 0] 26)).alloc (.cells #[.int .i64 0] 27)) hc (by unfold putV; rw [hn]; rfl)
  unfold noneV at PA
  have SA : Hid (sharesA c n s ws = ([], 2)) := by
    show _ = _
    unfold sharesA
    rw [if_pos (.inl (by unfold isB at hn; simpa using hn))]
  clear hcell ha hc hn
  refine calls_marks Try.func7 rfl ?_
  simp only [Try.ntmps7, List.size_toArray, List.length_cons, List.length_nil, Nat.reduceAdd, Nat.reduceSub, Array.replicate_succ, Array.replicate_zero, List.push_toArray, List.append_toArray, List.nil_append, List.cons_append]
  go_upto_region 1 with fail
  generalize World.alloc (World.alloc (World.alloc (World.alloc w _) _) _) _ = W0 at X PA ⊢
  obtain ⟨i, hi⟩ : ∃ i, Hid (w.heap.size = i) := ⟨_, rfl⟩
  rw [hi.out] at X ⊢
  obtain ⟨c0, c1, c2, c3, c4, f0, f1, f2, f3⟩ := X.facts
  have HX := Lib.hid X
  clear X
  go_upto_region 2 with (go_at_call 21; (with_reducible refine PA.mono ?_); rintro e w2 ⟨rfl, b2⟩; have X2 := Lib.hid (HX.out.below b2); obtain ⟨c0, c1, c2, c3, c4, f0, f1, f2, f3⟩ := X2.out.facts; clear b2 PA)
  clear c0 c1 c2 c3 c4 f0 f1 f2 f3
  have X3 := Lib.hid (X2.out.setA 0 0)
  generalize World.setCell (World.setCell w2 _ _) _ _ = W3 at X3 ⊢
  obtain ⟨c0, c1, c2, c3, c4, f0, f1, f2, f3⟩ := X3.out.facts
  go_wp2_with fail
  have X4 := Lib.hid (X3.out.setR (.slice none 0 0) (.int .i64 2))
  generalize World.setCell (World.setCell W3 _ _) _ _ = W4 at X4 ⊢
  obtain ⟨c0, c1, c2, c3, c4, f0, f1, f2, f3⟩ := X4.out.facts
  show LeavesInM _ _ _ _ _ _ _ _ _
  refine ⟨.tuple #[.slice none 0 0, .int .i64 2], by simp [results, Try.results7, go_sem, c3, c4], .slice none 0 0, by rw [SA.out], by rw [SA.out]; exact World.ownsRow_nil _ _ _ _, ?_⟩
  rw [hi.out]; exact X4.out.bel
theorem refused_iff (c s : Int) (n : Nat) (ws : List Int) (hn : n ≤ 9) : refused s (trim c n).2 ws ↔ (¬ (0 ≤ (n : Int) ∧ (n : Int) ≤ 9) ∨ s < 0 ∨ 9 < s ∨ 1000 < ws.length ∨ ¬ (trim c ((n : Int)).toNat).2 ≤ s.toNat ∨ ¬ (∀ x ∈ ws, okW x)) := by
  have e : ((n : Int)).toNat = n := rfl
  have hb : badW ws ↔ ¬ (∀ x ∈ ws, okW x) := by unfold badW; simp
  rw [e, ← hb]
  unfold refused
  constructor
  · rintro (h | h | h | h)
    · by_cases h0 : s < 0
      · exact .inr (.inl h0)
      · exact .inr (.inr (.inr (.inr (.inl (by omega)))))
    · exact .inr (.inr (.inl h))
    · exact .inr (.inr (.inr (.inl h)))
    · exact .inr (.inr (.inr (.inr (.inr h))))
  · rintro (h | h | h | h | h | h)
    · omega
    · exact .inl (by omega)
    · exact .inr (.inl h)
    · exact .inr (.inr (.inl h))
    · exact .inl (by omega)
    · exact .inr (.inr (.inr h))
theorem small_of {ws : List Int} (h : ∀ x ∈ ws, okW x) (hl : ws.length ≤ 1000) : small ws := by
  intro k
  have h1 := (pre_bound h k).1
  have h2 := pre_mono h (show k ≤ k + ws.length by omega)
  have h3 := (pre_bound h ws.length).2
  by_cases hk : k ≤ ws.length
  · have := pre_mono h hk; omega
  · have e : pre ws k = pre ws ws.length := by rw [pre_all _ (by omega), pre_all _ (Nat.le_refl _)]
    omega
end Go.Proofs.Ytngelemjpgglpaa.Pro
/-
  prorate.Shares: what stands in memory while the shares are made.
-/
namespace Go.Proofs.Ytngelemjpgglpaa.Pro
open Go Go.RowKit Itr
set_option linter.unusedSimpArgs false
set_option linter.unusedVariables false

/-- the blocks' order -/
structure Ord (i i9 iu io il B : Nat) : Prop where
  a : i + 3 < i9
  b : i9 < io
  c : iu < io
  d : io < il
  e : il + 2 = B
structure Lp (w W : World) (i i9 iu io il B : Nat) (c1 s1 S : Int) (aln : Nat) (rb : Bool) (rh rl : Nat) (lo : Int) (row : List (Int × Nat)) : Prop where
  bx : Box0 w W i c1 s1 S (.slice none 0 0) (.int .i64 0)
  al : Boxed W i9 3 (.int .i64 (aln : Int))
  un : WAt W iu rb (rh : Int) (rl : Int)
  out : ∃ v, Boxed W io 26 v ∧ RowD W (B + 2) v row
  la : ∃ (b : Bool) (h l : Nat), WAt W il b (h : Int) (l : Int) ∧ IsW lo b h l
section
variable {w W W' : World} {i i9 iu io il B : Nat} {c1 s1 S : Int} {aln : Nat} {rb : Bool} {rh rl : Nat} {lo : Int} {row : List (Int × Nat)}
theorem Box0.blocks {c n s : Int} {rv ev : Value} (h : Box0 w W i c n s rv ev) (hb : ∀ k, i ≤ k → k ≤ i + 3 → W'.heap[k]? = W.heap[k]?) (hz : Below i w W') : Box0 w W' i c n s rv ev :=
  ⟨(hb i (by omega) (by omega)).trans h.a, (hb (i + 1) (by omega) (by omega)).trans h.s, (hb (i + 1 + 1) (by omega) (by omega)).trans h.r, (hb (i + 1 + 1 + 1) (by omega) (by omega)).trans h.e, hz⟩
theorem Lp.below (h : Lp w W i i9 iu io il B c1 s1 S aln rb rh rl lo row) (k : Below W.heap.size W W') : Lp w W' i i9 iu io il B c1 s1 S aln rb rh rl lo row := by
  have M : ∀ {j : Nat} {o : Obj}, W.heap[j]? = some o → W'.heap[j]? = some o := fun e => (k.block _ (Array.getElem?_eq_some_iff.1 e).1).trans e
  obtain ⟨v, h1, h2⟩ := h.out
  obtain ⟨b, hh, l, h3, h4⟩ := h.la
  exact ⟨h.bx.below k, M h.al, M h.un, ⟨v, M h1, h2.below k⟩, ⟨b, hh, l, M h3, h4⟩⟩
/-- it stays, where others' blocks turn -/
theorem Lp.kept {r : Option Nat} (O : Ord i i9 iu io il B) (h : Lp w W i i9 iu io il B c1 s1 S aln rb rh rl lo row) (hg : W.grownBy W' r) (hr : ∀ k, r = some k → B ≤ k ∧ k < B + 2) : Lp w W' i i9 iu io il B c1 s1 S aln rb rh rl lo row := by
  have O1 := O.a; have O2 := O.b; have O3 := O.c; have O4 := O.d; have O5 := O.e
  have M : ∀ {j : Nat} {o : Obj}, j < B → W.heap[j]? = some o → W'.heap[j]? = some o := fun hj e => (hg.block _ (Array.getElem?_eq_some_iff.1 e).1 (fun e' => by have := (hr _ e'.symm).1; omega)).trans e
  obtain ⟨v, h1, h2⟩ := h.out
  obtain ⟨b, hh, l, h3, h4⟩ := h.la
  refine ⟨⟨M (by omega) h.bx.a, M (by omega) h.bx.s, M (by omega) h.bx.r, M (by omega) h.bx.e, h.bx.bel.grown hg (by have := h.bx.a.lt; omega) (fun k e => by have := (hr k e).1; omega)⟩, M (by omega) h.al, M (by omega) h.un, ⟨v, M (by omega) h1, h2.kept hg ?_⟩, ⟨b, hh, l, M (by omega) h3, h4⟩⟩
  by_cases e : v.ownBlock = none
  · exact .inl e
  · refine .inr fun e' => ?_
    obtain ⟨j, hj⟩ := Option.ne_none_iff_exists'.1 e
    have h4 := (h2.lt j hj).1
    have h5 := (hr j (e'.symm.trans hj)).2
    omega
/-- a round's end: one share more, the last sum -/
theorem Lp.next {w6 W5 : World} {v v' : Value} {b : Bool} {hh l : Nat} {x : Int} {p : Int × Nat} (O : Ord i i9 iu io il B) (h : Lp w W i i9 iu io il B c1 s1 S aln rb rh rl lo row) (hB : B + 2 ≤ W.heap.size) (hv : RowD W (B + 2) v row)
    (h5 : Below W.heap.size W W5) (hr : RowD w6 (B + 2) v' (row ++ [p])) (hg : W5.grownBy w6 v.ownBlock) (hx : IsW x b hh l) :
    Lp w ((((w6.setCell ⟨io, 0, none⟩ v').setCell ⟨il, 0, none⟩ (.bool b)).setCell ⟨il, 1, none⟩ (.int .u64 (hh : Int))).setCell ⟨il, 2, none⟩ (.int .u64 (l : Int))) i i9 iu io il B c1 s1 S aln rb rh rl x (row ++ [p]) ∧
    ∀ T : Nat → Prop, (∀ k, T k → k ≠ io ∧ k ≠ il ∧ k < B + 2) → Keep T W ((((w6.setCell ⟨io, 0, none⟩ v').setCell ⟨il, 0, none⟩ (.bool b)).setCell ⟨il, 1, none⟩ (.int .u64 (hh : Int))).setCell ⟨il, 2, none⟩ (.int .u64 (l : Int))) := by
  have O1 := O.a; have O2 := O.b; have O3 := O.c; have O4 := O.d; have O5 := O.e
  have k6 : ∀ j, j < B + 2 → w6.heap[j]? = W.heap[j]? := fun j hj => (hg.block j (by have := h5.size; omega) (fun e => by have := (hv.lt j e.symm).1; omega)).trans (h5.block j (by omega))
  have z6 : W.heap.size ≤ w6.heap.size := Nat.le_trans h5.size hg.size
  obtain ⟨W7, hW7⟩ : ∃ W7, W7 = ((((w6.setCell ⟨io, 0, none⟩ v').setCell ⟨il, 0, none⟩ (.bool b)).setCell ⟨il, 1, none⟩ (.int .u64 (hh : Int))).setCell ⟨il, 2, none⟩ (.int .u64 (l : Int))) := ⟨_, rfl⟩
  rw [← hW7]
  have k7 : ∀ j, j ≠ io → j ≠ il → W7.heap[j]? = w6.heap[j]? := fun j h1 h2 => by
    rw [hW7, Below.heap_setCell _ _ _ _ h2, Below.heap_setCell _ _ _ _ h2, Below.heap_setCell _ _ _ _ h2, Below.heap_setCell _ _ _ _ h1]
  have z7 : W7.heap.size = w6.heap.size := by rw [hW7]; simp [World.setCell]
  obtain ⟨v0, b0, r0⟩ := h.out
  obtain ⟨lb, lh, ll, la, li⟩ := h.la
  have b6 : Boxed w6 io 26 v0 := (k6 io (by omega)).trans b0
  have l6 : WAt w6 il lb lh ll := (k6 il (by omega)).trans la
  have bel : Below i w W7 := by
    have h1 : Below i w w6 := (h.bx.bel.trans (h5.mono (by have := h.bx.a.lt; omega))).grown hg (by have := h.bx.a.lt; have := h5.size; omega) (fun k e => by have := (hv.lt k e).1; omega)
    rw [hW7]
    exact (((h1.setCell (by show i ≤ io; omega) _).setCell (by show i ≤ il; omega) _).setCell (by show i ≤ il; omega) _).setCell (by show i ≤ il; omega) _
  refine ⟨⟨h.bx.blocks (fun k h1 h2 => (k7 k (by omega) (by omega)).trans (k6 k (by omega))) bel, (k7 i9 (by omega) (by omega)).trans ((k6 i9 (by omega)).trans h.al), (k7 iu (by omega) (by omega)).trans ((k6 iu (by omega)).trans h.un), ⟨v', ?_, ?_⟩, ⟨b, hh, l, ?_, hx⟩⟩, ?_⟩
  · rw [hW7]
    have ne : io ≠ il := by omega
    exact (Below.heap_setCell _ _ _ _ ne).trans ((Below.heap_setCell _ _ _ _ ne).trans ((Below.heap_setCell _ _ _ _ ne).trans (b6.set v')))
  · refine hr.block fun g hgg => k7 g ?_ ?_
    · have := (hr.lt g hgg).1; omega
    · have := (hr.lt g hgg).1; omega
  · rw [hW7]
    refine wAt_set3 _ _ _ (show WAt (w6.setCell ⟨io, 0, none⟩ v') il lb lh ll from (Below.heap_setCell _ _ _ _ (show il ≠ io by omega)).trans l6)
  · intro T hT
    refine ⟨by omega, fun k hk hl => ?_⟩
    obtain ⟨t1, t2, t3⟩ := hT k hk
    exact (k7 k t1 t2).trans (k6 k t3)
end
end Go.Proofs.Ytngelemjpgglpaa.Pro
