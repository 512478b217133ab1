/-
  avl: down, walked.
-/
import Derived.Test.YtmgljgmfipodeaaM15
import Derived.Deep.WholeRow
import Derived.Deep.MidRow
/-
  avl: down, walked.
-/
namespace Go.Proofs.Ytmgljgmfipodeaa.Av
open Go Go.RowKit
set_option linter.unusedSimpArgs false
set_option linter.unusedVariables false
attribute [local go_sem ↓] Go.wp_at_zero Go.wp_at_succ

/-- a path's cells: 40 places, 40 flags, how many -/
def pathZ : Array Value := (List.replicate 40 (Value.int .i64 0) ++ List.replicate 40 (Value.bool false) ++ [Value.int .i64 0]).toArray
theorem path_info : (Try.prog.info? 82).map (fun i => (i.zero, i.size)) = some (some (.agg pathZ), 81) := by kernel_rfl
theorem path_zero (w : World) : (zeroValue 82).run Try.prog w = .ok (.agg pathZ) w := (zero_of_info path_info).1 w
theorem path_size : (Try.prog.info? 82).map (·.size) = some 81 := (zero_of_info path_info).2
/-- a path lies in a block -/
def PAt (w : World) (q : Nat) (cs : Array Value) : Prop := w.heap[q]? = some (.cells cs 82 (0, 0))
structure PathC (cs : Array Value) (cr : List Tr.Fr) (n : Nat) : Prop where
  size : cs.size = 81
  one : cs.all (·.oneCell') = true
  n : cs[80]? = some (.int .i64 (n : Int))
  at' : ∀ (i : Nat) (f : Tr.Fr), cr[i]? = some f → cs[i]? = some (.int .i64 (f.p : Int)) ∧ cs[40 + i]? = some (.bool f.right)
  fl : ∀ i, cr.length ≤ i → i < 40 → cs[40 + i]? = some (.bool false)
theorem pathZ_fl : ∀ i, i < 40 → pathZ[40 + i]? = some (.bool false) := fun i h => by
  unfold pathZ
  rw [List.getElem?_toArray, List.getElem?_append_left (by simp; omega), List.getElem?_append_right (by simp), List.getElem?_replicate, List.length_replicate, if_pos (by omega)]
theorem pathZ_ok : PathC pathZ [] 0 := ⟨by simp [pathZ], by simp [pathZ, Value.oneCell'], rfl, fun i f h => by simp at h, fun i _ h => pathZ_fl i h⟩
theorem all_set {cs : Array Value} (h : cs.all (·.oneCell') = true) (i : Nat) (v : Value) (hv : v.oneCell' = true) : (cs.setIfInBounds i v).all (·.oneCell') = true := by
  rw [Array.all_eq_true_iff_forall_mem] at h ⊢
  intro x hx
  obtain ⟨j, e⟩ := Array.mem_iff_getElem?.1 hx
  rw [Array.getElem?_setIfInBounds] at e
  split at e
  · split at e
    · simp only [Option.some.injEq] at e; rw [← e]; exact hv
    · simp at e
  · exact h _ (Array.mem_of_getElem? e)
theorem PathC.count {cs : Array Value} {cr : List Tr.Fr} {n : Nat} (h : PathC cs cr n) (hl : cr.length ≤ 40) (m : Nat) : PathC (cs.setIfInBounds 80 (.int .i64 (m : Int))) cr m := by
  refine ⟨by rw [Array.size_setIfInBounds]; exact h.size, all_set h.one _ _ rfl, ?_, fun i f hf => ?_, fun i h1 h2 => by rw [Array.getElem?_setIfInBounds_ne (by omega)]; exact h.fl i h1 h2⟩
  · rw [Array.getElem?_setIfInBounds]; simp [h.size]
  · have := (List.getElem?_eq_some_iff.1 hf).1
    obtain ⟨a, b⟩ := h.at' i f hf
    rw [Array.getElem?_setIfInBounds_ne (by omega), Array.getElem?_setIfInBounds_ne (by omega)]
    exact ⟨a, b⟩
/-- the place at the path's end -/
theorem PathC.step {cs : Array Value} {cr : List Tr.Fr} {n : Nat} (h : PathC cs cr n) (hl : cr.length < 40) (p : Nat) : PathC (cs.setIfInBounds cr.length (.int .i64 (p : Int))) cr n ∧ (cs.setIfInBounds cr.length (.int .i64 (p : Int)))[cr.length]? = some (.int .i64 (p : Int)) := by
  refine ⟨⟨by rw [Array.size_setIfInBounds]; exact h.size, all_set h.one _ _ rfl, ?_, fun i f hf => ?_, fun i h1 h2 => by rw [Array.getElem?_setIfInBounds_ne (by omega)]; exact h.fl i h1 h2⟩, ?_⟩
  · rw [Array.getElem?_setIfInBounds_ne (by omega)]; exact h.n
  · have := (List.getElem?_eq_some_iff.1 hf).1
    obtain ⟨a, b⟩ := h.at' i f hf
    rw [Array.getElem?_setIfInBounds_ne (by omega), Array.getElem?_setIfInBounds_ne (by omega)]
    exact ⟨a, b⟩
  · rw [Array.getElem?_setIfInBounds]; simp [h.size]; omega
/-- and which way it goes on -/
theorem PathC.turn {cs : Array Value} {cr : List Tr.Fr} {n : Nat} (h : PathC cs cr n) (hl : cr.length < 40) (f : Tr.Fr) (hp : cs[cr.length]? = some (.int .i64 (f.p : Int))) : PathC (cs.setIfInBounds (40 + cr.length) (.bool f.right)) (cr ++ [f]) n := by
  refine ⟨by rw [Array.size_setIfInBounds]; exact h.size, all_set h.one _ _ rfl, ?_, fun i g hg => ?_, fun i h1 h2 => by rw [List.length_append, List.length_singleton] at h1; rw [Array.getElem?_setIfInBounds_ne (by omega)]; exact h.fl i (by omega) h2⟩
  · rw [Array.getElem?_setIfInBounds_ne (by omega)]; exact h.n
  · have := (List.getElem?_eq_some_iff.1 hg).1
    rw [List.length_append, List.length_singleton] at this
    rw [Array.getElem?_setIfInBounds_ne (by omega)]
    by_cases e : i = cr.length
    · subst e
      simp only [List.getElem?_concat_length, Option.some.injEq] at hg
      subst hg
      refine ⟨hp, ?_⟩
      rw [Array.getElem?_setIfInBounds]; simp [h.size]; omega
    · rw [List.getElem?_append_left (by omega)] at hg
      obtain ⟨a, b⟩ := h.at' i g hg
      rw [Array.getElem?_setIfInBounds_ne (by omega)]
      exact ⟨a, b⟩
section
variable {w : World} {q : Nat} {cs : Array Value}
theorem PAt.lt (h : PAt w q cs) : q < w.heap.size := (Array.getElem?_eq_some_iff.1 h).1
theorem PAt.but {S : Nat → Prop} {w' : World} (h : PAt w q cs) (hb : But S w w') (hs : ¬ S q) : PAt w' q cs := by
  unfold PAt; rw [hb.block q h.lt hs]; exact h
theorem PAt.below {w' : World} (h : PAt w q cs) (hb : Below w.heap.size w w') : PAt w' q cs := by
  unfold PAt; rw [hb.block q h.lt]; exact h
theorem PAt.cell (h : PAt w q cs) (i : Nat) {v : Value} (hv : cs[i]? = some v) : w.cell? ⟨q, i, none⟩ = some v := by rw [cell_of_row w _ _ _ _ (0, 0) h]; exact hv
theorem PAt.f (h : PAt w q cs) (i : Nat) : w.frozen? ⟨q, i, none⟩ = false := frozen_of_row w _ _ _ _ h
theorem PAt.set (h : PAt w q cs) (i : Nat) (v : Value) : PAt (w.setCell ⟨q, i, none⟩ v) q (cs.setIfInBounds i v) := heap_setCell_same w q i cs _ v h
theorem PAt.setRow (h : PAt w q cs) : w.setRow q cs = w := by
  have e : (w.setRow q cs).heap = w.heap := by
    apply Array.ext_getElem?
    intro i
    by_cases e : i = q
    · subst e; rw [setRow_heap w i cs cs _ _ h]; exact h.symm
    · exact setRow_other w q i cs e
  show { w with heap := (w.setRow q cs).heap } = w
  rw [e]
theorem PAt.pathIn {cr : List Tr.Fr} {n : Nat} (h : PAt w q cs) (hc : PathC cs cr n) : PathIn w q cr := fun i f hf => ⟨h.cell i (hc.at' i f hf).1, h.cell (40 + i) (hc.at' i f hf).2⟩
end
theorem results_row2 {P : Program} {fn : Func} {p u : Tmp} {ty : TypeId} (h : fn.results = #[.cell p ty, .tmp u]) (tmps : Array Value) (w : World) (g : Nat) (t : TypeId) (cs : Array Value) (fr : Nat × Nat) (d : TypeDesc)
    (hp : tmps.getD p undef = .pointer (some ⟨g, 0, none⟩)) (hg : w.heap[g]? = some (.cells cs t fr))
    (hu : P.underlying ty = some d) (hd : (match d with | .struct _ | .array _ _ => true | _ => false) = true) (hi : (P.info? ty).map (·.size) = some cs.size) :
    (results fn tmps).run P w = .ok (.tuple #[.agg cs, tmps.getD u undef]) w := by
  rw [results_cell_tmp h, hp]
  simp [asAddr, run_loadVar_row w g t ty cs fr d hg hu hd hi, Result.andThen]
/-- what down hands back: the path, and what is at its end -/
structure PathOut (cs : Array Value) (c : List Tr.Fr) (s : Tr) : Prop where
  pc : PathC cs c.reverse (c.length + if s.isNil = true then 0 else 1)
  pe : ∀ p y l r, s = Tr.nd p y l r → cs[c.length]? = some (Value.int IntKind.i64 (p : Int))
theorem place_lt {ns : List Nd} {t : Tr} (h : Lies ns t) : place t < (ns.length : Int) := by
  cases t with
  | nil => simp [place]; omega
  | nd p x l r => have := lies_lt ns _ h p (by simp [Tr.places]); simp [place]; omega
set_option maxRecDepth 100000 in
theorem down_st {w : World} {B b g cap : Nat} {most root many : Int} {fv : Value} {ns : List Nd} {x : It} {t : Tr} (h : St w B b g cap most root many fv ns) (hl : Lies ns t) (ht : t.ht ≤ 39) (hr : root = place t) :
    Calls Try.prog 33 #[.pointer (some ⟨b, 0, none⟩), .agg #[.int .i64 x.f, .int .i64 x.t, .int .i64 x.i]] w fun e w' => ∃ cs : Array Value, e = .returned (.tuple #[.agg cs, .bool (!(Tr.way x t []).2.isNil)]) ∧ PathOut cs (Tr.way x t []).1 (Tr.way x t []).2 ∧ Below w.heap.size w w' := by
  have zz := path_zero
  have X0 := (itAt_new w x).below (ba _ (.cells pathZ 82))
  have P0 : PAt ((w.alloc (.cells #[.int .i64 x.f, .int .i64 x.t, .int .i64 x.i] 54)).alloc (.cells pathZ 82)) (w.heap.size + 1) pathZ := by
    have := heap_alloc_new (w.alloc (.cells #[.int .i64 x.f, .int .i64 x.t, .int .i64 x.i] 54)) (.cells pathZ 82)
    rw [World.size_alloc] at this; exact this
  have B0 : Below w.heap.size w ((w.alloc (.cells #[.int .i64 x.f, .int .i64 x.t, .int .i64 x.i] 54)).alloc (.cells pathZ 82)) := bt (ba _ _) (ba _ _)
  have c3 := h.t.c3
  have d3 := (B0.cell (p := ⟨b, 3, none⟩) h.t.lt).trans c3
  have H := Lib.hid h
  have HL := Lib.hid hl
  have HT := Lib.hid ht
  replace X0 := Lib.hid X0
  replace P0 := Lib.hid P0
  replace B0 := Lib.hid B0
  subst hr
  clear h hl ht c3
  go_enter Try.func33, Try.ntmps33
  go_wp2_with fail
  clear zz d3
  obtain ⟨wb, hwb⟩ : ∃ v, Hid (v = (w.alloc (.cells #[.int .i64 x.f, .int .i64 x.t, .int .i64 x.i] 54)).alloc (.cells pathZ 82)) := ⟨_, rfl⟩
  rw [← hwb.out] at X0 P0 B0 ⊢
  clear hwb
  obtain ⟨i3, hi3⟩ : ∃ i, Hid (w.heap.size = i) := ⟨_, rfl⟩
  obtain ⟨i4, hi4⟩ : ∃ i, Hid (w.heap.size + 1 = i) := ⟨_, rfl⟩
  rw [hi3.out] at X0
  rw [hi4.out] at P0 ⊢
  rw [hi3.out] at ⊢
  have SZ : Hid (i3 < i4 ∧ b < i3 ∧ g < i3) := by have := hi3.out; have := hi4.out; have := H.out.t.lt; have := H.out.r.lt.1; show _ ∧ _ ∧ _; omega
  rw [hi3.out] at B0
  clear hi4
  go_loopw [6] (fun a wr => ∃ (s : Tr) (c : List Tr.Fr) (cs : Array Value), a = .int .i64 (place s) ∧ Hid (Tr.way x t [] = Tr.way x s c) ∧ Hid (Lies ns s) ∧ c.length + s.ht ≤ 39 ∧ Hid (ItAt wr i3 x) ∧ Hid (PAt wr i4 cs) ∧ Hid (PathC cs c.reverse c.length) ∧ Hid (Below i3 w wr)) (fun a _ => (hOf ns (intOf a)).toNat)
  case atStart => exact ⟨t, [], pathZ, rfl, rfl, HL.out, by have := HT.out; simp; omega, X0.out, P0.out, pathZ_ok, B0.out⟩
  case round =>
    rename_i wr
    obtain ⟨wo, rfl⟩ : ∃ wo : World, wo = wr := ⟨_, rfl⟩
    clear X0 P0 B0
    obtain ⟨s, c, cs, rfl, HW, LS, hd, X0, P0, C0, B0⟩ := hrel
    have p80 := P0.out.cell 80 C0.out.n
    have H1 := Lib.hid (H.out.but (S := fun k => ¬ k < i3) (w' := wo) ⟨B0.out.os, B0.out.tape, B0.out.output, B0.out.size, fun k _ hk => B0.out.block k (Decidable.of_not_not hk)⟩ (by have := SZ.out.2.1; omega) (by have := SZ.out.2.2; omega))
    cases s with
    | nil =>
      clear p80 hd
      go_wp2_with (first
        | (refine wpList_load_row rfl 82 _ rfl i4 rfl 82 cs (0, 0) _ P0.out Try.underlying82 rfl (by rw [C0.out.size]; exact path_size) ?_)
        | (refine wpList_plain rfl fun _ hK => wp_store_row 82 _ _ rfl i4 cs rfl rfl 82 cs P0.out (by rw [C0.out.size]; exact path_size) rfl C0.out.one (hK _ _ ?_); rw [P0.out.setRow]))
      refine bodyPost_ret (v := .tuple #[.agg cs, .bool false]) (results_row2 (fn := Try.f33) (p := 4) (u := 5) rfl _ _ i4 _ cs (0, 0) _ rfl P0.out Try.underlying82 rfl (by rw [C0.out.size]; exact path_size)) rfl ?_
      rw [HW.out]
      exact ⟨cs, rfl, ⟨by simpa [Tr.way, Tr.isNil] using C0.out, fun _ _ _ _ h => by simp [Tr.way] at h⟩, by rw [hi3.out]; exact B0.out⟩
    | nd p y l r =>
      have hlen : c.length ≤ 38 := by simp only [Tr.ht] at hd; omega
      have HLEN := Lib.hid hlen
      have HD := Lib.hid hd
      obtain ⟨n, hn⟩ : ∃ n, Hid (c.length = n) := ⟨_, rfl⟩
      have hp : p < ns.length := lies_lt ns _ LS.out p (by simp [Tr.places])
      obtain ⟨e1, LL, LR⟩ := LS.out
      have E1 := Lib.hid e1
      replace LL := Lib.hid LL
      replace LR := Lib.hid LR
      rw [show place (Tr.nd p y l r) = (p : Int) from rfl]
      have n0 : (0 : Int) ≤ (n : Int) := by omega
      have n1 : (n : Int) < 40 := by have := hn.out; omega
      rw [hn.out] at p80 C0
      have f4 := P0.out.f n
      obtain ⟨vn, hvn⟩ : ∃ v, cs[n]? = some v := ⟨_, Array.getElem?_eq_getElem (by rw [C0.out.size]; omega)⟩
      have pn := P0.out.cell n hvn
      clear hvn e1 hlen hd
      go_upto_region 4 with fail
      obtain ⟨w1, hw1⟩ : ∃ v, Hid (v = wo.setCell ⟨i4, n, none⟩ (.int .i64 (p : Int))) := ⟨_, rfl⟩
      have P1 := Lib.hid (P0.out.set n (.int .i64 (p : Int)))
      have X1 : Hid (ItAt (wo.setCell ⟨i4, n, none⟩ (.int .i64 (p : Int))) i3 x) := X0.out.but ((But.refl (· = i4) _).set (show _ = i4 from rfl) _) (by have := SZ.out.1; omega)
      have B1 : Hid (Below i3 w (wo.setCell ⟨i4, n, none⟩ (.int .i64 (p : Int)))) := B0.out.setCell (by have := SZ.out.1; show i3 ≤ i4; omega) _
      have H2 := Lib.hid (H1.out.but ((But.refl (· = i4) _).set (show _ = i4 from rfl) (.int .i64 (p : Int)) (p := ⟨i4, n, none⟩)) (by have := SZ.out; omega) (by have := SZ.out; omega))
      have C1 : Hid (PathC (cs.setIfInBounds n (.int .i64 (p : Int))) c.reverse n ∧ (cs.setIfInBounds n (.int .i64 (p : Int)))[n]? = some (.int .i64 (p : Int))) := by
        have := C0.out.step (by rw [List.length_reverse]; have := HLEN.out; omega) p
        rw [List.length_reverse, hn.out] at this; exact this
      rw [← hw1.out] at P1 X1 B1 H2 ⊢
      obtain ⟨cs1, hc1⟩ : ∃ v, Hid (cs.setIfInBounds n (.int .i64 (p : Int)) = v) := ⟨_, rfl⟩
      rw [hc1.out] at P1 C1
      clear hw1 hc1 P0 X0 C0 B0 H1 p80 pn f4
      have mkS : ∀ w', Below w1.heap.size w1 w' → (Below w1.heap.size w1 w' ∧ w'.cell? ⟨i3, 0, none⟩ = some (.int .i64 x.f) ∧ w'.cell? ⟨i3, 1, none⟩ = some (.int .i64 x.t) ∧ w'.cell? ⟨i3, 2, none⟩ = some (.int .i64 x.i) ∧ w'.cell? ⟨b, 1, none⟩ = some (.slice (some ⟨g, 0, none⟩) ns.length cap) ∧ w'.cell? ⟨g, p * 8, none⟩ = some (.int .i64 y.f) ∧ w'.cell? ⟨g, p * 8 + 1, none⟩ = some (.int .i64 y.t) ∧ w'.cell? ⟨g, p * 8 + 2, none⟩ = some (.int .i64 y.i)) := fun w' hb => by
        have X := X1.out.below hb
        have K := H2.out.but (Below.but hb (fun _ => False)) (fun h => h) (fun h => h)
        exact ⟨hb, X.c0, X.c1, X.c2, K.t.c1, K.cell p 0 _ (.int .i64 y.f) E1.out (by omega) rfl, K.cell p 1 _ (.int .i64 y.t) E1.out (by omega) rfl, K.cell p 2 _ (.int .i64 y.i) E1.out (by omega) rfl⟩
      have HS0 := mkS _ ((Below.refl _ _).drew)
      have j0 : (0 : Int) ≤ (p : Int) := by omega
      have j1 : (p : Int) < ((ns.length : Nat) : Int) := by omega
      go_region_held3 (fun w' => Below w1.heap.size w1 w' ∧ w'.cell? ⟨i3, 0, none⟩ = some (.int .i64 x.f) ∧ w'.cell? ⟨i3, 1, none⟩ = some (.int .i64 x.t) ∧ w'.cell? ⟨i3, 2, none⟩ = some (.int .i64 x.i) ∧ w'.cell? ⟨b, 1, none⟩ = some (.slice (some ⟨g, 0, none⟩) ns.length cap) ∧ w'.cell? ⟨g, p * 8, none⟩ = some (.int .i64 y.f) ∧ w'.cell? ⟨g, p * 8 + 1, none⟩ = some (.int .i64 y.t) ∧ w'.cell? ⟨g, p * 8 + 2, none⟩ = some (.int .i64 y.i))
        (first | with_reducible exact HS0 | with_reducible assumption | (refine mkS _ ?_; (repeat (first | with_reducible exact And.left (by with_reducible assumption) | with_reducible exact Below.refl _ _ | refine Below.setCell ?_ (by first | omega | (simp only [World.size_alloc, hdrew]; omega) | (simp <;> omega)) _ | refine Below.alloc ?_ (by first | omega | (simp only [World.size_alloc, hdrew]; omega) | (simp <;> omega)) _ | refine Below.drew ?_))))
        (first
          | (go_at_call 37; (with_reducible refine (order_any x y _).mono ?_); rintro e w2 ⟨rfl, b2⟩; have HS2 := mkS _ (bt ((Below.refl _ _).drew) b2); have T2 := Lib.hid (HS2.1); clear b2))
      have P2 := Lib.hid (P1.out.below T2.out)
      have X2 := Lib.hid (X1.out.below T2.out)
      have H3 := Lib.hid (H2.out.but (Below.but T2.out (fun _ => False)) (fun h => h) (fun h => h))
      have B2 := Lib.hid (B1.out.trans (T2.out.mono (by have := B1.out.size; have := hi3.out; omega)))
      clear mkS HS0 HS2 P1 X1 H2 B1 T2 j0 j1
      have q80 := P2.out.cell 80 C1.out.1.n
      have f80 := P2.out.f 80
      have hw : IntKind.i64.wrap ((n : Int) + 1) = (n : Int) + 1 := by rw [IntKind.wrap_i64]; omega
      obtain ⟨o, ho⟩ : ∃ o, Hid (ordI x y = o) := ⟨_, rfl⟩
      rw [ho.out]
      have h1 := ordI_neg x y
      have h2 := ordI_pos x y
      rw [ho.out] at h1 h2
      have h3 : o = 0 ∨ o < 0 ∨ 0 < o := by omega
      rcases h3 with h3 | h3 | h3
      · have hlt : ¬ x.lt y := fun h => by have := h1.2 h; omega
        have hgt : ¬ y.lt x := fun h => by have := h2.2 h; omega
        have HWN : Hid (Tr.way x t [] = (c, Tr.nd p y l r)) := by
          show _ = _
          rw [HW.out]; simp only [Tr.way]
          rw [if_neg hlt, if_neg hgt]
        have P3 := Lib.hid (P2.out.set 80 (.int .i64 ((n : Int) + 1)))
        have C3 : Hid (PathC (cs1.setIfInBounds 80 (.int .i64 ((n : Int) + 1))) c.reverse (n + 1) ∧ (cs1.setIfInBounds 80 (.int .i64 ((n : Int) + 1)))[n]? = some (.int .i64 (p : Int))) := by
          refine ⟨C1.out.1.count (by rw [List.length_reverse]; have := HLEN.out; omega) (n + 1), ?_⟩
          rw [Array.getElem?_setIfInBounds_ne (by have := HLEN.out; have := hn.out; omega)]
          exact C1.out.2
        have B3 := Lib.hid (B2.out.setCell (p := ⟨i4, 80, none⟩) (by have := SZ.out.1; show i3 ≤ i4; omega) (.int .i64 ((n : Int) + 1)))
        obtain ⟨cs2, hc2⟩ : ∃ v, Hid (cs1.setIfInBounds 80 (.int .i64 ((n : Int) + 1)) = v) := ⟨_, rfl⟩
        rw [hc2.out] at P3 C3
        clear hlt hgt h1 h2 hc2
        have C4 : Hid (PathC cs2 c.reverse (n + 1)) := C3.out.1
        go_wp2_with (first
          | (refine wpList_load_row rfl 82 _ rfl i4 rfl 82 cs2 (0, 0) _ P3.out Try.underlying82 rfl (by rw [C4.out.size]; exact path_size) ?_)
          | (refine wpList_plain rfl fun _ hK => wp_store_row 82 _ _ rfl i4 cs2 rfl rfl 82 cs2 P3.out (by rw [C4.out.size]; exact path_size) rfl C4.out.one (hK _ _ ?_); rw [P3.out.setRow]))
        refine bodyPost_ret (v := .tuple #[.agg cs2, .bool true]) (results_row2 (fn := Try.f33) (p := 4) (u := 5) rfl _ _ i4 _ cs2 (0, 0) _ rfl P3.out Try.underlying82 rfl (by rw [C4.out.size]; exact path_size)) rfl ?_
        rw [HWN.out]
        refine ⟨cs2, rfl, ⟨?_, fun p' y' l' r' h => ?_⟩, by rw [hi3.out]; exact B3.out⟩
        · rw [hn.out]; exact C4.out
        · simp only [Tr.nd.injEq] at h
          rw [← h.1, hn.out]; exact C3.out.2
      · have hlt : x.lt y := h1.1 h3
        clear h1 h2
        have hd1 : decide (0 < o) = false := by simp; omega
        have f1 := P2.out.f (40 + n)
        obtain ⟨vm, hvm⟩ : ∃ v, cs1[40 + n]? = some v := ⟨_, Array.getElem?_eq_getElem (by rw [C1.out.1.size]; omega)⟩
        have pm := P2.out.cell (40 + n) hvm
        clear hvm
        have HWN : Hid (Tr.way x t [] = Tr.way x l (⟨p, y, false, r⟩ :: c)) := by
          show _ = _
          rw [HW.out]; simp only [Tr.way]
          rw [if_pos hlt]
        have P3 := Lib.hid ((P2.out.set (40 + n) (.bool false)).set 80 (.int .i64 ((n : Int) + 1)))
        have C3 : Hid (PathC ((cs1.setIfInBounds (40 + n) (.bool false)).setIfInBounds 80 (.int .i64 ((n : Int) + 1))) (⟨p, y, false, r⟩ :: c : List Tr.Fr).reverse (⟨p, y, false, r⟩ :: c : List Tr.Fr).length) := by
          show PathC _ _ _
          rw [List.reverse_cons, List.length_cons, hn.out]
          have k1 := C1.out.1.turn (f := ⟨p, y, false, r⟩) (by rw [List.length_reverse]; have := HLEN.out; omega) (by rw [List.length_reverse, hn.out]; exact C1.out.2)
          rw [List.length_reverse, hn.out] at k1
          exact k1.count (by rw [List.length_append, List.length_reverse]; have := HLEN.out; simp; omega) (n + 1)
        have K2 : But (· = i4) w2 ((w2.setCell ⟨i4, 40 + n, none⟩ (.bool false)).setCell ⟨i4, 80, none⟩ (.int .i64 ((n : Int) + 1))) := ((But.refl (· = i4) _).set (show _ = i4 from rfl) _).set (show _ = i4 from rfl) _
        have X3 := Lib.hid (X2.out.but K2 (by have := SZ.out; omega))
        have H4 := Lib.hid (H3.out.but K2 (by have := SZ.out; omega) (by have := SZ.out; omega))
        have B3 := Lib.hid ((B2.out.setCell (p := ⟨i4, 40 + n, none⟩) (by have := SZ.out.1; show i3 ≤ i4; omega) (.bool false)).setCell (p := ⟨i4, 80, none⟩) (by have := SZ.out.1; show i3 ≤ i4; omega) (.int .i64 ((n : Int) + 1)))
        have A1 := side_st p false H4.out hp
        have e2 : sideN ns p false = place l := by unfold sideN; rw [E1.out]; rfl
        rw [e2] at A1
        have MS : Hid ((hOf ns (place l)).toNat < (hOf ns (place (Tr.nd p y l r))).toNat) := by
          show _ < _
          rw [hOf_lies LL.out, hOf_lies LS.out]; simp only [Tr.ht]; omega
        clear K2 e2
        go_wp2_with (go_at_call 38; (with_reducible refine A1.mono ?_); rintro e w20 ⟨rfl, rfl⟩)
        go_roundw
        case rel => exact ⟨l, _ :: c, _, rfl, HWN.out, LL.out, by have := HD.out; simp only [Tr.ht, List.length_cons] at this ⊢; omega, X3.out, P3.out, C3.out, B3.out⟩
        case measure => exact MS.out
      · have hgt : y.lt x := h2.1 h3
        clear h1 h2
        have hd1 : decide (0 < o) = true := by simp; omega
        have f1 := P2.out.f (40 + n)
        obtain ⟨vm, hvm⟩ : ∃ v, cs1[40 + n]? = some v := ⟨_, Array.getElem?_eq_getElem (by rw [C1.out.1.size]; omega)⟩
        have pm := P2.out.cell (40 + n) hvm
        clear hvm
        have HWN : Hid (Tr.way x t [] = Tr.way x r (⟨p, y, true, l⟩ :: c)) := by
          show _ = _
          rw [HW.out]; simp only [Tr.way]
          rw [if_neg (It.lt_asymm hgt), if_pos hgt]
        have P3 := Lib.hid ((P2.out.set (40 + n) (.bool true)).set 80 (.int .i64 ((n : Int) + 1)))
        have C3 : Hid (PathC ((cs1.setIfInBounds (40 + n) (.bool true)).setIfInBounds 80 (.int .i64 ((n : Int) + 1))) (⟨p, y, true, l⟩ :: c : List Tr.Fr).reverse (⟨p, y, true, l⟩ :: c : List Tr.Fr).length) := by
          show PathC _ _ _
          rw [List.reverse_cons, List.length_cons, hn.out]
          have k1 := C1.out.1.turn (f := ⟨p, y, true, l⟩) (by rw [List.length_reverse]; have := HLEN.out; omega) (by rw [List.length_reverse, hn.out]; exact C1.out.2)
          rw [List.length_reverse, hn.out] at k1
          exact k1.count (by rw [List.length_append, List.length_reverse]; have := HLEN.out; simp; omega) (n + 1)
        have K2 : But (· = i4) w2 ((w2.setCell ⟨i4, 40 + n, none⟩ (.bool true)).setCell ⟨i4, 80, none⟩ (.int .i64 ((n : Int) + 1))) := ((But.refl (· = i4) _).set (show _ = i4 from rfl) _).set (show _ = i4 from rfl) _
        have X3 := Lib.hid (X2.out.but K2 (by have := SZ.out; omega))
        have H4 := Lib.hid (H3.out.but K2 (by have := SZ.out; omega) (by have := SZ.out; omega))
        have B3 := Lib.hid ((B2.out.setCell (p := ⟨i4, 40 + n, none⟩) (by have := SZ.out.1; show i3 ≤ i4; omega) (.bool true)).setCell (p := ⟨i4, 80, none⟩) (by have := SZ.out.1; show i3 ≤ i4; omega) (.int .i64 ((n : Int) + 1)))
        have A1 := side_st p true H4.out hp
        have e2 : sideN ns p true = place r := by unfold sideN; rw [E1.out]; rfl
        rw [e2] at A1
        have MS : Hid ((hOf ns (place r)).toNat < (hOf ns (place (Tr.nd p y l r))).toNat) := by
          show _ < _
          rw [hOf_lies LR.out, hOf_lies LS.out]; simp only [Tr.ht]; omega
        clear K2 e2
        go_wp2_with (go_at_call 38; (with_reducible refine A1.mono ?_); rintro e w20 ⟨rfl, rfl⟩)
        go_roundw
        case rel => exact ⟨r, _ :: c, _, rfl, HWN.out, LR.out, by have := HD.out; simp only [Tr.ht, List.length_cons] at this ⊢; omega, X3.out, P3.out, C3.out, B3.out⟩
        case measure => exact MS.out
end Go.Proofs.Ytmgljgmfipodeaa.Av
