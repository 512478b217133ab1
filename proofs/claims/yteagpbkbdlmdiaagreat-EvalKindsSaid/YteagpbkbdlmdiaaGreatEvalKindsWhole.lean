/-
  corrodylaw18.EvalKinds: for every input the call returns true, and each argument reads afterwards as it read before. No condition.
-/
import Derived.Test.YteagpbkbdlmdiaaGreatQ48
import Derived.ProofKit
import Derived.OpenShut
import Derived.ShutString
import Derived.ChangeOld
import Derived.Below
import Derived.Carry
namespace Go.Proofs.YteagpbkbdlmdiaaGreat.evalKinds
open Go.ChangeShapes Go.WideShapes Go.ChangeAt Go.RowKit
set_option linter.unusedVariables false
theorem own:ownKnob Tryz.prog.godebug=none:=by kernel_rfl
theorem laidOut:laidOutB Tryz.prog=true:=by kernel_rfl
set_option maxRecDepth 100000 in
theorem lifted (os:Os) (started:os.Started) (H:Type) (enc:TypeId × Value→H) :
  ReturnsInHanded {} Tryz.checked os 4 .any (Rows.evalKindsSpec.pre6 enc Tryz.prog Tryz.f4 Rows.evalKindsRow.domain false) (Rows.evalKindsSpec.post enc Tryz.prog Tryz.f4 false true false false):=by
 refine returnsInHanded_of_change_sized (C:=Tryz.checked) own started (by kernel_rfl) Tryz.func4
  (ChangeSpec.witness6 (enc:=enc) (C:=Tryz.checked) false ⟨#[],#[.slice none 0 0,.slice none 0 0,.slice none 0 0,.agg #[.int .u8 0,.int .i64 0,.int .i64 0,.int .i64 0]],[]⟩ 8 (by kernel_rfl) (by kernel_rfl) (by kernel_rfl) (by kernel_rfl)) ?_
 intro W base args ds gs before hval0 hW hcnd hsz0 _
 have hval:∀ (j:Nat) t v,Tryz.f4.params[j]?=some t→args[j]?=some v→Value.okWide Tryz.prog W .any base t v:=hval0
 have hW':=hW
 obtain ⟨p,q,hA0,hV,rfl,hfz,hnd⟩:=hW
 have hA:DataW.TrodAll enc Tryz.prog W 0 (fun _=>true) true Tryz.f4.params.toList args.toList ds p:=hA0
 have hsz:(DataW.weightsEach Tryz.prog (Tryz.f4.params.toList++Rows.evalKindsSpec.plain.varTypes Tryz.prog) (ds++gs)).all (·≤reachBytes)=true:=hsz0
 rw [Tryz.params4] at hA hval hsz
 obtain ⟨v0,vs0,d0,ds0,p0,q0,hargs,rfl,rfl,h0,r0⟩:=trodAll_cons hA
 obtain ⟨v1,vs1,d1,ds1,p1,q1,rfl,rfl,rfl,h1,r1⟩:=trodAll_cons r0
 obtain ⟨v2,vs2,d2,ds2,p2,q2,rfl,rfl,rfl,h2,r2⟩:=trodAll_cons r1
 obtain ⟨v3,vs3,d3,ds3,p3,q3,rfl,rfl,rfl,h3,r3⟩:=trodAll_cons r2
 obtain ⟨rfl,rfl,rfl⟩:=trodAll_nil r3
 obtain rfl:args=#[v0,v1,v2,v3]:=by cases args;simp_all
 obtain ⟨rfl,rfl⟩:=trodVars_none hV
 have hz:∀ (j:Nat) t d,([23,36,24,33]:List TypeId)[j]?=some t→([d0,d1,d2,d3]:List (DataW H))[j]?=some d→∀ n ∈ d.weights Tryz.prog t,n≤reachBytes:=fun j t d ht hd n hn=>by
  have:=List.all_eq_true.1 hsz n (DataW.weights_mem_each (j:=j) (t:=t) (d:=d) (by
   rw [List.getElem?_append_left (List.getElem?_eq_some_iff.1 ht).1];exact ht) (by rw [List.getElem?_append_left (List.getElem?_eq_some_iff.1 hd).1];exact hd) n hn)
  simpa using this
 have hlt0:=(let ⟨n,hn⟩:=h0;DataW.trod_lt n _ _ _ hn)
 obtain ⟨x0,wa0,wo0⟩:=Ek.open_nodesW (hval 0 23 v0 rfl rfl) h0 (hz 0 _ _ rfl rfl)
 have hlt1:=(let ⟨n,hn⟩:=h1;DataW.trod_lt n _ _ _ hn)
 obtain ⟨x1,wa1,wo1⟩:=Ek.open_fieldsW (hval 1 36 v1 rfl rfl) h1 (hz 1 _ _ rfl rfl)
 have hlt2:=(let ⟨n,hn⟩:=h2;DataW.trod_lt n _ _ _ hn)
 obtain ⟨x2,wa2,wo2⟩:=Ek.open_valsW (hval 2 24 v2 rfl rfl) h2 (hz 2 _ _ rfl rfl)
 obtain ⟨x3,rfl,rfl,rfl,wo3⟩:=Va.open_val (hval 3 33 v3 rfl rfl) h3
 clear hA0 hval0 hsz0
 refine (Ek.evalkinds_walk wa0 (fun n hn=>(wo0 n hn).1) (fun n hn=>(wo0 n hn).2) wa1 wa2 wo2 wo3).mono fun e W' ⟨he,bel⟩=>?_
 subst he
 exact ⟨_,rfl,_,_,_,[],(p0++(p1++(p2++([]++[])))),[],hW',trodAll_mk1 (shut_bool Tryz.underlying4 _),(trodAll_cons_mk (Below.trod laidOut (by kernel_rfl) (of_decide_eq_true (by kernel_rfl)) h0 bel hlt0) (trodAll_cons_mk (Below.trod laidOut (by kernel_rfl) (of_decide_eq_true (by kernel_rfl)) h1 bel hlt1) (trodAll_cons_mk (Below.trod laidOut (by kernel_rfl) (of_decide_eq_true (by kernel_rfl)) h2 bel hlt2) (trodAll_cons_mk (Va.shut_val wo3) trodAll_mk0)))),rfl,bel.frame _,fun h=>by cases h⟩
theorem over:Rows.evalKindsRow.holds Tryz.pinned (OpenSpec.ofChange Rows.evalKindsSpec):=
 OpenClaim.holds_of_wide 4 Tryz.f4 rfl rfl rfl rfl rfl rfl rfl ⟨rfl,rfl,rfl,rfl,rfl⟩ rfl rfl rfl rfl rfl (by kernel_rfl) Tryz.func4 (by kernel_rfl)
  (of_decide_eq_true (by kernel_rfl)) (by unfold Func.isWrapper;first | (rw [if_pos (by decide+kernel)];kernel_rfl) | (rw [if_neg (by decide+kernel)];exact ⟨rfl,rfl⟩))
  (fun os started H enc _=>lifted os started H enc)
theorem proved:Rows.EvalKindsSaid:=over
#print axioms proved
end Go.Proofs.YteagpbkbdlmdiaaGreat.evalKinds
