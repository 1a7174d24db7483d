/- The law SubMoved holds: for every input it answers true, and its arguments read as before. -/
import Derived.Test.YtjffkeoajkhbmaaGreatOX32
import Derived.Test.YtjffkeoajkhbmaaGreatOX34
import Derived.Test.YtjffkeoajkhbmaaGreatOX39
namespace Go.Proofs.YtjffkeoajkhbmaaGreat
set_option linter.unusedSimpArgs false
set_option linter.unusedVariables false
set_option maxRecDepth 100000
set_option maxHeartbeats 8000000
open Go.ChangeShapes Go.WideShapes Go.ChangeAt Go.RowKit Go.Proofs
theorem subMoved_lifted (os:Os) (started:os.Started) (H:Type) (enc:TypeId × Value->H) :
  ReturnsInHanded {} Tryz.checked os 12 .any (Rows.subMovedSpec.pre6 enc Tryz.prog Tryz.f12 Rows.subMovedRow.domain false) (Rows.subMovedSpec.post enc Tryz.prog Tryz.f12 false true false false):=by
 refine returnsInHanded_of_change_sized (C:=Tryz.checked) own started (by kernel_rfl) Tryz.func12
  (ChangeSpec.witness6 (enc:=enc) (C:=Tryz.checked) false ⟨#[],#[.slice none 0 0,.slice none 0 0,.slice none 0 0],[]⟩ 8 (by kernel_rfl) (by kernel_rfl) (by kernel_rfl) (by kernel_rfl)) ?_
 intro W base args ds gs before hval0 hW hcnd hsz _;have hval:∀ (j:Nat) t v,Tryz.f12.params[j]? = some t->args[j]? = some v->Value.okWide Tryz.prog W .any base t v:=hval0;have hW':=hW;obtain ⟨p,q,hA0,hV,rfl,hfz,hnd⟩:=hW;have hA:DataW.TrodAll enc Tryz.prog W 0 (fun _=>true) true Tryz.f12.params.toList args.toList ds p:=hA0;have hfit:∀ (j:Nat) (t:TypeId) (d:DataW H),Tryz.f12.params.toList[j]? = some t->ds[j]? = some d->Fits Tryz.prog t d:=fun j t d ht hd=>by
  refine fits_each (ts:=Tryz.f12.params.toList++Rows.subMovedSpec.plain.varTypes Tryz.prog) (ds:=ds++gs) (fun m hm=>of_decide_eq_true (List.all_eq_true.1 hsz m hm)) (j:=j) ?_ ?_
  ·rw [List.getElem?_append_left (List.getElem?_eq_some_iff.1 ht).1]; exact ht
  ·rw [List.getElem?_append_left (List.getElem?_eq_some_iff.1 hd).1]; exact hd
 rw [Tryz.params12] at hA hval hfit;obtain ⟨v0,vs0,d0,ds0,p0,q0,hargs,rfl,rfl,h0,r0⟩:=trodAll_cons hA;obtain ⟨v1,vs1,d1,ds1,p1,q1,rfl,rfl,rfl,h1,r1⟩:=trodAll_cons r0;obtain ⟨v2,vs2,d2,ds2,p2,q2,rfl,rfl,rfl,h2,r2⟩:=trodAll_cons r1;obtain ⟨rfl,rfl,rfl⟩:=trodAll_nil r2;obtain rfl:args=#[v0,v1,v2]:=by cases args; simp_all
 obtain ⟨rfl,rfl⟩:=trodVars_none hV;obtain ⟨a0,n0,c0,g0,rfl,w0⟩:=arg_graph (hval 0 23 v0 rfl rfl) h0 (hfit 0 23 d0 rfl rfl);obtain ⟨a1,n1,c1,g1,rfl,w1⟩:=arg_reveals (hval 1 24 v1 rfl rfl) h1 (hfit 1 24 d1 rfl rfl);obtain ⟨a2,n2,c2,g2,rfl,w2⟩:=arg_ints (hval 2 35 v2 rfl rfl) h2 (hfit 2 35 d2 rfl rfl);clear hA0 hval0 hsz;refine (subMoved12 a0 n0 c0 g0 a1 n1 c1 g1 a2 n2 c2 g2 W w0 w1 w2).mono fun e W' ⟨he,bel⟩=>?_;subst he;exact ⟨_,rfl,_,_,_,[],_,[],hW',trodAll_mk1 (shut_bool Tryz.underlying4 _),(trodAll_cons_mk (arg_below (by kernel_rfl) (of_decide_eq_true (by kernel_rfl)) h0 bel) (trodAll_cons_mk (arg_below (by kernel_rfl) (of_decide_eq_true (by kernel_rfl)) h1 bel) (trodAll_cons_mk (arg_below (by kernel_rfl) (of_decide_eq_true (by kernel_rfl)) h2 bel) trodAll_mk0))),rfl,bel.frame _,fun h=>by cases h⟩
theorem subMoved_over:Rows.subMovedRow.holds Tryz.pinned (OpenSpec.ofChange Rows.subMovedSpec) :=
 OpenClaim.holds_of_wide 12 Tryz.f12 rfl rfl rfl rfl rfl rfl rfl ⟨rfl,rfl,rfl,rfl,rfl⟩ rfl rfl rfl rfl rfl (by kernel_rfl) Tryz.func12 (by kernel_rfl)
  (of_decide_eq_true (by kernel_rfl)) (by unfold Func.isWrapper; first | (rw [if_pos (by decide +kernel)]; kernel_rfl) | (rw [if_neg (by decide +kernel)]; exact ⟨rfl,rfl⟩))
  (fun os started H enc _=>subMoved_lifted os started H enc)
theorem subMoved_holds:Rows.SubMovedSaid:=subMoved_over
#print axioms subMoved_holds
end Go.Proofs.YtjffkeoajkhbmaaGreat
