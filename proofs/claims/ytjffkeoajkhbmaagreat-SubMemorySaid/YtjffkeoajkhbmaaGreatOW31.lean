/- The function within line. sub.Line. The names that Method looks through. -/
import Derived.Test.YtjffkeoajkhbmaaGreatOW30
namespace Go.Proofs.YtjffkeoajkhbmaaGreat
set_option linter.unusedSimpArgs false
set_option linter.unusedVariables false
set_option maxRecDepth 100000
set_option maxHeartbeats 8000000
section
open Go.RowKit Go.Proofs Go.Shelf
section
variable {P:Program} {md:Region.Mode} {ops:Array Oper} {Q:Exit->Act->World->Prop} {S:World->Prop}
theorem wp_region_S (S:World->Prop) {id:Nat} {a:Act} {w:World} (hm:P.follows .mixedOrders=true) (h:wpX P .any ops ops.size Q S ops.size (Array.replicate ops.size false) a w.drew):(Code.region id ops true).wp P Q a w :=
 wp_region_any hm (wpAny_of_X _ _ _ _ h)
theorem wpS_take {i:Nat} {oi:Oper} {v:Value} {fuel:Nat} {listed:Array Bool} {a:Act} {w:World} (hi:ops[i]? = some oi)
  (hs:Region.noSelect ops=true) (hf:Region.free md ops listed i=true) (hr:(Region.ready md ops listed).contains i=true)
  (hQ:∀ c a w,Q (.panic c) (a.put oi.dst v) w->Q (.panic c) a w) (hy:YieldsIf P ops S oi v a) (hS:S w)
  (h:wpX P md ops ops.size Q S fuel (listed.setIfInBounds i true) (a.put oi.dst v) w):wpX P md ops ops.size Q S (fuel+1) listed a w :=
 wpX_first (by unfold finOk; simp) hi (Region.noSelect_spec hs) hQ fuel listed a w (Region.free_spec hi hf) (by simpa using hr) hy hS h
end
section
variable {P:Program} {ops:Array Oper} {Q:Exit->Act->World->Prop} {md:Region.Mode} {S:World->Prop}
theorem Vt (i:Nat) {oi:Oper} {v:Value} {fuel:Nat} {listed l1:Array Bool} {a a1:Act} {w:World} (hi:ops[i]? = some oi) (h0:∀ w',S w'->(execOp a.eval oi).run P w'=.ok (.value v) w') (hS:S w) (h:wpX P md ops ops.size Q S fuel l1 a1 w) (hs:Region.noSelect ops=true:=by kernel_rfl) (hf:Region.free md ops listed i=true:=by kernel_rfl) (hr:(Region.ready md ops listed).contains i=true:=by kernel_rfl) (hQ:∀ c a w,Q (.panic c) (a.put oi.dst v) w->Q (.panic c) a w:=by exact fun _ _ _ h=>h) (hw:Region.wanted oi (yielded ops a.tmps)=true:=by kernel_rfl) (hp:a.put oi.dst v=a1:=by first | ((try simp only [Act.put,nm]); with_reducible rfl) | (simp only [Act.put,nm]; done)) (hl1:listed.setIfInBounds i true=l1:=by first | ((try simp only [Act.put,nm]); with_reducible rfl) | (simp only [Act.put,nm]; done)):wpX P md ops ops.size Q S (fuel+1) listed a w:=by
 subst hp; subst hl1; exact wpS_take hi hs hf hr hQ (Or.inl ⟨hw,h0⟩) hS h
theorem Vs (i:Nat) {oi:Oper} {fuel:Nat} {listed l1:Array Bool} {a a1:Act} {w:World} (hS:S w) (h:wpX P md ops ops.size Q S fuel l1 a1 w) (hi:ops[i]? = some oi:=by exact rfl) (hs:Region.noSelect ops=true:=by kernel_rfl) (hf:Region.free md ops listed i=true:=by kernel_rfl) (hr:(Region.ready md ops listed).contains i=true:=by kernel_rfl) (hQ:∀ c a w,Q (.panic c) (a.put oi.dst undef) w->Q (.panic c) a w:=by exact fun _ _ _ h=>h) (hw:Region.wanted oi (yielded ops a.tmps)=false:=by kernel_rfl) (hp:a.put oi.dst undef=a1:=by first | ((try simp only [Act.put,nm]); with_reducible rfl) | (simp only [Act.put,nm]; done)) (hl1:listed.setIfInBounds i true=l1:=by first | ((try simp only [Act.put,nm]); with_reducible rfl) | (simp only [Act.put,nm]; done)):wpX P md ops ops.size Q S (fuel+1) listed a w:=by
 subst hp; subst hl1; exact wpS_take hi hs hf hr hQ (Or.inr ⟨hw,rfl⟩) hS h
end
theorem lineV_new {S:Nat->List Nat} {f:Nat} {out:List Nat} {t:Nat} (hm:t∉out):lineV S (f+1) out t=(S t).foldl (lineV S f) (out++[t]):=by
 show (if t∈out then out else (S t).foldl (lineV S f) (out++[t]))=_
 rw [if_neg hm]
theorem lineV_met {S:Nat->List Nat} {f:Nat} {out:List Nat} {t:Nat} (hm:t∈out):lineV S (f+1) out t=out:=by
 show (if t∈out then out else (S t).foldl (lineV S f) (out++[t]))=_
 rw [if_pos hm]
theorem lineS_lt {g:List Ty} {rs:List Reveal} (hr:∀ t,t<g.length->rightB g (nth g t)=true) (hrt:∀ i,i<rs.length->0<=(nth rs i).type/\(nth rs i).type<g.length):∀ t,t<g.length->∀ u,u∈lineS g rs t->u<g.length:=fun t ht u hu=>by
 have hsu:∀ u,u∈supL9 g t->u<g.length:=fun u hu=>by
  unfold supL9 at hu;by_cases hs:hasSuperB (nth g t).kind=true
  ·rw [if_pos hs] at hu;have:=right_super (hr t ht) hs;simp at hu;omega
  ·rw [if_neg hs] at hu; simp at hu
 have hR:=lineR_lt (g:=g) (rs:=rs) (L:=byN rs rs.length (nth g t).opq) (fun i hi=>byN_lt hi) hrt;unfold lineS at hu;by_cases h13:(nth g t).kind=13
 ·rw [if_pos h13] at hu;unfold lineR at hR;cases hf:fullAt rs (byN rs rs.length (nth g t).opq) with
  | some k=>rw [hf] at hu hR; exact hR u hu
  | none =>
   rw [hf] at hu hR;rcases List.mem_append.1 hu with hu | hu
   ·exact hR u hu
   ·exact hsu u hu
 ·rw [if_neg h13] at hu;exact hsu u hu
def LinC (w0:World) (b1 b2 b3 vb:Nat) (g:List Ty) (rs:List Reveal) (f:Nat):Prop:=∀ (out:List Nat) (t:Nat) (W:World),LinW w0 W b1 b2 b3 vb out->OutOk g.length out->g.length<f+out.length->t<g.length ->
 Calls Tryz.prog 94 #[.int .i64 t,.pointer (some ⟨b1,0,none⟩),.pointer (some ⟨b2,0,none⟩),.pointer (some ⟨b3,0,none⟩)] W fun e w'=>(∃ v,e=.returned v)/\LinW w0 w' b1 b2 b3 vb (lineV (lineS g rs) f out t)
theorem line_step (b1 b2 b3 vb:Nat) (g:List Ty) (C:Nat->Nat) (rs:List Reveal) (S:List Nat) (gv cv rv av:Value) (mb:Nat) (mm:List (BA × Value)) (w0:World) (hv:EnvW w0 vb g C rs S gv cv rv av) (hby:ByAt w0 vb rs mb mm)
  (hn:g.length<=400) (hr60:rs.length<=60) (hr:∀ t,t<g.length->rightB g (nth g t)=true) (hrt:∀ i,i<rs.length->0<=(nth rs i).type/\(nth rs i).type<g.length) (f:Nat) (ih:LinC w0 b1 b2 b3 vb g rs f):LinC w0 b1 b2 b3 vb g rs (f+1):=by
 intro out t W hL hok hlen ht;obtain ⟨i0,hi,hz0,hz1,hz2⟩:=info_parts info3;obtain ⟨ga,gc,rfl,-⟩:=id hv.gr;obtain ⟨ca,cc,rfl,-⟩:=id hv.cl;obtain ⟨ra,rc,rfl,-⟩:=id hv.re;have hb:=(SlW.bound hv.gr).2;have hol:=hok.le;have hS:=lineS_lt hr hrt;obtain ⟨v,h1,hown⟩:=hL.out;obtain ⟨oa,oc,rfl⟩:=owns_slice hown;have hints:=owns_ints hown (by unfold maxBytes; omega) (fun x hx=>by
  obtain ⟨y,hy,rfl⟩:=List.mem_map.1 hx;have:=hok.lt y hy;omega)
 have hcon:=dh (contains95 oa _ oc _ (t:Int) W hints);have hany:(out.map fun (x:Nat)=>(x:Int)).any (fun y=>(t:Int)==y)=decide (t∈out):=by
  rw [Bool.eq_iff_iff];simp only [List.any_eq_true,List.mem_map,beq_iff_eq,decide_eq_true_eq];exact ⟨fun ⟨_,⟨y,hy,rfl⟩,e⟩=>by rw [show t=y by omega]; exact hy,fun h=>⟨_,⟨t,h,rfl⟩,rfl⟩⟩
 rw [hany] at hcon;have x1:=row_cell h1 (j:=0) rfl;have Hv:=dh hv;have Hby:=dh hby;have Hr:=dh hr;have Hrt:=dh hrt;have HL:=dh hL;have Hok:=dh hok;have HS:=dh hS;by_cases hm:t∈out
 ·have hd:decide (t∈out)=true:=by simp [hm]
  rw [hd] at hcon;have Hm:=dh hm;clear hv hby hr hrt hL hok hS ih hints hown h1 hany hd hm
  go_enter Tryz.func94,Tryz.ntmps94
  go_wp2_with fail;refine hcon.out.mono ?_;rintro e w2 ⟨rfl,rfl⟩;go_wp2_with fail;refine bodyPost_ret (results_none rfl _ _ _) rfl ?_;exact ⟨⟨_,rfl⟩,by rw [lineV_met Hm.out]; first | exact HL.out | exact HL.out.grow (Ext.drew _)⟩
 ·have hd:decide (t∈out)=false:=by simp [hm]
  rw [hd] at hcon;have Hm:=dh hm;have Hpush:=dh (show ∀ v' W',(W.alloc (.cells #[.int .i64 (t:Nat)] 3)).grownBy W' (Value.slice oa out.length oc).ownBlock->W'.ownsRow (max (max b1 b2) b3+1) 3 1 v' (out.length+1) ((out.map fun (x:Nat)=>(x:Int)).map (Value.int .i64)++[.int .i64 (t:Nat)])->LinW w0 (W'.setCell ⟨b1,0,none⟩ v') b1 b2 b3 vb (out++[t])/\W'.heap[b1]? = some (.cells #[.slice oa out.length oc] 35 (0,0)) from
   fun v' W' hg ho=>LinW.push (hL.grow (Ext.alloc _ _)) (((Ext.alloc _ _).block b1 (row_lt h1)).trans h1) (owns_ext hown (Ext.alloc _ _)) hg ho)
  have hrow:(W.alloc (.cells #[.int .i64 (t:Nat)] 3)).ownsRow (max (max b1 b2) b3+1) 3 1 (.slice oa out.length oc) out.length ((out.map fun (x:Nat)=>(x:Int)).map (Value.int .i64)):=owns_ext hown (Ext.alloc _ _);have hbs:max (max b1 b2) b3+1<=(W.alloc (.cells #[.int .i64 (t:Nat)] 3)).heap.size:=by
   have q1:=row_lt h1;have q2:=row_lt hL.env;have q3:=row_lt hL.fn;rw [World.size_alloc]; omega
  have Hih:=dh (show ∀ (out':List Nat) (u:Nat) (W:World),LinW w0 W b1 b2 b3 vb out'->OutOk g.length out'->out.length+1<=out'.length->u<g.length->Calls Tryz.prog 94 #[.int .i64 u,.pointer (some ⟨b1,0,none⟩),.pointer (some ⟨b2,0,none⟩),.pointer (some ⟨b3,0,none⟩)] W fun e w'=>(∃ v,e=.returned v)/\LinW w0 w' b1 b2 b3 vb (lineV (lineS g rs) f out' u) from fun out' u W q1 q2 q3 q4=>ih out' u W q1 q2 (by omega) q4);have hnew:=hok.snoc ht hm;have Hnew:=dh hnew;clear hv hby hr hrt hL hok hS ih hints hown h1 hany hd hm hnew
  go_enter Tryz.func94,Tryz.ntmps94
  go_wp2_with fail;refine hcon.out.mono ?_;rintro e w2 ⟨rfl,rfl⟩;go_upto_region 2 with (at_builtin; refine wpList_append_own _ rfl (.tmp 12) (.tmp 14) 35 rfl (max (max b1 b2) b3+1) 3 i0 (.int .i64 0) 1 8 Tryz.underlying35 hi hz0 hz1 hz2 rfl (by decide) _ _ _ rfl hrow ⟨W.heap.size,0,none⟩ 1 1 [.int .i64 (t:Nat)] rfl rfl (cell_one_new _ _ _) (by simp [Value.oneCell']) (by unfold maxLen; omega) (by omega) hbs ?_; intro v9 W9 hown9 hgrow9 _; obtain ⟨hp1,hp2⟩:=Hpush.out v9 W9 hgrow9 hown9; have e19:=row_cell (j:=0) hp2 rfl; have f19:=row_free hp2 0; obtain ⟨aa,ca,rfl⟩:=owns_slice hown9; have HP:=dh hp1; clear hown9 hgrow9 hp1 hp2);obtain ⟨W2,hW2⟩:∃ W2:World,W2=W9.setCell ⟨b1,0,none⟩ (.slice aa (out.length+1) ca):=⟨_,rfl⟩;rw [<- hW2] at HP;rw [<- hW2];clear e19 f19 hW2 Hpush hrow hbs x1 hcon;have hL2:=HP.out;have x2:=row_cell hL2.env (j:=0) rfl;have c0:=hL2.ext.cell Hv.out.c0;obtain ⟨b,off,pa,pl,pc,ma,ml,mc,oa2,ol2,oc2,hga,hlt2,hT⟩:=Graph.at Hv.out.gr ht;cases hga;have d0:=hL2.ext.cell hT.c0;have d5:=hT.c5;have d6:=hT.c6;clear hL2 hT hlt2;by_cases h13:(nth g t).kind=13
  ·have h13b:((nth g t).kind==13)=true:=by rw [h13]; rfl
   have hrow:=Hby.out.row (nth g t).opq;obtain ⟨va,vc,hva,-⟩:=id hrow;rw [hva] at hrow;have hbl:=(SlW.bound hrow).2;have hln:(numsOf (byN rs rs.length (nth g t).opq)).length=(byN rs rs.length (nth g t).opq).length:=by simp [numsOf]
   rw [hln] at hrow hbl hva;obtain ⟨L,hL⟩:∃ L,L=byN rs rs.length (nth g t).opq:=⟨_,rfl⟩;rw [<- hL] at hrow hbl hva;have hl60:L.length<=60:=by have:=byN_len rs rs.length (nth g t).opq; rw [<- hL] at this; omega
   have hLr:∀ i,i∈L->i<rs.length:=fun i hi=>byN_lt (by rw [<- hL]; exact hi);have hfin0:fullAt rs L=none->∀ o3,o3=(L.map fun i=>(nth rs i).type.toNat).foldl (lineV (lineS g rs) f) (out++[t])->lineV (lineS g rs) (f+1) out t=if hasSuperB (nth g t).kind then lineV (lineS g rs) f o3 (nth g t).super.toNat else o3:=fun hn0 o3 h3=>by
    rw [lineV_new Hm.out];have hl:lineS g rs t=(L.map fun i=>(nth rs i).type.toNat)++supL9 g t:=by unfold lineS; rw [if_pos h13,<- hL,hn0]
    rw [hl,List.foldl_append,<- h3];unfold supL9;cases hasSuperB (nth g t).kind <;> rfl
   have hfin1:∀ k,fullAt rs L=some k->lineV (lineS g rs) (f+1) out t=lineV (lineS g rs) f (out++[t]) (nth rs (nth L k)).type.toNat:=fun k hk0=>by
    rw [lineV_new Hm.out];have hl:lineS g rs t=[(nth rs (nth L k)).type.toNat]:=by unfold lineS; rw [if_pos h13,<- hL,hk0]
    rw [hl]
    rfl
   have Hfin1:=dh hfin1;have hkeep:∀ us:List Nat,(∀ u,u∈us->u<g.length)->OutOk g.length (us.foldl (lineV (lineS g rs) f) (out++[t]))/\out.length+1<=(us.foldl (lineV (lineS g rs) f) (out++[t])).length:=fun us hu=>by
    have:=fold_keeps (fun o u=>lineV_keeps HS.out f o u) us (out++[t]) Hnew.out hu;exact ⟨this.1,by have h:=this.2; simpa using h⟩
   have Hfin0:=dh hfin0;have Hkeep:=dh hkeep;have Hva:=dh hva;have Hrow:=dh hrow;have HLr:=dh hLr;have hty:∀ i,i<rs.length->∃ u:Nat,u<g.length/\(nth rs i).type=u/\(nth rs i).type.toNat=u:=fun i hi=>⟨(nth rs i).type.toNat,by have:=Hrt.out i hi; omega,by have:=Hrt.out i hi; omega,rfl⟩
   have Hty:=dh hty;have HSs:=HS;clear hrow hva hln hL hLr hfin0 hfin1 hkeep hty h13;go_upto_region 3 with (fail);clear d0 x2 c0;have HL2:=dh (HP.out.grow (Ext.drew W2));have HS:=dh (show ∃ o,LinW w0 W2.drew b1 b2 b3 vb o from ⟨_,HL2.out⟩);refine wp_region_S (fun u=>∃ o,LinW w0 u b1 b2 b3 vb o) (by kernel_rfl) ?_;change wpX _ _ _ _ _ _ _ _ _ (World.drew _);refine Vt 0 rfl (fun w9 hE=>by obtain ⟨o9,hL9⟩:=hE; have y2E:=row_cell hL9.env (j:=0) rfl; clear hL9; first | (go_simp; done) | (go_simp; with_reducible rfl)) HS.out ?_;refine Vt 1 rfl (fun w9 hE=>by obtain ⟨o9,hL9⟩:=hE; skip; clear hL9; first | (go_simp; done) | (go_simp; with_reducible rfl)) HS.out ?_;refine Vt 2 rfl (fun w9 hE=>by obtain ⟨o9,hL9⟩:=hE; skip; clear hL9; first | (go_simp; done) | (go_simp; with_reducible rfl)) HS.out ?_;refine Vt 3 rfl (fun w9 hE=>by obtain ⟨o9,hL9⟩:=hE; have c3E:=hL9.ext.cell Hby.out.c3; clear hL9; first | (go_simp; done) | (go_simp; with_reducible rfl)) HS.out ?_;refine Vt 4 rfl (fun w9 hE=>by obtain ⟨o9,hL9⟩:=hE; have y2E:=row_cell hL9.env (j:=0) rfl; clear hL9; first | (go_simp; done) | (go_simp; with_reducible rfl)) HS.out ?_;refine Vt 5 rfl (fun w9 hE=>by obtain ⟨o9,hL9⟩:=hE; skip; clear hL9; first | (go_simp; done) | (go_simp; with_reducible rfl)) HS.out ?_;refine Vt 6 rfl (fun w9 hE=>by obtain ⟨o9,hL9⟩:=hE; skip; clear hL9; first | (go_simp; done) | (go_simp; with_reducible rfl)) HS.out ?_;refine Vt 7 rfl (fun w9 hE=>by obtain ⟨o9,hL9⟩:=hE; skip; clear hL9; first | (go_simp; done) | (go_simp; with_reducible rfl)) HS.out ?_;refine Vt 8 rfl (fun w9 hE=>by obtain ⟨o9,hL9⟩:=hE; have c0E:=hL9.ext.cell Hv.out.c0; clear hL9; first | (go_simp; done) | (go_simp; with_reducible rfl)) HS.out ?_;refine Vt 9 rfl (fun w9 hE=>by obtain ⟨o9,hL9⟩:=hE; skip; clear hL9; first | (go_simp; done) | (go_simp; with_reducible rfl)) HS.out ?_;refine Vt 10 rfl (fun w9 hE=>by obtain ⟨o9,hL9⟩:=hE; skip; clear hL9; first | (go_simp; done) | (go_simp; with_reducible rfl)) HS.out ?_;refine Vt 11 rfl (fun w9 hE=>by obtain ⟨o9,hL9⟩:=hE; skip; clear hL9; first | (go_simp; done) | (go_simp; with_reducible rfl)) HS.out ?_;refine Vt 12 rfl (fun w9 hE=>by obtain ⟨o9,hL9⟩:=hE; have d5E:=hL9.ext.cell d5; clear hL9; first | (go_simp; done) | (go_simp; with_reducible rfl)) HS.out ?_;refine Vt 13 rfl (fun w9 hE=>by obtain ⟨o9,hL9⟩:=hE; have hb9:=(Hby.out.at_.ext hL9.ext).lookup Tryz.underlying100 keyString (nth g t).opq zero35; rw [Hva.out] at hb9; clear hL9; first | (go_simp; done) | (go_simp; with_reducible rfl)) HS.out ?_;refine wpS_only (i:=14) rfl (by kernel_rfl) (fun K hK=>?_);go_simp;refine hK _ _ HS.out ?_; clear hK K;refine wpS_done (by kernel_rfl) ?_;have hints:∀ i,i<L.length->∃ b off,va=some ⟨b,off,none⟩/\w0.cell? ⟨b,off+i,none⟩=some (.int .i64 (nth L i:Nat)):=fun i hi=>by
    obtain ⟨b,off,q1,_,q2,-⟩:=Ints.at Hrow.out hi;refine ⟨b,off,q1,?_⟩;rw [q2];unfold numsOf;rw [nth_eq (by simpa using hi),nth_eq hi];simp
   have Hints:=dh hints;have x2:=row_cell HL2.out.env (j:=0) rfl;clear hints HP;obtain ⟨W3,hW3⟩:∃ W3,W3=W2.drew:=⟨_,rfl⟩;rw [<- hW3] at HL2 x2 HS ⊢;clear hW3;go_wp2_with fail;refine (indexFunc82 96 enters96 #[.pointer (some ⟨b2,0,none⟩)] va L.length vc (by omega) (fun k _=>.int .i64 (nth L k:Nat)) W3 (fun k w1=>Ext W3 w1/\∀ j,j<k->(nth rs (nth L j)).full=false) (fun k w1=>Ext W3 w1/\(∀ j,j<k->(nth rs (nth L j)).full=false)/\(nth rs (nth L k)).full=true) ?i1 ?i2 ⟨Ext.refl _,fun j hj=>by omega⟩).mono ?_
   case i1 =>
    rintro k w1 ⟨hE,-⟩ i hi;obtain ⟨b,off,q1,q2⟩:=Hints.out i hi;exact ⟨b,off,q1,(HL2.out.ext.trans hE).cell q2⟩
   case i2 =>
    rintro k w1 hk ⟨hE,hf⟩;refine (line96 (nth L k) b2 vb w0 w1 g C rs S _ _ _ av Hv.out (HL2.out.ext.trans hE) hr60 (HLr.out _ (nth_mem hk)) ((hE.block b2 (row_lt HL2.out.env)).trans HL2.out.env)).mono ?_;rintro e w2 ⟨rfl,hE2⟩;cases hx:(nth rs (nth L k)).full
    ·exact Or.inl ⟨rfl,hE.trans hE2,fun j hj=>by
      by_cases hjk:j=k
      ·rw [hjk]; exact hx
      ·exact hf j (by omega)⟩
    ·exact Or.inr ⟨rfl,hE.trans hE2,hf,rfl⟩
   rintro e W4 (⟨rfl,hE4,hf⟩ | ⟨k,hk,rfl,hE4,hf,hx⟩)
   ·have Hnone:=dh (show fullAt rs L=none by
      unfold fullAt;rw [List.find?_eq_none];intro j hj;rw [hf j (List.mem_range.1 hj)]; decide)
    have HL4:=dh (HL2.out.grow hE4);clear hf hE4 HL2 HS x2;go_upto_region 8 with (fail);go_loopw [8,60] (fun _ i wr=>∃ k:Nat,k<=L.length/\i=.int .i64 k/\Hid (LinW w0 wr b1 b2 b3 vb (((L.take k).map fun i=>(nth rs i).type.toNat).foldl (lineV (lineS g rs) f) (out++[t])))) (fun _ i _=>L.length-(intOf i).toNat)
    case atStart=>exact ⟨0,Nat.zero_le _,rfl,by simpa using HL4⟩
    case round =>
     clear HL4;obtain ⟨k,hk,rfl,HL5⟩:=hrel;by_cases hlt:k<L.length
     ·obtain ⟨bl,offl,hvl,q2⟩:=Hints.out k hlt;have hvl':=hvl;subst hvl;have hil:=HLr.out _ (nth_mem hlt);obtain ⟨br,offr,hrr,_,_,_,r2,-⟩:=Reveals.at Hv.out.re hil;cases hrr;obtain ⟨u,hun,hu1,hu2⟩:=Hty.out _ hil;rw [hu1] at r2;have ek:=HL5.out.ext.cell q2;have hko:=Hkeep.out ((L.take k).map fun i=>(nth rs i).type.toNat) (fun x hx=>by
       obtain ⟨i,hi,rfl⟩:=List.mem_map.1 hx;obtain ⟨u,q1,_,q3⟩:=Hty.out i (HLr.out i (List.mem_of_mem_take hi));show (nth rs i).type.toNat<g.length
       omega)
      have hsn:((L.take (k+1)).map fun i=>(nth rs i).type.toNat)=((L.take k).map fun i=>(nth rs i).type.toNat)++[u]:=by rw [take_snoc hlt,List.map_append,<- hu2]; rfl
      obtain ⟨o5,ho5⟩:∃ o,o=((L.take k).map fun i=>(nth rs i).type.toNat).foldl (lineV (lineS g rs) f) (out++[t]):=⟨_,rfl⟩;rw [<- ho5] at HL5 hko;have Hnext:=dh (show ((L.take (k+1)).map fun i=>(nth rs i).type.toNat).foldl (lineV (lineS g rs) f) (out++[t])=lineV (lineS g rs) f o5 u by rw [hsn,List.foldl_append,<- ho5]; rfl);have Hko:=dh hko;clear q2 hu1 hu2 hko hsn ho5;go_upto_region 10 with (fail);clear ek;have Hcall:=dh (Hih.out o5 u wr.drew (HL5.out.grow (Ext.drew _)) Hko.out.1 Hko.out.2 hun);have HS:=dh (show ∃ o,LinW w0 wr.drew b1 b2 b3 vb o from ⟨_,HL5.out.grow (Ext.drew _)⟩);refine wp_region_S (fun u=>∃ o,LinW w0 u b1 b2 b3 vb o) (by kernel_rfl) ?_;change wpX _ _ _ _ _ _ _ _ _ (World.drew _);refine Vt 0 rfl (fun w9 hE=>by obtain ⟨o9,hL9⟩:=hE; have y3E:=row_cell hL9.fn (j:=0) rfl; clear hL9; first | (go_simp; done) | (go_simp; with_reducible rfl)) HS.out ?_;refine Vt 1 rfl (fun w9 hE=>by obtain ⟨o9,hL9⟩:=hE; have y2E:=row_cell hL9.env (j:=0) rfl; clear hL9; first | (go_simp; done) | (go_simp; with_reducible rfl)) HS.out ?_;refine Vt 2 rfl (fun w9 hE=>by obtain ⟨o9,hL9⟩:=hE; skip; clear hL9; first | (go_simp; done) | (go_simp; with_reducible rfl)) HS.out ?_;refine Vt 3 rfl (fun w9 hE=>by obtain ⟨o9,hL9⟩:=hE; skip; clear hL9; first | (go_simp; done) | (go_simp; with_reducible rfl)) HS.out ?_;refine Vt 4 rfl (fun w9 hE=>by obtain ⟨o9,hL9⟩:=hE; have c2E:=hL9.ext.cell Hv.out.c2; clear hL9; first | (go_simp; done) | (go_simp; with_reducible rfl)) HS.out ?_;refine Vt 5 rfl (fun w9 hE=>by obtain ⟨o9,hL9⟩:=hE; skip; clear hL9; first | (go_simp; done) | (go_simp; with_reducible rfl)) HS.out ?_;refine Vt 6 rfl (fun w9 hE=>by obtain ⟨o9,hL9⟩:=hE; skip; clear hL9; first | (go_simp; done) | (go_simp; with_reducible rfl)) HS.out ?_;refine Vt 7 rfl (fun w9 hE=>by obtain ⟨o9,hL9⟩:=hE; skip; clear hL9; first | (go_simp; done) | (go_simp; with_reducible rfl)) HS.out ?_;refine Vt 8 rfl (fun w9 hE=>by obtain ⟨o9,hL9⟩:=hE; have r2E:=hL9.ext.cell r2; clear hL9; first | (go_simp; done) | (go_simp; with_reducible rfl)) HS.out ?_;refine wpS_only (i:=9) rfl (by kernel_rfl) (fun K hK=>?_);go_simp;refine Hcall.out.mono ?_;rintro e W6 ⟨⟨v6,rfl⟩,hL6⟩;refine hK _ _ ⟨_,hL6⟩ ?_; clear hK K;refine wpS_done (by kernel_rfl) ?_;rw [<- Hnext.out] at hL6;have HL6:=dh hL6;clear hL6;go_wp2_with fail;go_roundw
      case rel=>exact ⟨k+1,by omega,by go_num,HL6⟩
      case measure=>simp [intOf]; omega
     ·have hkl:k=L.length:=by omega
      subst hkl;have hko:=Hkeep.out (L.map fun i=>(nth rs i).type.toNat) (fun x hx=>by
       obtain ⟨i,hi,rfl⟩:=List.mem_map.1 hx;obtain ⟨u,q1,_,q3⟩:=Hty.out i (HLr.out i hi);show (nth rs i).type.toNat<g.length
       omega)
      obtain ⟨out3,hout3⟩:∃ o,o=(L.map fun i=>(nth rs i).type.toNat).foldl (lineV (lineS g rs) f) (out++[t]):=⟨_,rfl⟩;rw [<- hout3] at hko;obtain ⟨W3,hW3⟩:∃ W3,W3=wr:=⟨_,rfl⟩;have HL3:=dh (show LinW w0 W3 b1 b2 b3 vb out3 by rw [hW3,hout3]; have:=HL5.out; rwa [List.take_length] at this);have Hfin:=dh (Hfin0.out Hnone.out out3 hout3);have Hok3:=dh hko.1;have Hlen3:=dh hko.2;subst hW3;clear hout3 hko HL5;have hL3:=HL3.out;have y2:=row_cell hL3.env (j:=0) rfl;have y3:=row_cell hL3.fn (j:=0) rfl;have c0:=hL3.ext.cell Hv.out.c0;have c1:=hL3.ext.cell Hv.out.c1;clear hL3;go_wp2_with fail;refine (isAbove97 _ _ gc _ g t W3 (Graph.mono HL3.out.ext Hv.out.gr) ht ⟨_,_,_,rfl⟩).mono ?_;rintro e W4 ⟨rfl,hE4⟩;have HL4:=dh (HL3.out.grow hE4);have y2:=hE4.cell y2;have y3:=hE4.cell y3;clear hE4 c1;cases hsb:hasSuperB (nth g t).kind
      ·have Hsb:=dh hsb;go_wp2_with fail
       go_end0
       exact ⟨⟨_,rfl⟩,by rw [Hfin.out,Hsb.out]; simpa using HL4.out⟩
      ·have hsup:=(right_super (Hr.out t ht) hsb);have Hsb:=dh hsb;clear hsb;obtain ⟨s,hs0⟩:∃ s:Nat,(nth g t).super=s:=⟨(nth g t).super.toNat,by omega⟩;have hsn:s<g.length:=by omega
       rw [hs0] at d6;have Hs0:=dh hs0;clear hs0 hsup;go_upto_region 13 with (fail);have Hcall:=dh (Hih.out out3 s W4.drew (HL4.out.grow (Ext.drew _)) Hok3.out Hlen3.out hsn);have HS:=dh (show ∃ o,LinW w0 W4.drew b1 b2 b3 vb o from ⟨_,HL4.out.grow (Ext.drew _)⟩);refine wp_region_S (fun u=>∃ o,LinW w0 u b1 b2 b3 vb o) (by kernel_rfl) ?_;change wpX _ _ _ _ _ _ _ _ _ (World.drew _);refine Vt 0 rfl (fun w9 hE=>by obtain ⟨o9,hL9⟩:=hE; have y3E:=row_cell hL9.fn (j:=0) rfl; clear hL9; first | (go_simp; done) | (go_simp; with_reducible rfl)) HS.out ?_;refine Vt 1 rfl (fun w9 hE=>by obtain ⟨o9,hL9⟩:=hE; have y2E:=row_cell hL9.env (j:=0) rfl; clear hL9; first | (go_simp; done) | (go_simp; with_reducible rfl)) HS.out ?_;refine Vt 2 rfl (fun w9 hE=>by obtain ⟨o9,hL9⟩:=hE; skip; clear hL9; first | (go_simp; done) | (go_simp; with_reducible rfl)) HS.out ?_;refine Vt 3 rfl (fun w9 hE=>by obtain ⟨o9,hL9⟩:=hE; skip; clear hL9; first | (go_simp; done) | (go_simp; with_reducible rfl)) HS.out ?_;refine Vt 4 rfl (fun w9 hE=>by obtain ⟨o9,hL9⟩:=hE; skip; clear hL9; first | (go_simp; done) | (go_simp; with_reducible rfl)) HS.out ?_;refine Vt 5 rfl (fun w9 hE=>by obtain ⟨o9,hL9⟩:=hE; have c0E:=hL9.ext.cell Hv.out.c0; clear hL9; first | (go_simp; done) | (go_simp; with_reducible rfl)) HS.out ?_;refine Vt 6 rfl (fun w9 hE=>by obtain ⟨o9,hL9⟩:=hE; skip; clear hL9; first | (go_simp; done) | (go_simp; with_reducible rfl)) HS.out ?_;refine Vt 7 rfl (fun w9 hE=>by obtain ⟨o9,hL9⟩:=hE; skip; clear hL9; first | (go_simp; done) | (go_simp; with_reducible rfl)) HS.out ?_;refine Vt 8 rfl (fun w9 hE=>by obtain ⟨o9,hL9⟩:=hE; skip; clear hL9; first | (go_simp; done) | (go_simp; with_reducible rfl)) HS.out ?_;refine Vt 9 rfl (fun w9 hE=>by obtain ⟨o9,hL9⟩:=hE; have d6E:=hL9.ext.cell d6; clear hL9; first | (go_simp; done) | (go_simp; with_reducible rfl)) HS.out ?_;refine wpS_only (i:=10) rfl (by kernel_rfl) (fun K hK=>?_);go_simp;refine Hcall.out.mono ?_;rintro e W5 ⟨⟨v5,rfl⟩,hL5⟩;refine hK _ _ ⟨_,hL5⟩ ?_; clear hK K;refine wpS_done (by kernel_rfl) ?_;have HL5:=dh hL5;clear hL5;go_wp2_with fail
       go_end0
       exact ⟨⟨_,rfl⟩,by rw [Hfin.out,Hsb.out,if_pos rfl,Hs0.out]; simpa using HL5.out⟩
   ·have hil:=HLr.out _ (nth_mem hk);obtain ⟨u,hun,hu1,hu2⟩:=Hty.out _ hil;have Hfin:=dh (show lineV (lineS g rs) (f+1) out t=lineV (lineS g rs) f (out++[t]) u by
     have:fullAt rs L=some k:=by
      unfold fullAt;rw [List.find?_eq_some_iff_getElem];exact ⟨hx,k,by simpa using hk,by simp,fun j hj=>by simp [hf j hj]⟩
     rw [Hfin1.out k this,hu2])
    obtain ⟨bl,offl,hvl,q2⟩:=Hints.out k hk;subst hvl;obtain ⟨br,offr,hrr,_,_,_,r2,-⟩:=Reveals.at Hv.out.re hil;cases hrr;rw [hu1] at r2;have hk0:((k:Nat):Int) ≥ 0:=by omega
    have HL4:=dh (HL2.out.grow hE4);clear hf hx hE4 HL2 HS x2 hu1 hu2;go_upto_region 6 with (fail);have Hcall:=dh (Hih.out (out++[t]) u W4.drew (HL4.out.grow (Ext.drew _)) Hnew.out (by simp) hun);have HS:=dh (show ∃ o,LinW w0 W4.drew b1 b2 b3 vb o from ⟨_,HL4.out.grow (Ext.drew _)⟩);refine wp_region_S (fun u=>∃ o,LinW w0 u b1 b2 b3 vb o) (by kernel_rfl) ?_;change wpX _ _ _ _ _ _ _ _ _ (World.drew _);refine Vt 0 rfl (fun w9 hE=>by obtain ⟨o9,hL9⟩:=hE; have y3E:=row_cell hL9.fn (j:=0) rfl; clear hL9; first | (go_simp; done) | (go_simp; with_reducible rfl)) HS.out ?_;refine Vt 1 rfl (fun w9 hE=>by obtain ⟨o9,hL9⟩:=hE; have y2E:=row_cell hL9.env (j:=0) rfl; clear hL9; first | (go_simp; done) | (go_simp; with_reducible rfl)) HS.out ?_;refine Vt 2 rfl (fun w9 hE=>by obtain ⟨o9,hL9⟩:=hE; skip; clear hL9; first | (go_simp; done) | (go_simp; with_reducible rfl)) HS.out ?_;refine Vt 3 rfl (fun w9 hE=>by obtain ⟨o9,hL9⟩:=hE; skip; clear hL9; first | (go_simp; done) | (go_simp; with_reducible rfl)) HS.out ?_;refine Vt 4 rfl (fun w9 hE=>by obtain ⟨o9,hL9⟩:=hE; have c2E:=hL9.ext.cell Hv.out.c2; clear hL9; first | (go_simp; done) | (go_simp; with_reducible rfl)) HS.out ?_;refine Vt 5 rfl (fun w9 hE=>by obtain ⟨o9,hL9⟩:=hE; skip; clear hL9; first | (go_simp; done) | (go_simp; with_reducible rfl)) HS.out ?_;refine Vt 6 rfl (fun w9 hE=>by obtain ⟨o9,hL9⟩:=hE; skip; clear hL9; first | (go_simp; done) | (go_simp; with_reducible rfl)) HS.out ?_;refine Vt 7 rfl (fun w9 hE=>by obtain ⟨o9,hL9⟩:=hE; skip; clear hL9; first | (go_simp; done) | (go_simp; with_reducible rfl)) HS.out ?_;refine Vt 8 rfl (fun w9 hE=>by obtain ⟨o9,hL9⟩:=hE; have ekE:=hL9.ext.cell q2; clear hL9; first | (go_simp; done) | (go_simp; with_reducible rfl)) HS.out ?_;refine Vt 9 rfl (fun w9 hE=>by obtain ⟨o9,hL9⟩:=hE; skip; clear hL9; first | (go_simp; done) | (go_simp; with_reducible rfl)) HS.out ?_;refine Vt 10 rfl (fun w9 hE=>by obtain ⟨o9,hL9⟩:=hE; skip; clear hL9; first | (go_simp; done) | (go_simp; with_reducible rfl)) HS.out ?_;refine Vt 11 rfl (fun w9 hE=>by obtain ⟨o9,hL9⟩:=hE; have r2E:=hL9.ext.cell r2; clear hL9; first | (go_simp; done) | (go_simp; with_reducible rfl)) HS.out ?_;refine wpS_only (i:=12) rfl (by kernel_rfl) (fun K hK=>?_);go_simp;refine Hcall.out.mono ?_;rintro e W3 ⟨⟨v6,rfl⟩,hL3⟩;refine hK _ _ ⟨_,hL3⟩ ?_; clear hK K;refine wpS_done (by kernel_rfl) ?_;have HL3:=dh hL3;clear hL3;go_wp2_with fail;refine bodyPost_ret (results_none rfl _ _ _) rfl ?_;exact ⟨⟨_,rfl⟩,by rw [Hfin.out]; exact HL3.out⟩
  ·have h13b:((nth g t).kind==13)=false:=by simpa using h13
   have H13:=dh h13;have Hfin:=dh (show lineV (lineS g rs) (f+1) out t=if hasSuperB (nth g t).kind then lineV (lineS g rs) f (out++[t]) (nth g t).super.toNat else out++[t] by
    rw [lineV_new Hm.out];have hl:lineS g rs t=if hasSuperB (nth g t).kind then [(nth g t).super.toNat] else []:=by unfold lineS; rw [if_neg h13]; rfl
    rw [hl];cases hasSuperB (nth g t).kind <;> rfl)
   clear h13;obtain ⟨W3,hW3⟩:∃ W3,W3=W2:=⟨_,rfl⟩;obtain ⟨out3,hout3⟩:∃ o,o=out++[t]:=⟨_,rfl⟩;have HL3:=dh (show LinW w0 W3 b1 b2 b3 vb out3 by rw [hW3,hout3]; exact HP.out);have Hok3:=dh (show OutOk g.length out3 by rw [hout3]; exact Hnew.out);have Hlen3:=dh (show out.length+1<=out3.length by rw [hout3]; simp);rw [<- hout3] at Hfin;subst hW3;clear hout3 HP Hnew;have hL3:=HL3.out;have y2:=row_cell hL3.env (j:=0) rfl;have y3:=row_cell hL3.fn (j:=0) rfl;have c0:=hL3.ext.cell Hv.out.c0;have c1:=hL3.ext.cell Hv.out.c1;clear hL3;go_wp2_with fail;refine (isAbove97 _ _ gc _ g t W3 (Graph.mono HL3.out.ext Hv.out.gr) ht ⟨_,_,_,rfl⟩).mono ?_;rintro e W4 ⟨rfl,hE4⟩;have HL4:=dh (HL3.out.grow hE4);have y2:=hE4.cell y2;have y3:=hE4.cell y3;clear hE4 c1;cases hsb:hasSuperB (nth g t).kind
   ·have Hsb:=dh hsb;go_wp2_with fail
    go_end0
    exact ⟨⟨_,rfl⟩,by rw [Hfin.out,Hsb.out]; simpa using HL4.out⟩
   ·have hsup:=(right_super (Hr.out t ht) hsb);have Hsb:=dh hsb;clear hsb;obtain ⟨s,hs0⟩:∃ s:Nat,(nth g t).super=s:=⟨(nth g t).super.toNat,by omega⟩;have hsn:s<g.length:=by omega
    rw [hs0] at d6;have Hs0:=dh hs0;clear hs0 hsup;go_upto_region 13 with (fail);have Hcall:=dh (Hih.out out3 s W4.drew (HL4.out.grow (Ext.drew _)) Hok3.out Hlen3.out hsn);have HS:=dh (show ∃ o,LinW w0 W4.drew b1 b2 b3 vb o from ⟨_,HL4.out.grow (Ext.drew _)⟩);refine wp_region_S (fun u=>∃ o,LinW w0 u b1 b2 b3 vb o) (by kernel_rfl) ?_;change wpX _ _ _ _ _ _ _ _ _ (World.drew _);refine Vt 0 rfl (fun w9 hE=>by obtain ⟨o9,hL9⟩:=hE; have y3E:=row_cell hL9.fn (j:=0) rfl; clear hL9; first | (go_simp; done) | (go_simp; with_reducible rfl)) HS.out ?_;refine Vt 1 rfl (fun w9 hE=>by obtain ⟨o9,hL9⟩:=hE; have y2E:=row_cell hL9.env (j:=0) rfl; clear hL9; first | (go_simp; done) | (go_simp; with_reducible rfl)) HS.out ?_;refine Vt 2 rfl (fun w9 hE=>by obtain ⟨o9,hL9⟩:=hE; skip; clear hL9; first | (go_simp; done) | (go_simp; with_reducible rfl)) HS.out ?_;refine Vt 3 rfl (fun w9 hE=>by obtain ⟨o9,hL9⟩:=hE; skip; clear hL9; first | (go_simp; done) | (go_simp; with_reducible rfl)) HS.out ?_;refine Vt 4 rfl (fun w9 hE=>by obtain ⟨o9,hL9⟩:=hE; skip; clear hL9; first | (go_simp; done) | (go_simp; with_reducible rfl)) HS.out ?_;refine Vt 5 rfl (fun w9 hE=>by obtain ⟨o9,hL9⟩:=hE; have c0E:=hL9.ext.cell Hv.out.c0; clear hL9; first | (go_simp; done) | (go_simp; with_reducible rfl)) HS.out ?_;refine Vt 6 rfl (fun w9 hE=>by obtain ⟨o9,hL9⟩:=hE; skip; clear hL9; first | (go_simp; done) | (go_simp; with_reducible rfl)) HS.out ?_;refine Vt 7 rfl (fun w9 hE=>by obtain ⟨o9,hL9⟩:=hE; skip; clear hL9; first | (go_simp; done) | (go_simp; with_reducible rfl)) HS.out ?_;refine Vt 8 rfl (fun w9 hE=>by obtain ⟨o9,hL9⟩:=hE; skip; clear hL9; first | (go_simp; done) | (go_simp; with_reducible rfl)) HS.out ?_;refine Vt 9 rfl (fun w9 hE=>by obtain ⟨o9,hL9⟩:=hE; have d6E:=hL9.ext.cell d6; clear hL9; first | (go_simp; done) | (go_simp; with_reducible rfl)) HS.out ?_;refine wpS_only (i:=10) rfl (by kernel_rfl) (fun K hK=>?_);go_simp;refine Hcall.out.mono ?_;rintro e W5 ⟨⟨v5,rfl⟩,hL5⟩;refine hK _ _ ⟨_,hL5⟩ ?_; clear hK K;refine wpS_done (by kernel_rfl) ?_;have HL5:=dh hL5;clear hL5;go_wp2_with fail
    go_end0
    exact ⟨⟨_,rfl⟩,by rw [Hfin.out,Hsb.out,if_pos rfl,Hs0.out]; simpa using HL5.out⟩
theorem line94 (b1 b2 b3 vb:Nat) (g:List Ty) (C:Nat->Nat) (rs:List Reveal) (S:List Nat) (gv cv rv av:Value) (mb:Nat) (mm:List (BA × Value)) (w0:World) (hv:EnvW w0 vb g C rs S gv cv rv av) (hby:ByAt w0 vb rs mb mm)
  (hn:g.length<=400) (hr60:rs.length<=60) (hr:∀ t,t<g.length->rightB g (nth g t)=true) (hrt:∀ i,i<rs.length->0<=(nth rs i).type/\(nth rs i).type<g.length):∀ f,LinC w0 b1 b2 b3 vb g rs f
 | 0=>fun out t W hL hok hlen ht=>absurd hok.le (by omega)
 | f+1=>line_step b1 b2 b3 vb g C rs S gv cv rv av mb mm w0 hv hby hn hr60 hr hrt f (line94 b1 b2 b3 vb g C rs S gv cv rv av mb mm w0 hv hby hn hr60 hr hrt f)
theorem line59 (vb:Nat) (g:List Ty) (C:Nat->Nat) (rs:List Reveal) (S:List Nat) (gv cv rv av:Value) (mb:Nat) (mm:List (BA × Value)) (w:World) (hv:EnvW w vb g C rs S gv cv rv av) (hby:ByAt w vb rs mb mm)
  (hn:g.length<=400) (hr60:rs.length<=60) (hr:∀ t,t<g.length->rightB g (nth g t)=true) (hrt:∀ i,i<rs.length->0<=(nth rs i).type/\(nth rs i).type<g.length) (t:Nat) (ht:t<g.length) :
  Calls Tryz.prog 59 #[.pointer (some ⟨vb,0,none⟩),.int .i64 t] w fun e w'=>∃ v,e=.returned v/\Ext w w'/\Ints w' v ((lineL g rs t).map fun (x:Nat)=>(x:Int))/\OutOk g.length (lineL g rs t)/\NewRow w w' v (numsOf (lineL g rs t)):=by
 have Hl:=dh (fun b1 b2 b3=>line94 b1 b2 b3 vb g C rs S gv cv rv av mb mm w hv hby hn hr60 hr hrt (g.length+1));have hS:OutOk g.length (lineL g rs t):=(lineV_keeps (lineS_lt hr hrt) (g.length+1) [] t ⟨List.nodup_nil,fun x hx=>by cases hx⟩ ht).1;have HS0:=dh hS;clear hS hv hby hr hrt
 go_enter Tryz.func59,Tryz.ntmps59
 go_upto_region 4 with (fail);obtain ⟨W4,hW4⟩:∃ W4:World,W4=((w.alloc (.cells #[.pointer (some ⟨vb,0,none⟩)] 28)).alloc (.cells #[.slice none 0 0] 35)).alloc
   (.cells #[.func (.func 94) #[] #[.pointer (some ⟨w.heap.size+1,0,none⟩),.pointer (some ⟨w.heap.size,0,none⟩),.pointer (some ⟨w.heap.size+1+1,0,none⟩)]] 145):=⟨_,rfl⟩
 rw [<- hW4];have p2:W4.heap[w.heap.size]? = some (.cells #[.pointer (some ⟨vb,0,none⟩)] 28 (0,0)):=by
  rw [hW4]; exact ((Ext.alloc _ _).trans (Ext.alloc _ _)).block _ (by simp) |>.trans (heap_alloc_new _ _)
 have p1:W4.heap[w.heap.size+1]? = some (.cells #[.slice none 0 0] 35 (0,0)):=by
  rw [hW4];refine ((Ext.alloc _ _).block _ (by simp)).trans ?_;have:=heap_alloc_new (w.alloc (.cells #[.pointer (some ⟨vb,0,none⟩)] 28)) (.cells #[.slice none 0 0] 35)
  rwa [World.size_alloc] at this
 have p3:W4.heap[w.heap.size+1+1]? = some (.cells #[.func (.func 94) #[] #[.pointer (some ⟨w.heap.size+1,0,none⟩),.pointer (some ⟨w.heap.size,0,none⟩),.pointer (some ⟨w.heap.size+1+1,0,none⟩)]] 145 (0,0)):=by
  rw [hW4];have:=heap_alloc_new ((w.alloc (.cells #[.pointer (some ⟨vb,0,none⟩)] 28)).alloc (.cells #[.slice none 0 0] 35))
   (.cells #[.func (.func 94) #[] #[.pointer (some ⟨w.heap.size+1,0,none⟩),.pointer (some ⟨w.heap.size,0,none⟩),.pointer (some ⟨w.heap.size+1+1,0,none⟩)]] 145)
  rwa [World.size_alloc,World.size_alloc] at this
 have hE4:Ext w W4:=by rw [hW4]; exact ((Ext.alloc _ _).trans (Ext.alloc _ _)).trans (Ext.alloc _ _)
 have hL4:LinW w W4 (w.heap.size+1) w.heap.size (w.heap.size+1+1) vb []:=⟨hE4,p2,p3,⟨_,p1,World.ownsRow_nil _ _ _ _⟩,by omega,by omega⟩;have x3:=row_cell p3 (j:=0) rfl;have Hcall:=dh (Hl.out (w.heap.size+1) w.heap.size (w.heap.size+1+1) [] t W4 hL4 ⟨List.nodup_nil,fun x hx=>by cases hx⟩ (by simp) ht);clear hW4 p1 p2 p3 hE4 hL4;go_wp2_with fail;refine Hcall.out.mono ?_;rintro e W5 ⟨⟨v5,rfl⟩,hL5⟩;obtain ⟨v,h1,hown⟩:=hL5.out;have y1:=row_cell h1 (j:=0) rfl;have hx:=hL5.ext;have hints:=owns_ints hown (by have:=HS0.out.le; unfold maxBytes; show (lineL g rs t).length*8<=_; omega) (fun x hx=>by
  obtain ⟨y,hy,rfl⟩:=List.mem_map.1 hx;have:=HS0.out.lt y hy;omega)
 have Hnw:=dh (show NewRow w W5 v (numsOf (lineL g rs t)) from ⟨max (max (w.heap.size+1) w.heap.size) (w.heap.size+1+1)+1,by omega,by rw [nums_len9]; exact hown⟩);obtain ⟨va,vc,rfl⟩:=owns_slice hown;have Hx:=dh hx;have Hints:=dh hints;clear hL5 h1 hown hx hints;go_wp2_with fail;go_ret;exact ⟨_,rfl,Hx.out,Hints.out,HS0.out,Hnw.out⟩
end
section
open Go.RowKit Go.Proofs Go.Shelf
theorem line26 (vb:Nat) (g:List Ty) (C:Nat->Nat) (rs:List Reveal) (S:List Nat) (gv cv rv av:Value) (mb:Nat) (mm:List (BA × Value)) (w:World) (hv:EnvW w vb g C rs S gv cv rv av) (hby:ByAt w vb rs mb mm)
  (hn:g.length<=400) (hr60:rs.length<=60) (hr:∀ t,t<g.length->rightB g (nth g t)=true) (hrt:∀ i,i<rs.length->0<=(nth rs i).type/\(nth rs i).type<g.length) (a:Int)
  (hx:-9223372036854775808<=a/\a<=9223372036854775807) :
  Calls Tryz.prog 26 #[.pointer (some ⟨vb,0,none⟩),.int .i64 a] w fun e w' =>
   (askedR g.length [a]=0/\∃ v,e=.returned (.tuple #[v,.int .i64 0])/\Ints w' v (numsOf (lineL g rs a.toNat))/\Ext w w'/\NewRow w w' v (numsOf (lineL g rs a.toNat))) \/
   (askedR g.length [a]=1/\e=.returned (.tuple #[.slice none 0 0,.int .i64 1])/\Ext w w'):=by
 have hE0:=Ext.alloc w (.cells #[.int .i64 a] 3);have hl:=ints_one w a hx;obtain ⟨ga,gc,rfl,_⟩:=id hv.gr;have hcall:=dh (asked47 vb ga g.length gc hn _ 1 1 [a] _ (hE0.cell hv.c0) hl);have HE0:=dh hE0; clear hE0 hl;rcases askedR_cases g.length [a] with ⟨h0,hin⟩ | ⟨h0,_⟩
 ·have H0:=dh h0;rw [h0] at hcall;have h1:=hin a (by simp);obtain ⟨an,rfl⟩:∃ an:Nat,a=an:=⟨a.toNat,(Int.toNat_of_nonneg h1.1).symm⟩;have hal:an<g.length:=by omega
  have Hl:=dh (fun W (hE:Ext w W)=>line59 vb g C rs S _ cv rv av mb mm W (hv.mono hE) (hby.mono hE) hn hr60 hr hrt an hal);clear h0 hin h1 hv hby hr hrt
  go_enter Tryz.func26,Tryz.ntmps26
  go_wp2_with fail;refine hcall.out.mono ?_;rintro e w1 ⟨rfl,hE⟩;have HE:=dh (HE0.out.trans hE); clear hE;go_wp2_with fail;refine (Hl.out w1 HE.out).mono ?_;rintro e w2 ⟨v,rfl,hE2,hi,-,hnw⟩;have Hnw:=dh (NewRow.pre HE.out hnw);have HE2:=dh (HE.out.trans hE2);have HI:=dh hi;clear hE2 hi hnw;go_wp2_with fail;go_ret2;exact Or.inl ⟨H0.out,v,rfl,by simpa [numsOf] using HI.out,HE2.out,Hnw.out⟩
 ·have H0:=dh h0;rw [h0] at hcall;clear h0 hv hby hr hrt
  go_enter Tryz.func26,Tryz.ntmps26
  go_wp2_with fail;refine hcall.out.mono ?_;rintro e w1 ⟨rfl,hE⟩;have HE:=dh (HE0.out.trans hE); clear hE;go_wp2_with fail;go_ret2;exact Or.inr ⟨H0.out,rfl,HE.out⟩
end
section
open Go.RowKit Go.Proofs Go.Shelf
theorem names69 (x:Ty) (pv ov:Value) (hpv:∃ a n c,pv=.slice a n c) (hov:∃ a n c,ov=.slice a n c) (ma:Option Addr) (ml mc:Nat) (w:World) (hm:Meths w (.slice ma ml mc) x.methods) (h60:ml<=1000) :
  Calls Tryz.prog 69 #[.agg #[.int .u8 x.kind,.int .i64 x.low,.int .i64 x.high,.bool x.branded,.string x.brand,.string x.opq,.int .i64 x.super,pv,.slice ma ml mc,ov]] w fun e w'=>∃ v,e=.returned v/\Ext w w'/\Strs w' v (x.methods.map (·.name)):=by
 obtain ⟨p1,p2,p3,rfl⟩:=hpv;obtain ⟨o1,o2,o3,rfl⟩:=hov;obtain ⟨i0,hi,hz0,hz1,hz2⟩:=info_parts info9;have hb:=(SlW.bound hm).2;obtain rfl:=SlW.len hm;have Hm:=dh hm;clear hm
 go_enter Tryz.func69,Tryz.ntmps69
 go_upto_region 3 with (fail);obtain ⟨W1,hW1⟩:∃ W1:World,W1=w.alloc (.cells #[.int .u8 x.kind,.int .i64 x.low,.int .i64 x.high,.bool x.branded,.string x.brand,.string x.opq,.int .i64 x.super,.slice p1 p2 p3,.slice ma x.methods.length mc,.slice o1 o2 o3] 50):=⟨_,rfl⟩;rw [<- hW1];have HE1:=dh (show Ext w W1 by rw [hW1]; exact Ext.alloc _ _);clear hW1;go_loopw [3,5,9] (fun v _ i wr=>∃ k:Nat,k<=x.methods.length/\i=.int .i64 k/\(∃ a c,v=.slice a k c)/\Hid (Ext W1 wr/\wr.ownsRow W1.heap.size 9 1 v k ((List.range k).map fun j=>Value.string (nth x.methods j).name))) (fun _ _ i _=>x.methods.length-(intOf i).toNat)
 case atStart=>exact ⟨0,Nat.zero_le _,rfl,⟨_,_,rfl⟩,dh ⟨Ext.refl _,World.ownsRow_nil _ _ _ _⟩⟩
 case round =>
  obtain ⟨k,hk,rfl,⟨va,vc,rfl⟩,hH⟩:=hrel;obtain ⟨hE,hown⟩:=hH.out;clear hH;by_cases hlt:k<x.methods.length
  ·obtain ⟨b,off,aa,al,ac,ra,rl,rc,rfl,hbl,e0,e1,e2,e3,e4,-⟩:=Meths.at (Meths.mono (HE1.out.trans hE) Hm.out) hlt;obtain ⟨X,hX⟩:∃ X:Obj,X=.cells #[.string (nth x.methods k).name,.slice aa al ac,.int .i64 (nth x.methods k).sig.result,.slice ra rl rc,.string (nth x.methods k).proc] 88:=⟨_,rfl⟩;obtain ⟨Y,hY⟩:∃ Y:Obj,Y=.cells #[.string (nth x.methods k).name] 9:=⟨_,rfl⟩;have hEX:Ext wr ((wr.alloc X).alloc Y):=(Ext.alloc _ _).trans (Ext.alloc _ _);have hrow:=owns_ext hown hEX;have hsz:=hE.size;have hw:W1.heap.size<=((wr.alloc X).alloc Y).heap.size:=Nat.le_trans hsz hEX.size;have hnew:=cell_one_new (wr.alloc X) (.string (nth x.methods k).name) 9;rw [<- hY] at hnew;rw [hX,hY] at hrow hw hnew;have HE:=dh hE;have Hown:=dh hown;clear hown hE hX hY hEX X Y;rw [World.size_alloc] at hnew;go_wp2_with (at_builtin; refine wpList_append_own _ rfl (.tmp 13) (.tmp 16) 84 rfl W1.heap.size 9 i0 (.string ⟨#[]⟩) 1 16 Tryz.underlying84 hi hz0 hz1 hz2 rfl (by decide) _ _ _ rfl hrow ⟨wr.heap.size+1,0,none⟩ 1 1 [.string (nth x.methods k).name] rfl rfl hnew (by simp [Value.oneCell']) (by unfold maxLen; omega) (by omega) hw ?_; intro v9 W9 hown9 hgrow9 _; have HX:=dh (below_grown (HE.out.trans (Ext.alloc _ _)) (by rw [World.size_alloc]; omega) (owns_ext Hown.out (Ext.alloc _ _)) hgrow9); obtain ⟨a9,c9,rfl⟩:=owns_slice hown9; have HO:=dh hown9; clear hown9 hgrow9);have hown':=HO.out;rw [<- range_snoc (fun j=>Value.string (nth x.methods j).name) k] at hown';go_roundw
   case rel=>exact ⟨k+1,by omega,by go_num,⟨_,_,rfl⟩,dh ⟨HX.out,hown'⟩⟩
   case measure=>simp [intOf]; omega
  ·have hkl:k=x.methods.length:=by omega
   subst hkl;have hE0:=HE1.out.trans hE;rw [names_eq] at hown;have hs:=owns_strs hown (by unfold maxBytes; omega) (fun s hs=>by
    obtain ⟨y,hy,rfl⟩:=List.mem_map.1 hs;obtain ⟨i,hi,rfl⟩:=mem_nth hy;obtain ⟨b,off,aa,al,ac,ra,rl,rc,_,_,_,_,_,_,_,_,_,_,_,h,_⟩:=Meths.at Hm.out hi;exact h)
   have HS:=dh hs;have HE:=dh hE0;clear hE hown hs hE0;go_wp2_with fail;go_ret;exact ⟨_,rfl,HE.out,HS.out⟩
end
end Go.Proofs.YtjffkeoajkhbmaaGreat
