/- The law SubOrders, walked. The law SubOrders holds: for every input it answers true, and its arguments read as before. The reference's line. -/
import Derived.Test.YtjffkeoajkhbmaaGreatOW38
import Derived.Test.YtjffkeoajkhbmaaGreatOW39
namespace Go.Proofs.YtjffkeoajkhbmaaGreat
set_option linter.unusedSimpArgs false
set_option linter.unusedVariables false
set_option maxRecDepth 100000
set_option maxHeartbeats 8000000
section
open Go.RowKit Go.Proofs Go.Shelf
theorem subOrders3 (ga:Option Addr) (gn gc:Nat) (g:List Ty) (ra:Option Addr) (rn rc:Nat) (rs:List Reveal) (a b:Int) (w:World) (hg:Graph w (.slice ga gn gc) g) (hre:Reveals w (.slice ra rn rc) rs) (hx:I64 a) (hy:I64 b) :
  Calls Tryz.prog 3 #[.slice ga gn gc,.slice ra rn rc,.int .i64 a,.int .i64 b] w (Holds w):=by
 have Hg:=dh hg;have Hre:=dh hre;have Hx:=dh hx;have Hy:=dh hy;clear hg hre hx hy
 go_enter Tryz.func3,Tryz.ntmps3
 go_wp2_with fail;refine (little13 _ _ _ g w Hg.out).mono ?_;rintro e w1 ⟨bl,rfl,hE,hl⟩;have HE:=dh hE;clear hE hl;cases bl
 ·go_wp2_with fail;refine (ordered15 _).mono ?_;rintro e wN ⟨rfl,hE⟩;have HE:=dh (HE.out.trans hE);clear hE;go_wp2_with fail;go_ret;exact ⟨rfl,HE.out⟩
 go_wp2_with fail;refine (few14 _ _ _ rs w1 (Reveals.mono HE.out Hre.out)).mono ?_;rintro e w2 ⟨bf,rfl,hE,hf⟩;have HE:=dh (HE.out.trans hE);clear hE hf;cases bf
 ·go_wp2_with fail;refine (ordered15 _).mono ?_;rintro e wN ⟨rfl,hE⟩;have HE:=dh (HE.out.trans hE);clear hE;go_wp2_with fail;go_ret;exact ⟨rfl,HE.out⟩
 go_wp2_with fail;refine (both16 _ _ _ g _ _ _ rs w2 (Graph.mono HE.out Hg.out) (Reveals.mono HE.out Hre.out)).mono ?_;rintro e w3 ⟨hE,(⟨h0,vb,vr,rfl,hA,hG⟩ | ⟨h0,rfl⟩)⟩;rotate_left
 ·have HE:=dh (HE.out.trans hE);clear hE h0;go_wp2_with fail;refine (ordered15 _).mono ?_;rintro e wN ⟨rfl,hE⟩;have HE:=dh (HE.out.trans hE);clear hE;go_wp2_with fail;go_ret;exact ⟨rfl,HE.out⟩
 have HE:=dh (HE.out.trans hE);have HA:=dh hA;have HG:=dh hG;clear hE hA hG h0;go_wp2_with fail;refine (belowA HA.out a b Hx.out Hy.out).mono ?_;rintro e w4 ⟨rfl,hE⟩;have HE:=dh (HE.out.trans hE);have HA:=dh (HA.out.mono hE);have HG:=dh (HG.out.mono hE);clear hE;go_wp2_with fail;refine (belowG HG.out a b Hx.out Hy.out).mono ?_;rintro e w5 ⟨rfl,hE⟩;have HE:=dh (HE.out.trans hE);have HA:=dh (HA.out.mono hE);have HG:=dh (HG.out.mono hE);clear hE;go_wp2_with fail;refine (aboveA HA.out a Hx.out).mono ?_;rintro e w6 ⟨pa,pn,pc,rfl,hp,hE⟩;have HE:=dh (HE.out.trans hE);have HA:=dh (HA.out.mono hE);have HG:=dh (HG.out.mono hE);have Hp:=dh hp;clear hE hp;go_wp2_with fail;refine (aboveG HG.out a Hx.out).mono ?_;rintro e w7 ⟨qa,qn,qc,rfl,hq,hE⟩;have HE:=dh (HE.out.trans hE);have HA:=dh (HA.out.mono hE);have HG:=dh (HG.out.mono hE);have Hp:=dh (Ints.mono hE Hp.out);have Hq:=dh hq;clear hE hq;go_wp2_with fail;refine (joinA HA.out a b Hx.out Hy.out).mono ?_;rintro e w8 ⟨rfl,hE⟩;have HE:=dh (HE.out.trans hE);have HG:=dh (HG.out.mono hE);have Hp:=dh (Ints.mono hE Hp.out);have Hq:=dh (Ints.mono hE Hq.out);clear hE HA;go_wp2_with fail;refine (joinG HG.out a b Hx.out Hy.out).mono ?_;rintro e w9 ⟨rfl,hE⟩;have HE:=dh (HE.out.trans hE);have Hp:=dh (Ints.mono hE Hp.out);have Hq:=dh (Ints.mono hE Hq.out);clear hE HG;generalize (belowQ g rs a b).1=x1;generalize (belowQ g rs a b).2=x2;generalize askedR g.length [a]=x3;generalize (joinQ g rs a b).1=x4;generalize (joinQ g rs a b).2.1=x5;generalize (joinQ g rs a b).2.2=x6;have i1:(x1==x1)=true:=by simp
 have i2:(x2==x2)=true:=by simp
 have i3:(x3==x3)=true:=by simp
 have i4:(x4==x4)=true:=by simp
 have i5:(x5==x5)=true:=by simp
 have i6:(x6==x6)=true:=by simp
 go_wp2_with fail;refine (ordered15 _).mono ?_;rintro e w10 ⟨rfl,hE⟩;have HE:=dh (HE.out.trans hE);have Hp:=dh (Ints.mono hE Hp.out);have Hq:=dh (Ints.mono hE Hq.out);clear hE;go_wp2_with fail;refine (sameInts23 _ _ _ _ _ _ _ _ _ Hp.out Hq.out).mono ?_;rintro e w11 ⟨rfl,hE⟩;have HE:=dh (HE.out.trans hE);clear hE Hp Hq;rw [decide_eq_true rfl];go_wp2_with fail;go_ret;exact ⟨rfl,HE.out⟩
end
section
open Go.ChangeShapes Go.WideShapes Go.ChangeAt Go.RowKit Go.Proofs
theorem subOrders_lifted (os:Os) (started:os.Started) (H:Type) (enc:TypeId × Value->H) :
  ReturnsInHanded {} Tryz.checked os 3 .any (Rows.subOrdersSpec.pre6 enc Tryz.prog Tryz.f3 Rows.subOrdersRow.domain false) (Rows.subOrdersSpec.post enc Tryz.prog Tryz.f3 false true false false):=by
 refine returnsInHanded_of_change_sized (C:=Tryz.checked) own started (by kernel_rfl) Tryz.func3
  (ChangeSpec.witness6 (enc:=enc) (C:=Tryz.checked) false ⟨#[],#[.slice none 0 0,.slice none 0 0,.int .i64 0,.int .i64 0],[]⟩ 8 (by kernel_rfl) (by kernel_rfl) (by kernel_rfl) (by kernel_rfl)) ?_
 intro W base args ds gs before hval0 hW hcnd hsz _;have hval:∀ (j:Nat) t v,Tryz.f3.params[j]? = some t->args[j]? = some v->Value.okWide Tryz.prog W .any base t v:=hval0;have hW':=hW;obtain ⟨p,q,hA0,hV,rfl,hfz,hnd⟩:=hW;have hA:DataW.TrodAll enc Tryz.prog W 0 (fun _=>true) true Tryz.f3.params.toList args.toList ds p:=hA0;have hfit:∀ (j:Nat) (t:TypeId) (d:DataW H),Tryz.f3.params.toList[j]? = some t->ds[j]? = some d->Fits Tryz.prog t d:=fun j t d ht hd=>by
  refine fits_each (ts:=Tryz.f3.params.toList++Rows.subOrdersSpec.plain.varTypes Tryz.prog) (ds:=ds++gs) (fun m hm=>of_decide_eq_true (List.all_eq_true.1 hsz m hm)) (j:=j) ?_ ?_
  ·rw [List.getElem?_append_left (List.getElem?_eq_some_iff.1 ht).1]; exact ht
  ·rw [List.getElem?_append_left (List.getElem?_eq_some_iff.1 hd).1]; exact hd
 rw [Tryz.params3] at hA hval hfit;obtain ⟨v0,vs0,d0,ds0,p0,q0,hargs,rfl,rfl,h0,r0⟩:=trodAll_cons hA;obtain ⟨v1,vs1,d1,ds1,p1,q1,rfl,rfl,rfl,h1,r1⟩:=trodAll_cons r0;obtain ⟨v2,vs2,d2,ds2,p2,q2,rfl,rfl,rfl,h2,r2⟩:=trodAll_cons r1;obtain ⟨v3,vs3,d3,ds3,p3,q3,rfl,rfl,rfl,h3,r3⟩:=trodAll_cons r2;obtain ⟨rfl,rfl,rfl⟩:=trodAll_nil r3;obtain rfl:args=#[v0,v1,v2,v3]:=by cases args; simp_all
 obtain ⟨rfl,rfl⟩:=trodVars_none hV;obtain ⟨a0,n0,c0,g0,rfl,w0⟩:=arg_graph (hval 0 23 v0 rfl rfl) h0 (hfit 0 23 d0 rfl rfl);obtain ⟨a1,n1,c1,g1,rfl,w1⟩:=arg_reveals (hval 1 24 v1 rfl rfl) h1 (hfit 1 24 d1 rfl rfl);obtain ⟨a2,rfl,rfl,rfl,w2⟩:=open_int Tryz.underlying3 (hval 2 3 v2 rfl rfl) h2;obtain ⟨a3,rfl,rfl,rfl,w3⟩:=open_int Tryz.underlying3 (hval 3 3 v3 rfl rfl) h3;clear hA0 hval0 hsz;refine (subOrders3 a0 n0 c0 g0 a1 n1 c1 g1 a2 a3 W w0 w1 (wf_i64 w2) (wf_i64 w3)).mono fun e W' ⟨he,bel⟩=>?_;subst he;exact ⟨_,rfl,_,_,_,[],_,[],hW',trodAll_mk1 (shut_bool Tryz.underlying4 _),(trodAll_cons_mk (arg_below (by kernel_rfl) (of_decide_eq_true (by kernel_rfl)) h0 bel) (trodAll_cons_mk (arg_below (by kernel_rfl) (of_decide_eq_true (by kernel_rfl)) h1 bel) (trodAll_cons_mk (shut_int Tryz.underlying3 w2) (trodAll_cons_mk (shut_int Tryz.underlying3 w3) trodAll_mk0)))),rfl,bel.frame _,fun h=>by cases h⟩
theorem subOrders_over:Rows.subOrdersRow.holds Tryz.pinned (OpenSpec.ofChange Rows.subOrdersSpec) :=
 OpenClaim.holds_of_wide 3 Tryz.f3 rfl rfl rfl rfl rfl rfl rfl ⟨rfl,rfl,rfl,rfl,rfl⟩ rfl rfl rfl rfl rfl (by kernel_rfl) Tryz.func3 (by kernel_rfl)
  (of_decide_eq_true (by kernel_rfl)) (by unfold Func.isWrapper; first | (rw [if_pos (by decide +kernel)]; kernel_rfl) | (rw [if_neg (by decide +kernel)]; exact ⟨rfl,rfl⟩))
  (fun os started H enc _=>subOrders_lifted os started H enc)
theorem subOrders_holds:Rows.SubOrdersSaid:=subOrders_over
#print axioms subOrders_holds
end
section
open Go.RowKit Go.Proofs Go.Shelf
def Keep3 (w w':World):Prop:=∀ (b:Nat) (cs:Array Value) (T:TypeId),T≠3->w.heap[b]? = some (.cells cs T (0,0))->w'.heap[b]? = some (.cells cs T (0,0))
theorem Keep3.refl (w:World):Keep3 w w:=fun _ _ _ _ h=>h
theorem Keep3.trans {a b c:World} (h:Keep3 a b) (k:Keep3 b c):Keep3 a c:=fun x cs T hT hx=>k x cs T hT (h x cs T hT hx)
theorem Keep3.ext {w w':World} (h:Ext w w'):Keep3 w w':=fun b cs T _ hb=>(h.block b (Array.getElem?_eq_some_iff.1 hb).1).trans hb
theorem Keep3.grown {w w':World} {base:Nat} {v:Value} {xs:List Int} (hO:OwnL IntC 3 1 w base v xs) (hg:w.grownBy w' v.ownBlock):Keep3 w w':=fun b cs T hT hb=>by
 refine (hg.block b (Array.getElem?_eq_some_iff.1 hb).1 (fun e=>?_)).trans hb;obtain ⟨cur,hc⟩:=own_type hO e.symm;exact ne_type hb hc hT rfl
theorem RefI.mono {W0 w w':World} {v:Value} {l:List Int} (h:RefI W0 w v l) (hE:Ext w w'):RefI W0 w' v l:=⟨h.ext.trans hE,own_later h.own hE⟩
theorem fullAt_is {rs:List Reveal} {s:BA} {k:Nat} (hk:k<rs.length) (hf:(nth rs k).full=true) (hn:(nth rs k).name=s) (h:∀ j,j<k->¬ ((nth rs j).full=true/\(nth rs j).name=s)) :
  ∃ q,fullAt rs (byN rs rs.length s)=some q/\nth (byN rs rs.length s) q=k:=by
 obtain ⟨L,hL⟩:∃ L,L=byN rs rs.length s:=⟨_,rfl⟩;rw [<- hL];have hs:L.Pairwise (·<·):=by rw [hL]; exact List.pairwise_lt_range.filter _
 have hin:∀ i,i∈L->i<rs.length/\(nth rs i).name=s:=fun i hi=>by
  rw [hL] at hi;have:=List.mem_filter.1 hi;exact ⟨List.mem_range.1 this.1,by simpa using this.2⟩
 have hkL:k∈L:=by
  rw [hL];exact List.mem_filter.2 ⟨List.mem_range.2 hk,by simp [hn]⟩
 obtain ⟨p,hp,hpk⟩:=List.getElem_of_mem hkL;refine ⟨p,?_,by rw [nth_eq hp]; exact hpk⟩;unfold fullAt;refine find_some hp (by rw [nth_eq hp,hpk]; exact hf) (fun j hj=>?_);have hjl:j<L.length:=Nat.lt_trans hj hp;rw [nth_eq hjl];have h1:=List.pairwise_iff_getElem.1 hs j p (by omega) hp hj;rw [hpk] at h1;have h2:=hin L[j] (List.getElem_mem _);cases hb:(nth rs L[j]).full
 ·rfl
 ·exact absurd ⟨hb,h2.2⟩ (h _ h1)
theorem lineS_full {g:List Ty} {rs:List Reveal} {t k:Nat} (h13:(nth g t).kind=13) (hk:k<rs.length) (hf:(nth rs k).full=true) (hn:(nth rs k).name=(nth g t).opq) (h:∀ j,j<k->¬ ((nth rs j).full=true/\(nth rs j).name=(nth g t).opq)) :
  lineS g rs t=[(nth rs k).type.toNat]:=by
 obtain ⟨q,h1,h2⟩:=fullAt_is hk hf hn h;unfold lineS;rw [if_pos h13,h1];simp only [h2]
theorem lineS_part {g:List Ty} {rs:List Reveal} {t:Nat} (h13:(nth g t).kind=13) (h:∀ j,j<rs.length->¬ ((nth rs j).full=true/\(nth rs j).name=(nth g t).opq)) :
  lineS g rs t=((byN rs rs.length (nth g t).opq).map fun i=>(nth rs i).type.toNat)++[(nth g t).super.toNat]:=by
 have h0:fullAt rs (byN rs rs.length (nth g t).opq)=none:=by
  unfold fullAt;refine find_none (fun j hj=>?_);have hm:=nth_mem hj;have:=List.mem_filter.1 (show nth (byN rs rs.length (nth g t).opq) j∈(List.range rs.length).filter fun i=>(nth rs i).name==(nth g t).opq from hm);cases hb:(nth rs (nth (byN rs rs.length (nth g t).opq) j)).full
  ·rfl
  ·exact absurd ⟨hb,by simpa using this.2⟩ (h _ (List.mem_range.1 this.1))
 unfold lineS;rw [if_pos h13,h0];simp only [supL9];rw [if_pos (by rw [h13]; rfl)]
theorem lineS_obj {g:List Ty} {rs:List Reveal} {t:Nat} (h:(nth g t).kind=12):lineS g rs t=[(nth g t).super.toNat]:=by
 unfold lineS supL9;rw [if_neg (by rw [h]; decide),if_pos (by rw [h]; rfl)]
theorem lineS_none {g:List Ty} {rs:List Reveal} {t:Nat} (h:¬ (nth g t).kind=12) (h2:¬ (nth g t).kind=13):lineS g rs t=[]:=by
 unfold lineS supL9;rw [if_neg h2,if_neg (by unfold hasSuperB; simp [h,h2])]
def foldK (g:List Ty) (rs:List Reveal) (f:Nat) (out:List Nat) (s:BA) (k:Nat):List Nat:=((byN rs k s).map fun i=>(nth rs i).type.toNat).foldl (lineV (lineS g rs) f) out
theorem foldK_hit {g:List Ty} {rs:List Reveal} {f:Nat} {out:List Nat} {s:BA} {k:Nat} (h:((nth rs k).name==s)=true):foldK g rs f out s (k+1)=lineV (lineS g rs) f (foldK g rs f out s k) (nth rs k).type.toNat:=by
 unfold foldK;rw [byN_hit rs k s h,List.map_append,List.foldl_append]
 rfl
theorem foldK_miss {g:List Ty} {rs:List Reveal} {f:Nat} {out:List Nat} {s:BA} {k:Nat} (h:((nth rs k).name==s)=false):foldK g rs f out s (k+1)=foldK g rs f out s k:=by
 unfold foldK;rw [byN_miss rs k s h]
theorem line60 {W0:World} {vb:Nat} {g:List Ty} {rs:List Reveal} {C:Nat->Nat} (hv:EnvR W0 vb g rs C) (h400:g.length<=400) (h60:rs.length<=60) (hr:∀ t,t<g.length->rightB g (nth g t)=true) (hrt:∀ i,i<rs.length->0<=(nth rs i).type/\(nth rs i).type<g.length) :
  ∀ (f:Nat) (out:List Nat) (t:Nat) (v:Value) (w:World),RefI W0 w v (numsOf out)->OutOk g.length out->t<g.length->g.length+1<=f+out.length ->
   Calls Tryz.prog 60 #[.pointer (some ⟨vb,0,none⟩),v,.int .i64 t] w fun e w'=>∃ v',e=.returned v'/\RefI W0 w' v' (numsOf (lineV (lineS g rs) f out t))/\Keep3 w w':=by
 have hS:=lineS_lt hr hrt;have Hv:=dh hv;have Hr:=dh (show ∀ t,t<g.length->hasSuperB (nth g t).kind=true->0<=(nth g t).super/\(nth g t).super<g.length from fun t ht=>right_super (hr t ht));have Hrt:=dh hrt;have HS:=dh hS;clear hv hr hrt hS;intro f
 induction f with
 | zero=>intro out t v w _ hok _ hlen; have:=hok.le; omega
 | succ f ih =>
  intro out t v w hR hok ht hlen;have hol:=hok.le;have hI:Ints w v (numsOf out):=hR.own.slw (by unfold numsOf maxBytes; rw [List.length_map]; omega);obtain ⟨la,lc,rfl,_⟩:=id hI;have hll:(numsOf out).length=out.length:=by unfold numsOf; simp
  rw [hll] at hI hR ⊢;obtain ⟨i0,hi,hz0,hz1,hz2⟩:=info_parts info3;have HI:=dh hI;have HR:=dh hR;have Hok:=dh hok;have Hih:=dh ih;clear hI hR hok ih hll
  go_enter Tryz.func60,Tryz.ntmps60
  go_upto_region 2 with (fail);go_loopw [7] (fun i wr=>∃ k:Nat,k<=out.length/\i=.int .i64 k/\wr=w/\Hid (∀ j,j<k->nth out j≠t)) (fun i _=>out.length-(intOf i).toNat)
  case atStart=>exact ⟨0,Nat.zero_le _,rfl,rfl,dh (fun j hj=>absurd hj (Nat.not_lt_zero _))⟩
  case round =>
   obtain ⟨k,hk,rfl,rfl,Hno⟩:=hrel;rename World=>w;by_cases hlt:k<out.length
   ·obtain ⟨b,off,hab,hbl,cx,_,_⟩:=Ints.at HI.out (i:=k) (by simpa [numsOf] using hlt);cases hab;unfold numsOf at cx;rw [nth_mapI _ hlt] at cx;obtain ⟨u,hu⟩:∃ u,u=nth out k:=⟨_,rfl⟩;rw [<- hu] at cx;have Hu:=dh hu;clear hu;by_cases he:u=t
    ·have Hf:=dh (show lineV (lineS g rs) (f+1) out t=out from lineV_met (by rw [<- he,Hu.out]; exact nth_mem hlt));have heq:((u:Int)==(t:Int))=true:=by rw [he]; simp
     clear he;go_wp2_with fail;go_ret;exact ⟨_,rfl,by rw [Hf.out]; exact HR.out,Keep3.refl _⟩
    ·have HJ:=dh (show ∀ j,j<k+1->nth out j≠t from fun j hj=>by
      by_cases e:j=k
      ·rw [e,<- Hu.out]; exact he
      ·exact Hno.out j (by omega))
     have heq:((u:Int)==(t:Int))=false:=by rw [beq_eq_false_iff_ne]; omega
     clear he;go_wp2_with fail;go_roundw
     case rel=>exact ⟨k+1,by omega,by go_num,by trivial,HJ⟩
     case measure=>simp [intOf]; omega
   ·have hmem:t∉out:=fun h=>by
     obtain ⟨j,hj,e⟩:=List.getElem_of_mem h;exact Hno.out j (by omega) (by rw [nth_eq hj]; exact e)
    have Hok2:=dh (Hok.out.snoc ht hmem);have Hnew:=dh (lineV_new (S:=lineS g rs) (f:=f) hmem);clear hmem Hno;have hsz:=HR.out.ext.size;go_wp2_with (at_builtin; refine wpList_appendL rfl (.tmp 24) (.tmp 26) 35 rfl W0.heap.size 3 i0 (.int .i64 0) 1 8 Tryz.underlying35 hi hz0 hz1 hz2 rfl (by decide) _ _ rfl (own_later HR.out.own (Ext.alloc _ _)) rfl (one_int _ ⟨by omega,by omega⟩) int_cells ?y1 ?y2 ?y3 ?_)
    case y1=>unfold maxLen numsOf; simp; omega
    case y2=>unfold numsOf; simp; omega
    case y3=>rw [World.size_alloc]; omega
    intro v2 W2 hO2 hg2 hat2;have HR2:=dh (show RefI W0 W2 v2 (numsOf (out++[t])) by
     have:=RefI.push HR.out (Ext.alloc _ _) hO2 hg2;unfold numsOf at this ⊢;rw [List.map_append]; exact this)
    have HK2:=dh ((Keep3.ext (Ext.alloc w _)).trans (Keep3.grown (own_later HR.out.own (Ext.alloc _ _)) hg2));clear hO2 hg2 hat2;obtain ⟨ga,gc,ra,rc,_,_,c0,c1,_,hG,hRe,_⟩:=Hv.out.mono HR2.out.ext;obtain ⟨gb,gof,pa,pl,pc,ma,ml,mc,oa,ol,oc,hab,hbl,hT⟩:=Graph.at hG ht;cases hab;obtain ⟨d0,d1,d2,d3,d4,d5,d6,d7,d8,d9,_,_,_,_⟩:=hT;obtain ⟨x,hx⟩:∃ x,x=nth g t:=⟨_,rfl⟩;rw [<- hx] at d0 d1 d2 d3 d4 d5 d6;have HX:=dh hx;have Hg:=dh hG;clear hG hx;go_upto_region 8 with (fail);obtain ⟨W3,hW⟩:∃ W:World,W=W2.alloc (.cells (tyArr x pa pl pc ma ml mc oa ol oc) 50):=⟨_,rfl⟩;have hE3:Ext W2 W3:=by rw [hW]; exact Ext.alloc _ _
    have hbox:W3.heap[W2.heap.size]? = some (.cells (tyArr x pa pl pc ma ml mc oa ol oc) 50 (0,0)):=by rw [hW]; exact heap_alloc_new _ _
    unfold tyArr at hW;rw [<- hW];obtain ⟨xb,hxb⟩:∃ xb,xb=W2.heap.size:=⟨_,rfl⟩;rw [<- hxb] at hbox ⊢;have HB:=dh hbox;have HR3:=dh (HR2.out.mono hE3);have HK3:=dh (HK2.out.trans (Keep3.ext hE3));have e0:=hE3.cell c0;have e1:=hE3.cell c1;have HRe:=dh (Reveals.mono hE3 hRe);have b0:=(tyBox_of hbox).c0;have b5:=(tyBox_of hbox).c5;have b6:=(tyBox_of hbox).c6;have Hsup:=dh (show hasSuperB x.kind=true->∃ s:Nat,x.super=s/\s<g.length from fun h=>by
     have:=Hr.out t ht (by rw [<- HX.out]; exact h);rw [<- HX.out] at this;exact ⟨x.super.toNat,by omega,by omega⟩)
    clear hW hxb hbox hE3 hRe c0 c1 d0 d1 d2 d3 d4 d5 d6 d7 d8 d9;have hlen2:g.length+1<=f+(out++[t]).length:=by rw [List.length_append]; simp; omega
    cases k12:(x.kind==12);rotate_left
    ·obtain ⟨s,hs,hsn⟩:=Hsup.out (by unfold hasSuperB; rw [k12]; rfl);have Hs:=dh (show lineV (lineS g rs) (f+1) out t=lineV (lineS g rs) f (out++[t]) s by
      rw [Hnew.out,lineS_obj (by rw [<- HX.out]; simpa using k12),<- HX.out,hs]; rfl)
     rw [hs] at b6;clear hs;go_wp2_with fail;refine (Hih.out (out++[t]) s v2 W3 HR3.out Hok2.out hsn hlen2).mono ?_;rintro e W4 ⟨v4,rfl,hR4,hK4⟩;have HR4:=dh hR4;have HK4:=dh (HK3.out.trans hK4);clear hR4 hK4;go_wp2_with fail;go_ret;exact ⟨_,rfl,by rw [Hs.out]; exact HR4.out,HK4.out⟩
    cases k13:(x.kind==13)
    ·have Hs:=dh (show lineV (lineS g rs) (f+1) out t=out++[t] by
      rw [Hnew.out,lineS_none (by rw [<- HX.out]; simpa using k12) (by rw [<- HX.out]; simpa using k13)]; rfl)
     have k13b:=bneOf k13;go_wp2_with fail;go_ret;exact ⟨_,rfl,by rw [Hs.out]; exact HR3.out,HK3.out⟩
    have K13:=dh (show (nth g t).kind=13 by rw [<- HX.out]; simpa using k13);have k13b:=bneOf k13;obtain ⟨s,hs,hsn⟩:=Hsup.out (by unfold hasSuperB; rw [k13]; simp);have Hss:=dh hs;rw [hs] at b6;clear hs;go_upto_region 13 with (fail);go_loopw [9] (fun i wr=>∃ k:Nat,k<=rs.length/\i=.int .i64 k/\Hid (Ext W3 wr/\∀ j,j<k->¬ ((nth rs j).full=true/\(nth rs j).name=x.opq))) (fun i _=>rs.length-(intOf i).toNat)
    case atStart=>exact ⟨0,Nat.zero_le _,rfl,dh ⟨Ext.refl _,fun j hj=>absurd hj (Nat.not_lt_zero _)⟩⟩
    case round =>
     obtain ⟨k,hk,rfl,hH⟩:=hrel;have f0:=hH.out.1.cell e0;have f1:=hH.out.1.cell e1;have x0:=hH.out.1.cell b0;have x5:=hH.out.1.cell b5;by_cases hlt:k<rs.length
     ·obtain ⟨rb,rof,hab,hrl,r0,r1,r2,_⟩:=Reveals.at (Reveals.mono hH.out.1 HRe.out) hlt;cases hab;have Hnx:=dh (show ¬ ((nth rs k).full=true/\(nth rs k).name=x.opq)->∀ j,j<k+1->¬ ((nth rs j).full=true/\(nth rs j).name=x.opq) from fun h j hj=>by
       by_cases hjk:j=k
       ·rw [hjk]; exact h
       ·exact hH.out.2 j (by omega))
      cases hfl:(nth rs k).full
      ·have HJ:=dh (Hnx.out (fun h=>by rw [hfl] at h; cases h.1));rw [hfl] at r1;clear hfl;go_upto_region 15 with (fail)
       go_quiet (fail)
       go_wp2_with fail;go_roundw
       case rel=>exact ⟨k+1,by omega,by go_num,dh ⟨below_drewN hH.out.1 _,HJ.out⟩⟩
       case measure=>simp [intOf]; omega
      have Hfl:=dh hfl;rw [hfl] at r1;clear hfl;cases hn:((nth rs k).name==x.opq)
      ·have HJ:=dh (Hnx.out (fun h=>by rw [h.2] at hn; simp at hn));rw [beq_toListBytes] at hn;go_upto_region 15 with (fail)
       go_quiet (fail)
       go_wp2_with fail;go_roundw
       case rel=>exact ⟨k+1,by omega,by go_num,dh ⟨below_drewN hH.out.1 _,HJ.out⟩⟩
       case measure=>simp [intOf]; omega
      have hrk:=Hrt.out k hlt;obtain ⟨u,hu,hun⟩:∃ u:Nat,(nth rs k).type=u/\u<g.length:=⟨(nth rs k).type.toNat,by omega,by omega⟩;have Hs:=dh (show lineV (lineS g rs) (f+1) out t=lineV (lineS g rs) f (out++[t]) u by
       rw [Hnew.out,lineS_full K13.out hlt Hfl.out (by rw [<- HX.out]; simpa using hn) (by rw [<- HX.out]; exact hH.out.2),hu]; rfl)
      rw [hu] at r2;rw [beq_toListBytes] at hn;clear hu hrk Hnx;go_upto_region 15 with (fail)
      go_quiet (fail)
      go_wp2_with fail;refine (Hih.out (out++[t]) u v2 _ (HR3.out.mono (below_drewN hH.out.1 _)) Hok2.out hun hlen2).mono ?_;rintro e W4 ⟨v4,rfl,hR4,hK4⟩;have HR4:=dh hR4;have HK4:=dh ((HK3.out.trans (Keep3.ext (below_drewN hH.out.1 _))).trans hK4);clear hR4 hK4;go_wp2_with fail;go_ret;exact ⟨_,rfl,by rw [Hs.out]; exact HR4.out,HK4.out⟩
     ·have hkn:k=rs.length:=by omega
      subst hkn;have HP:=dh (lineS_part K13.out (by rw [<- HX.out]; exact hH.out.2));have HR5:=dh (HR3.out.mono hH.out.1);have HK5:=dh (HK3.out.trans (Keep3.ext hH.out.1));have HB5:=dh (Keep3.ext hH.out.1 _ _ _ (by decide) HB.out);go_upto_region 18 with (fail);clear f0 f1 x0 x5;go_loopw [1,10] (fun lv i wx=>∃ k:Nat,k<=rs.length/\i=.int .i64 k/\Hid (RefI W0 wx lv (numsOf (foldK g rs f (out++[t]) x.opq k))/\OutOk g.length (foldK g rs f (out++[t]) x.opq k)/\(out++[t]).length<=(foldK g rs f (out++[t]) x.opq k).length/\Keep3 wr wx)) (fun _ i _=>rs.length-(intOf i).toNat)
      case atStart=>exact ⟨0,Nat.zero_le _,rfl,dh ⟨HR5.out,Hok2.out,Nat.le_refl _,Keep3.refl _⟩⟩
      case round =>
       obtain ⟨k,hk,rfl,hJ⟩:=hrel;obtain ⟨_,_,_,_,_,_,f0,f1,_,_,hRe,_⟩:=Hv.out.mono hJ.out.1.ext;have hb:=hJ.out.2.2.2 _ _ _ (by decide) HB5.out;have x5:=(tyBox_of hb).c5;have x6:=(tyBox_of hb).c6;rw [Hss.out] at x6;by_cases hlt:k<rs.length
       ·obtain ⟨rb,rof,hab,hrl,r0,r1,r2,_⟩:=Reveals.at hRe hlt;cases hab;clear hRe hb;cases hn:((nth rs k).name==x.opq)
        ·have HJ:=dh (foldK_miss (g:=g) (f:=f) (out:=out++[t]) hn);rw [beq_toListBytes] at hn;go_upto_region 20 with (fail)
         go_quiet (fail)
         go_wp2_with fail;go_roundw
         case rel=>exact ⟨k+1,by omega,by go_num,dh (by rw [HJ.out]; exact ⟨hJ.out.1.mono (below_drewN (Ext.refl _) _),hJ.out.2.1,hJ.out.2.2.1,hJ.out.2.2.2.trans (Keep3.ext (below_drewN (Ext.refl _) _))⟩)⟩
         case measure=>simp [intOf]; omega
        ·have hrk:=Hrt.out k hlt;obtain ⟨u,hu,hun⟩:∃ u:Nat,(nth rs k).type=u/\u<g.length:=⟨(nth rs k).type.toNat,by omega,by omega⟩;have HJ:=dh (foldK_hit (g:=g) (f:=f) (out:=out++[t]) hn);rw [hu] at HJ;have HK:=dh (lineV_keeps HS.out f (foldK g rs f (out++[t]) x.opq k) u hJ.out.2.1 hun);rw [hu] at r2;rw [beq_toListBytes] at hn;clear hu hrk;go_upto_region 20 with (fail)
         go_quiet (fail)
         go_wp2_with fail;refine (Hih.out (foldK g rs f (out++[t]) x.opq k) u u1 _ (hJ.out.1.mono (below_drewN (Ext.refl _) _)) hJ.out.2.1 hun (by have:=hJ.out.2.2.1; omega)).mono ?_;rintro e W4 ⟨v4,rfl,hR4,hK4⟩;have HR4:=dh hR4;have HK4:=dh ((hJ.out.2.2.2.trans (Keep3.ext (below_drewN (Ext.refl _) _))).trans hK4);clear hR4 hK4;go_wp2_with fail;go_roundw
         case rel=>exact ⟨k+1,by omega,by go_num,dh (by rw [HJ.out]; exact ⟨HR4.out,HK.out.1,Nat.le_trans hJ.out.2.2.1 HK.out.2,HK4.out⟩)⟩
         case measure=>simp [intOf]; omega
       ·have hkn:k=rs.length:=by omega
        subst hkn;have Hs:=dh (show lineV (lineS g rs) (f+1) out t=lineV (lineS g rs) f (foldK g rs f (out++[t]) x.opq rs.length) s by
         rw [Hnew.out,HP.out,List.foldl_append,<- HX.out,Hss.out]; rfl)
        clear hRe hb;go_wp2_with fail;refine (Hih.out (foldK g rs f (out++[t]) x.opq rs.length) s u1 _ hJ.out.1 hJ.out.2.1 hsn (by have:=hJ.out.2.2.1; omega)).mono ?_;rintro e W4 ⟨v4,rfl,hR4,hK4⟩;have HR4:=dh hR4;have HK4:=dh ((HK5.out.trans hJ.out.2.2.2).trans hK4);clear hR4 hK4;go_wp2_with fail;go_ret;exact ⟨_,rfl,by rw [Hs.out]; exact HR4.out,HK4.out⟩
end
end Go.Proofs.YtjffkeoajkhbmaaGreat
