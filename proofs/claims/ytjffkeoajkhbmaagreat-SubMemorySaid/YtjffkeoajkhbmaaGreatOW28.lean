/- sub.CheckDerive: are steps a derivation? CheckDerive of too many steps. sub.circles. What makes an environment right; the two maps that are filled while it is opened. -/
import Derived.Test.YtjffkeoajkhbmaaGreatOW17
import Derived.Test.YtjffkeoajkhbmaaGreatOW22
import Derived.Test.YtjffkeoajkhbmaaGreatOW27
namespace Go.Proofs.YtjffkeoajkhbmaaGreat
set_option linter.unusedSimpArgs false
set_option linter.unusedVariables false
set_option maxRecDepth 100000
set_option maxHeartbeats 8000000
section
open Go.RowKit Go.Proofs Go.Shelf
attribute [local go_sem] Oper.semAt_some
def checkD (st:Nat->List Stp):Nat->List IStp->Option Nat
 | x,[]=>some x
 | x,s :: l=>if (st x).any fun y=>decide (y.toI=s) then checkD st s.to_.toNat l else none
def checkS (st:Nat->List Stp) (a:Nat) (l:List IStp) (b:Nat):Bool:=checkD st a l==some b
theorem checkD_append (st:Nat->List Stp):∀ (l m:List IStp) (x:Nat),checkD st x (l++m)=(checkD st x l).bind fun z=>checkD st z m
 | [],_,_=>rfl
 | s :: l,m,x=>by
  simp only [List.cons_append,checkD];split
  ·exact checkD_append st l m _
  ·rfl
theorem checkD_take {st:Nat->List Stp} {x z k:Nat} {l:List IStp} (hk:k<l.length) (h:checkD st x (l.take k)=some z) :
  checkD st x (l.take (k+1))=(if (st z).any fun y=>decide (y.toI=nth l k) then some (nth l k).to_.toNat else none)/\(((st z).any fun y=>decide (y.toI=nth l k))=false->checkD st x l=none):=by
 constructor
 ·rw [List.take_succ_eq_append_getElem hk,checkD_append,h,nth_eq hk];simp only [Option.bind_some,checkD]
 ·intro hn;have:l=l.take k++(nth l k :: l.drop (k+1)):=by
   rw [nth_eq hk,List.getElem_cons_drop,List.take_append_drop]
  rw [this,checkD_append,h];simp only [Option.bind_some,checkD,hn,Bool.false_eq_true,if_false]
def NoHit {n:Nat} (s:IStp) (pre:List (StpG n)):Prop:=∀ y,y∈pre->y.1.toI≠s
def Hit {n:Nat} (s:IStp) (pre:List (StpG n)):Prop:=∃ y,y∈pre/\y.1.toI=s
def noFoot (_:World) (_:Nat):Prop:=False
theorem noFoot_ok (N:Nat):FootOk N noFoot:=⟨fun _ _ _ _ _ h=>h.elim,fun _ _ _ _ _ h=>h,fun _ _ _ _ _ _ _ _ h=>h⟩
theorem StepsW.at {w:World} {a:Option Addr} {n c:Nat} {xs:List IStp} (h:StepsW w (.slice a n c) xs) {i:Nat} (hi:i<n) :
  ∃ b off,a=some ⟨b,off,none⟩/\b<w.heap.size/\w.cell? ⟨b,off+i*3,none⟩=some (.int .u8 (nth xs i).rule)/\w.cell? ⟨b,off+i*3+1,none⟩=some (.int .i64 (nth xs i).to_)/\w.cell? ⟨b,off+i*3+2,none⟩=some (.int .i64 (nth xs i).n) /\
   -9223372036854775808<=(nth xs i).to_/\(nth xs i).to_<=9223372036854775807:=by
 obtain ⟨b,off,cs,ha,⟨rfl,h1⟩,_,hc⟩:=SlW.at h hi;have h0:=hc 0 _ rfl;have h2:=hc 1 _ rfl;have h3:=hc 2 _ rfl;simp only [Nat.add_zero] at h0;exact ⟨b,off,ha,cell_lt h0,h0,h2,h3,h1.2.2.1,h1.2.2.2.1⟩
structure CRel (w W3:World) (b5 a n:Nat) (st:Nat->List Stp) (L:List IStp) (k:Nat) (l:List Nat) (wr:World):Prop where
 le:k<=L.length
 cur:∃ x,x<n/\checkD st a (L.take k)=some x/\wr.heap[b5]? = some (.cells #[.int .i64 x] 3 (0,0))
 ext:Ext w wr
 size:W3.heap.size<=wr.heap.size
 mks:MarksW W3.heap.size l wr
def CheckPost (w:World) (r:Bool) (e:Ending) (w':World):Prop:=e=.returned (.tuple #[.bool r,.int .i64 0])/\Ext w w'
theorem checkDerive36 (vb:Nat) (g:List Ty) (C:Nat->Nat) (rs:List Reveal) (S:List Nat) (gv cv rv av:Value) (mb:Nat) (mm:List (BA × Value)) (w:World) (hv:EnvW w vb g C rs S gv cv rv av) (hby:ByAt w vb rs mb mm)
  (hn:g.length<=400) (hr60:rs.length<=60) (hr:∀ t,t<g.length->rightB g (nth g t)=true) (hrt:∀ i,i<rs.length->0<=(nth rs i).type/\(nth rs i).type<g.length) (a b:Nat) (ha:a<g.length) (hb:b<g.length) (h0:askedR g.length [(a:Int),(b:Int)]=0)
  (xa:Option Addr) (xn xc:Nat) (L:List IStp) (hL:StepsW w (.slice xa xn xc) L) (hL1:L.length<=1000) :
  Calls Tryz.prog 36 #[.pointer (some ⟨vb,0,none⟩),.int .i64 a,.int .i64 b,.slice xa xn xc] w (CheckPost w (checkS (stF g C rs) a L b)):=by
 have hst:∀ x,x<g.length->∀ s,s∈stF g C rs x->s.to_<g.length:=fun x hx s hs=>(stepsTo_ok (hr x hx) hr60 hrt 8 s hs).2.1;obtain rfl:=SlW.len hL;have hcb:=SlW.bound hL;obtain ⟨ga,gc,rfl,_⟩:=id hv.gr;obtain ⟨w0,hw0⟩:∃ w0:World,w0=w.alloc (.cells #[.int .i64 a] 3):=⟨_,rfl⟩;have hE0:Ext w w0:=by rw [hw0]; exact Ext.alloc _ _
 have hcall:=dh (asked47 vb ga g.length gc hn _ 2 2 [(a:Int),(b:Int)] _ ((hE0.trans (Ext.alloc _ _)).cell hv.c0) (ints_two w0 a b (by omega) (by omega)));rw [h0] at hcall;have hbb:w0.heap[w.heap.size]? = some (.cells #[.int .i64 a] 3 (0,0)):=by rw [hw0]; exact heap_alloc_new _ _
 rw [hw0,World.size_alloc] at hcall;have HE0:=dh hE0;have Hw0:=dh hw0;have Hbb:=dh hbb;have Hv:=dh hv;have Hby:=dh hby;have Hrr:=dh hr;have Hrt:=dh hrt;have Hst:=dh hst;have HL:=dh hL;have hlong:((1000:Int)<(L.length:Int))=False:=by simp; omega
 clear h0 hE0 hw0 hbb hv hby hr hrt hst hL;refine (callsIn_wide (n:=3)).1 ?_;refine callsIn_of_wp_marks Tryz.func36 rfl trivial ?_ rfl;simp only [Tryz.ntmps36,List.size_toArray,List.length_cons,List.length_nil,Nat.reduceAdd,Nat.reduceSub,Array.replicate_succ,Array.replicate_zero,List.push_toArray,List.append_toArray,List.nil_append,List.cons_append];gi_wp2_with fail;refine wpIn_scope_wide ?_;gi_wp2_with fail;refine ⟨trivial,callsIn_wide.2 (hcall.out.mono ?_)⟩;rintro e W1 ⟨rfl,hE1⟩;rw [<- Hw0.out] at hE1;have hEw1:Ext w0 W1:=(Ext.alloc _ _).trans hE1;have HE1:=dh hEw1;clear hE1 hEw1 hcall;gi_wp2_with fail;refine wpIn_label ?_;clear hlong;gi_wp2_with fail;obtain ⟨v17,hv17⟩:∃ v17:Value,v17=.slice (some ⟨w.heap.size+1,0,none⟩) 2 2:=⟨_,rfl⟩;obtain ⟨b5,hb5⟩:∃ x,x=w.heap.size:=⟨_,rfl⟩;rw [<- hv17,<- hb5];have hC1:=dh (show CRel w W1 b5 a g.length (stF g C rs) L 0 [] W1 from ⟨Nat.zero_le _,⟨a,ha,rfl,by rw [hb5]; exact (HE1.out.block _ (row_lt Hbb.out)).trans Hbb.out⟩,HE0.out.trans HE1.out,Nat.le_refl _,MarksW.nil _ _⟩);have hb5W:w.heap.size<=b5/\b5<W1.heap.size:=⟨by omega,by have h1:=row_lt Hbb.out; have h2:=HE1.out.size; omega⟩;have hwW1:w.heap.size<=W1.heap.size:=(HE0.out.trans HE1.out).size;clear hv17 hb5 HE0 Hw0 Hbb HE1;refine wpIn_loop_ghost (fun N9 a9 wr=>∃ (k:Nat) (l:List Nat) (u12 u28 u29 u30 u31 u32 u33 u40:Value),N9+k=L.length+1/\CRel w W1 b5 a g.length (stF g C rs) L k l wr/\a9={ tmps:=#[.pointer (some ⟨vb,0,none⟩),.int .i64 a,.int .i64 b,.slice xa L.length xc,undef,.pointer (some ⟨b5,0,none⟩),undef,undef,.bool false,.int .i64 0,.int .i64 0,undef,u12,undef,.pointer (some ⟨vb,0,none⟩),.int .i64 a,.int .i64 b,v17,.int .i64 0,.int .i64 0,.bool false,undef,.slice xa L.length xc,.int .i64 L.length,.bool false,.slice xa L.length xc,.int .i64 L.length,.int .i64 (k:Nat),u28,u29,u30,u31,u32,u33,undef,undef,undef,undef,undef,undef,u40,undef,undef,undef],defers:=marks l }) (L.length+1) ?start ?round
 case start=>exact ⟨0,[],_,_,_,_,_,_,_,_,rfl,hC1.out,rfl⟩
 case round =>
  clear hC1;rintro N9 a9 wr ⟨k,l,u12,u28,u29,u30,u31,u32,u33,u40,hNk,HR1,rfl⟩;obtain ⟨hk,⟨x,hxn,hchk,hbx⟩,hE,hsz,hm⟩:=HR1;have c5:wr.cell? ⟨b5,0,none⟩=some (.int .i64 x):=row_cell hbx rfl;have l5:=row_lt hbx;have Hchk:=dh hchk;have Hbx:=dh hbx;have HE:=dh hE;have Hm:=dh hm;clear hchk hbx hE hm;by_cases hlt:k<L.length
  ·obtain ⟨sb,so,rfl,hsb,e0,e1,e2,hto0,hto1⟩:=StepsW.at (StepsW.mono HE.out HL.out) hlt;obtain ⟨s,hs⟩:∃ s,s=nth L k:=⟨_,rfl⟩;rw [<- hs] at e0 e1 e2 hto0 hto1;obtain ⟨b12,hb12⟩:∃ b12,b12=wr.heap.size:=⟨_,rfl⟩;obtain ⟨wc,hwc⟩:∃ wc:World,wc=wr.alloc (.cells #[.int .u8 s.rule,.int .i64 s.to_,.int .i64 s.n] 93):=⟨_,rfl⟩;have hEc:Ext wr wc:=by rw [hwc]; exact Ext.alloc _ _
   have h12c:wc.heap[b12]? = some (.cells #[.int .u8 s.rule,.int .i64 s.to_,.int .i64 s.n] 93 (0,0)):=by rw [hwc,hb12]; exact heap_alloc_new _ _
   have hsc:wc.heap.size=wr.heap.size+1:=by rw [hwc,World.size_alloc]
   have HEc:=dh hEc;have H12:=dh h12c;have Hs:=dh hs;have Hwc:=dh hwc;have Hb12:=dh hb12;have Hsc:=dh hsc;clear hs hwc hEc h12c hb12 hsc;gi_wp2_with fail;rw [<- Hwc.out,<- Hb12.out];refine ⟨trivial,callsIn_wide.2 ((steps71 vb x wc).mono ?_)⟩;rintro e W2 ⟨rfl,hW2⟩;have hE2:Ext wc W2:=by rw [hW2]; exact (Ext.alloc _ _).trans (Ext.alloc _ _)
   have hs2:W2.heap.size=wc.heap.size+2:=by rw [hW2]; simp
   have p1:Safe noFoot W2 wc.heap.size #[.pointer (some ⟨vb,0,none⟩)] 28:=by
    rw [hW2];exact (Safe.new (noFoot_ok w.heap.size) wc (by have:=HEc.out.size; omega) _ _ (Or.inl (by decide))).ext (noFoot_ok w.heap.size) (by have:=HEc.out.size; simp; omega) (Ext.alloc _ _)
   have p2:Safe noFoot W2 (wc.heap.size+1) #[.int .i64 x] 3:=by
    rw [hW2];have:=Safe.new (noFoot_ok w.heap.size) (wc.alloc (.cells #[.pointer (some ⟨vb,0,none⟩)] 28)) (by have:=HEc.out.size; simp; omega) #[.int .i64 (x:Nat)] 3 (Or.inr (by simp))
    rwa [World.size_alloc] at this
   have HEw:=dh ((HE.out.trans HEc.out).trans hE2);have hsW2:W2.heap.size=wr.heap.size+3:=by have:=Hsc.out; omega
   have HsW2:=dh hsW2;have Hm2:=dh ((Hm.out.ext HEc.out).ext hE2);have H12':=dh ((hE2.block _ (row_lt H12.out)).trans H12.out);have Hbx2:=dh (((HEc.out.trans hE2).block _ (row_lt Hbx.out)).trans Hbx.out);have P1:=dh p1;have P2:=dh p2;clear hW2 hE2 p1 p2 hs2 hsW2 c5 e0 e1 e2;gi_wp2_with fail;refine wpIn_rangeFunc_ownH (F:=Fence.wide) rfl (by omega) (gf:=106) (lb:=#[.pointer (some ⟨wc.heap.size,0,none⟩),.pointer (some ⟨wc.heap.size+1,0,none⟩)]) rfl trivial enters106'
    (steps106 w.heap.size vb g C rs _ _ _ _ _ mb mm w W2 Hv.out Hby.out HEw.out hn hr60 x hxn (Hrr.out x hxn) Hrt.out noFoot (noFoot_ok w.heap.size) HEw.out.size _ _ P1.out P2.out _)
    (fun h k=>h.trans k) (fun W l o o' hl h ho hw=>KpF.put (noFoot_ok w.heap.size) HEw.out.size W l o o' hl h ho hw) (Below.refl _ _) (fun _=>rfl)
    (fun pre W'=>NoHit s pre/\W'.heap[b5]? = some (.cells #[.int .i64 x] 3 (0,0))/\W'.heap[b12]? = some (.cells #[.int .u8 s.rule,.int .i64 s.to_,.int .i64 s.n] 93 (0,0))/\Ext w W'/\MarksW W1.heap.size l W'/\W2.heap.size<=W'.heap.size)
    (fun cd pre W'=>cd=.exit 1/\Hit s pre/\W'.heap[b5]? = some (.cells #[.int .i64 s.to_] 3 (0,0))/\Ext w W'/\MarksW W1.heap.size l W'/\W2.heap.size<=W'.heap.size)
    ?hI ?hIx ⟨(fun y hy=>by cases hy),Hbx2.out,H12'.out,HEw.out,Hm2.out,Nat.le_refl _⟩
    (fun y a' W'=>∃ (p:Nat) (u3 u22 u25 u28 u29 u30 u31 u32 u33 u40:Value),W'.heap[p]? = some (.cells #[.int .u8 y.1.rule,.int .i64 y.1.to_,.int .i64 y.1.n] 93 (0,0))/\a'={ tmps:=#[.pointer (some ⟨vb,0,none⟩),.int .i64 a,.int .i64 b,u3,undef,.pointer (some ⟨b5,0,none⟩),undef,undef,.bool false,.int .i64 0,.int .i64 0,undef,.pointer (some ⟨b12,0,none⟩),.pointer (some ⟨p,0,none⟩),.pointer (some ⟨vb,0,none⟩),.int .i64 a,.int .i64 b,v17,.int .i64 0,.int .i64 0,.bool false,undef,u22,.int .i64 L.length,.bool false,u25,.int .i64 L.length,.int .i64 (k:Nat),u28,u29,u30,u31,u32,u33,.agg #[.int .u8 y.1.rule,.int .i64 y.1.to_,.int .i64 y.1.n],undef,undef,undef,undef,undef,u40,undef,undef,undef],defers:=[] }) ?a1 ?assign ?body ?done ?stop
   case hI =>
    rintro pre A B row ⟨i1,i2,i3,i4,i5,i6⟩ hg hr;have hlt2:=HsW2.out;have key:∀ (b:Nat) (cs:Array Value) (T:TypeId) (p:Nat × Nat),A.heap[b]? = some (Obj.cells cs T p)->B.heap[b]? = some (Obj.cells cs T p):=fun b cs T p hb=>(hg.block b (row_lt hb) (fun e=>by
     obtain ⟨_,o,ho,hc⟩:=hr b e.symm;rw [hb] at ho; cases ho; cases hc)).trans hb
    refine ⟨i1,key _ _ _ _ i2,key _ _ _ _ i3,i4.grown hg i4.size (fun q e=>by have:=(hr q e).1; omega),⟨i5.nd,fun D9 hD9=>⟨(i5.each D9 hD9).1,(hg.block D9 (row_lt (i5.each D9 hD9).2) (fun e=>?_)).trans (i5.each D9 hD9).2⟩⟩,Nat.le_trans i6 hg.size⟩;have h1:=(hr D9 e.symm).1;have h2:=Hm.out.lt D9 hD9;omega
   case hIx =>
    rintro cd pre A B row ⟨hcd,i1,i2,i4,i5,i6⟩ hg hr;have hlt2:=HsW2.out;have key:∀ (b:Nat) (cs:Array Value) (T:TypeId) (p:Nat × Nat),A.heap[b]? = some (Obj.cells cs T p)->B.heap[b]? = some (Obj.cells cs T p):=fun b cs T p hb=>(hg.block b (row_lt hb) (fun e=>by
     obtain ⟨_,o,ho,hc⟩:=hr b e.symm;rw [hb] at ho; cases ho; cases hc)).trans hb
    refine ⟨hcd,i1,key _ _ _ _ i2,i4.grown hg i4.size (fun q e=>by have:=(hr q e).1; omega),⟨i5.nd,fun D9 hD9=>⟨(i5.each D9 hD9).1,(hg.block D9 (row_lt (i5.each D9 hD9).2) (fun e=>?_)).trans (i5.each D9 hD9).2⟩⟩,Nat.le_trans i6 hg.size⟩;have h1:=(hr D9 e.symm).1;have h2:=Hm.out.lt D9 hD9;omega
   case a1 =>
    rintro y a' _ A B row ⟨p,u3,u22,u25,u28,u29,u30,u31,u32,u33,u40,hp,ha⟩ hg hr;refine ⟨p,u3,u22,u25,u28,u29,u30,u31,u32,u33,u40,(hg.block p (row_lt hp) (fun e=>?_)).trans hp,ha⟩;obtain ⟨_,o,ho,hoc⟩:=hr p e.symm;rw [hp] at ho;cases ho; cases hoc
   case assign =>
    rintro l9 pre ⟨y,hy⟩ W K ⟨i1,i2,i3,i4,i5,i6⟩ hK;simp only [encG,encStp];gi_wp2_with fail;have hE3:=Ext.alloc W (.cells #[.int .u8 y.rule,.int .i64 y.to_,.int .i64 y.n] 93);refine hK _ _ ((KeepsOthers.alloc _ _).from _) (KpF.ext (noFoot_ok w.heap.size) i4.size i4.size (Ext.alloc _ _)) ⟨i1,(hE3.block _ (row_lt i2)).trans i2,(hE3.block _ (row_lt i3)).trans i3,i4.trans hE3,i5.ext hE3,by rw [World.size_alloc]; omega⟩ ⟨W.heap.size,_,_,_,_,_,_,_,_,_,_,heap_alloc_new _ _,rfl⟩
   case body =>
    rintro l9 pre ⟨y,hy⟩ a' W hl9 ⟨r9,hr9⟩ ⟨i1,i2,i3,i4,i5,i6⟩ ⟨p,u3,u22,u25,u28,u29,u30,u31,u32,u33,u40,hp,rfl⟩ hlen;have p0:=row_cell hp (j:=0) rfl;have p1:=row_cell hp (j:=1) rfl;have p2:=row_cell hp (j:=2) rfl;have q0:=row_cell i3 (j:=0) rfl;have q1:=row_cell i3 (j:=1) rfl;have q2:=row_cell i3 (j:=2) rfl;have f5:=row_free i2 0;have c5:=row_cell i2 (j:=0) rfl;have I1:=dh i1;have I2:=dh i2;have I3:=dh i3;have I4:=dh i4;have I5:=dh i5;clear i1 i2 i3 i4 i5 hp hr9;have hq3:((y.rule:Int)=s.rule/\(y.to_:Int)=s.to_/\(y.n:Int)=s.n)\/(¬ (y.rule:Int)=s.rule)\/((y.rule:Int)=s.rule/\¬ (y.to_:Int)=s.to_)\/((y.rule:Int)=s.rule/\(y.to_:Int)=s.to_/\¬ (y.n:Int)=s.n):=by omega
    have hqt:Hid ((y.rule:Int)=s.rule/\(y.to_:Int)=s.to_/\(y.n:Int)=s.n->y.toI=s):=dh (fun ⟨h1,h2,h3⟩=>by
     obtain ⟨s1,s2,s3⟩:=s;simp only at h1 h2 h3;subst h1 h2 h3
     rfl)
    have hqf:Hid (y.toI=s->(y.rule:Int)=s.rule/\(y.to_:Int)=s.to_/\(y.n:Int)=s.n):=dh (fun h=>by rw [<- h]; exact ⟨rfl,rfl,rfl⟩);have hnorm:∀ (hne:y.toI≠s),NoHit s (pre++[(⟨y,hy⟩:StpG g.length)]):=fun hne z hz=>by
     rcases List.mem_append.1 hz with hz | hz
     ·exact I1.out z hz
     ·rw [List.mem_singleton] at hz;subst hz;exact hne
    have Hnorm:=dh hnorm;clear hnorm;rcases hq3 with ⟨h1,h2,h3⟩ | h1 | ⟨h1,h2⟩ | ⟨h1,h2,h3⟩
    ·have hys:=dh (hqt.out ⟨h1,h2,h3⟩);gi_wp2_with fail;refine ⟨(KeepsOthers.setCell _ _ _).from _,rfl,⟨⟨y,hy⟩,by simp,hys.out⟩,set_row_self I2.out _,I4.out.grown (grownBy_setB W b5 0 _) I4.out.size (fun q e=>by cases e; exact hb5W.1),I5.out.grown (grownBy_setB W b5 0 _) (fun o ho=>by rw [I2.out] at ho; cases ho; rfl),by rw [World.size_setCell]; exact i6⟩
    ·have hys:=dh (fun e=>h1 (hqf.out e).1);gi_wp2_with fail;exact ⟨KeepsFrom.refl _ _,KpF.refl _ _ _,Hnorm.out hys.out,I2.out,I3.out,I4.out,I5.out,i6⟩
    ·have hys:=dh (fun e=>h2 (hqf.out e).2.1);gi_wp2_with fail;exact ⟨KeepsFrom.refl _ _,KpF.refl _ _ _,Hnorm.out hys.out,I2.out,I3.out,I4.out,I5.out,i6⟩
    ·have hys:=dh (fun e=>h3 (hqf.out e).2.2);gi_wp2_with fail;exact ⟨KeepsFrom.refl _ _,KpF.refl _ _ _,Hnorm.out hys.out,I2.out,I3.out,I4.out,I5.out,i6⟩
   case done =>
    rintro D9 xs W' hD hS ⟨i1,i2,i3,i4,i5,i6⟩ hK;have hDl:D9∉l:=fun hm=>by
     have h2:=Hm.out.lt D9 hm;have h3:=HsW2.out;omega
    have hno:((stF g C rs x).any fun y=>decide (y.toI=nth L k))=false:=by
     rw [List.any_eq_false];intro y hy;have hy2:y∈xs.map (·.1):=by rw [hS]; exact hy
     obtain ⟨z,hz,rfl⟩:=List.mem_map.1 hy2;have:=i1 z hz;rw [<- Hs.out]
     simpa using this
    have Hr:=dh (show checkS (stF g C rs) a L b=false by unfold checkS; rw [(checkD_take hlt Hchk.out).2 hno]; rfl);have Hmm:=dh (i5.cons (show W1.heap.size<=D9 by have:=HsW2.out; omega) hDl hK);have I4:=dh i4;have hs9:W1.heap.size<=W'.heap.size:=by have:=HsW2.out; omega
    clear i1 i2 i3 i4 i5 hK hDl hS hno;gi_wp2_with fail;simp only [Exit.noGoto];refine leaves_marks (B:=W1.heap.size) (D9 :: l) W' Hmm.out hs9 (fun W'' hT=>⟨.tuple #[.bool false,.int .i64 0],by simp [results,Tryz.results36,go_sem],by rw [Hr.out],Below.trans I4.out (Below.mono hT.1 hwW1)⟩)
   case stop =>
    rintro D9 cd pre W' hD hS ⟨rfl,⟨y,hy,hys⟩,i2,i4,i5,i6⟩ hK;have hDl:D9∉l:=fun hm=>by
     have h2:=Hm.out.lt D9 hm;have h3:=HsW2.out;omega
    have hyes:((stF g C rs x).any fun y=>decide (y.toI=nth L k))=true:=by
     rw [List.any_eq_true];exact ⟨y.1,hS.subset (List.mem_map.2 ⟨y,hy,rfl⟩),by rw [<- Hs.out]; simpa using hys⟩
    have hto:s.to_=(y.1.to_:Int):=by rw [<- hys]; rfl
    have HC:=dh (show CRel w W1 b5 a g.length (stF g C rs) L (k+1) (D9 :: l) W' from ⟨hlt,⟨y.1.to_,y.2.2.1,by
      rw [(checkD_take hlt Hchk.out).1,if_pos hyes,<- Hs.out,hto]; simp,by rw [<- hto]; exact i2⟩,i4,by have:=HsW2.out; omega,i5.cons (by have:=HsW2.out; omega) hDl hK⟩)
    clear i2 i4 i5 hK hDl hS hyes hto hys;gi_wp2_with fail;exact ⟨N9-1,by omega,k+1,D9 :: l,_,_,_,_,_,_,_,_,by omega,HC.out,rfl⟩
  ·have hkL:k=L.length:=by omega
   subst hkL;have hq:Hid (((x:Int)==(b:Int))=checkS (stF g C rs) a L b):=dh (by
    have h1:=Hchk.out;rw [List.take_length] at h1;unfold checkS;rw [h1,Bool.eq_iff_iff];simp; omega)
   have hs9:=hsz;gi_wp2_with fail;simp only [Exit.noGoto];refine leaves_marks (B:=W1.heap.size) l wr Hm.out hs9 (fun W'' hT=>⟨.tuple #[.bool ((x:Int)==(b:Int)),.int .i64 0],by simp [results,Tryz.results36,go_sem],by rw [hq.out],Below.trans HE.out (Below.mono hT.1 hwW1)⟩)
end
section
open Go.RowKit Go.Proofs Go.Shelf
theorem checkDeriveLong36 (vb:Nat) (g:List Ty) (C:Nat->Nat) (rs:List Reveal) (S:List Nat) (gv cv rv av:Value) (w:World) (hv:EnvW w vb g C rs S gv cv rv av) (x:Option Addr) (n c:Nat) (hlong:1000<n) (hmax:n<=9223372036854775807)
  (hn:g.length<=400) (a b:Int) (hx:-9223372036854775808<=a/\a<=9223372036854775807) (hy:-9223372036854775808<=b/\b<=9223372036854775807) (h0:askedR g.length [a,b]=0) :
  Calls Tryz.prog 36 #[.pointer (some ⟨vb,0,none⟩),.int .i64 a,.int .i64 b,.slice x n c] w (CheckPost w false):=by
 obtain ⟨ga,gc,rfl,_⟩:=id hv.gr;obtain ⟨w0,hw0⟩:∃ w0:World,w0=w.alloc (.cells #[.int .i64 a] 3):=⟨_,rfl⟩;have hE0:Ext w w0:=by rw [hw0]; exact Ext.alloc _ _
 have hcall:=dh (asked47 vb ga g.length gc hn _ 2 2 [a,b] _ ((hE0.trans (Ext.alloc _ _)).cell hv.c0) (ints_two w0 a b hx hy));rw [h0] at hcall;rw [hw0,World.size_alloc] at hcall;have HE0:=dh (hE0.trans (Ext.alloc w0 (.cells #[.int .i64 a,.int .i64 b] 3)));rw [hw0] at HE0;clear h0 hE0 hw0 hv
 go_enter Tryz.func36,Tryz.ntmps36
 go_wp2_with fail
 go_step3
 go_wp2_with fail;refine hcall.out.mono ?_;rintro e w1 ⟨rfl,hE⟩;have HE:=dh (HE0.out.trans hE); clear hE;go_wp2_with fail;simp only [Exit.noGoto];go_ret2;exact ⟨rfl,HE.out⟩
end
section
open Go.RowKit Go.Proofs
theorem visit122 (bs vb:Nat) (g:List Ty) (C:Nat->Nat) (rs:List Reveal) (S:List Nat) (gv cv rv av:Value) (mb:Nat) (mm:List (BA × Value)) (w0:World) (hv:EnvW w0 vb g C rs S gv cv rv av) (hby:ByAt w0 vb rs mb mm)
  (hn:g.length<=400) (hr60:rs.length<=60) (hr:∀ t,t<g.length->rightB g (nth g t)=true) (hrt:∀ i,i<rs.length->0<=(nth rs i).type/\(nth rs i).type<g.length) (hC:∀ i,i<g.length->C i<g.length)
  (bst bv bvis:Nat):∀ (f:Nat) (st:Nat->Nat) (c:Nat) (W:World),VisW w0 W bst bv bvis bs g.length vb->StW W bs g.length st->zeros g.length st<=f->(∀ j,st j<=2)->c<g.length ->
   Calls Tryz.prog 122 #[.int .i64 c,.pointer (some ⟨bst,0,none⟩),.pointer (some ⟨bv,0,none⟩),.pointer (some ⟨bvis,0,none⟩)] W (VisPost W bs g.length (visitC (succC g C rs) (f+1) st c))
 | 0,st,c,W,hV,hs,hz,h2,hc=>by
  by_cases h0:0<st c
  ·exact visit_met _ 0 w0 bst bv bvis bs g.length vb st c W hV hs (h2 c) hc hn h0
  ·have:=zeros_upd hc (show st c=0 by omega) (v:=1) (by decide);omega
 | f+1,st,c,W,hV,hs,hz,h2,hc=>by
  by_cases h0:0<st c
  ·exact visit_met _ (f+1) w0 bst bv bvis bs g.length vb st c W hV hs (h2 c) hc hn h0
  ·exact visit_new f bs vb g C rs S gv cv rv av mb mm w0 hv hby hn hr60 hr hrt hC bst bv bvis (visit122 bs vb g C rs S gv cv rv av mb mm w0 hv hby hn hr60 hr hrt hC bst bv bvis f) st c W hV hs hz h2 hc (by omega)
theorem circles87 (vb:Nat) (g:List Ty) (C:Nat->Nat) (rs:List Reveal) (S:List Nat) (gv cv rv av:Value) (mb:Nat) (mm:List (BA × Value)) (w:World) (hv:EnvW w vb g C rs S gv cv rv av) (hby:ByAt w vb rs mb mm)
  (hn:g.length<=400) (hr60:rs.length<=60) (hr:∀ t,t<g.length->rightB g (nth g t)=true) (hrt:∀ i,i<rs.length->0<=(nth rs i).type/\(nth rs i).type<g.length) (hC:∀ i,i<g.length->C i<g.length) :
  Calls Tryz.prog 87 #[.pointer (some ⟨vb,0,none⟩)] w fun e w'=>e=.returned (.bool (circB (succC g C rs) g.length C))/\Ext w w':=by
 obtain ⟨ga,gc,rfl,-⟩:=id hv.gr;obtain ⟨ca,cc,rfl,-⟩:=id hv.cl;have hb:=(SlW.bound hv.gr).2;have Hv:=dh hv;have Hvis:=dh (fun bs bst bv bvis=>visit122 bs vb g C rs S _ _ rv av mb mm w hv hby hn hr60 hr hrt hC bst bv bvis);have hcl:((List.range g.length).map fun i=>(C i:Int)).length=g.length:=by simp
 have HC:=dh hC;have c0:=hv.c0;have c1:=hv.c1;rw [hcl] at c1;have hlv:vb<w.heap.size:=cell_lt c0;have hmk:=makeInts g.length (by omega);clear hv hby hr hrt hC
 go_enter Tryz.func87,Tryz.ntmps87
 go_upto_region 4 with (fail);obtain ⟨W4,hW4⟩:∃ W4:World,W4=(((w.alloc (.cells #[.pointer (some ⟨vb,0,none⟩)] 28)).alloc (.cells (madeCells #[.int .i64 0] g.length) 3)).alloc (.cells #[.slice (some ⟨w.heap.size+1,0,none⟩) g.length g.length] 35)).alloc
   (.cells #[.func (.func 122) #[] #[.pointer (some ⟨w.heap.size+1+1,0,none⟩),.pointer (some ⟨w.heap.size,0,none⟩),.pointer (some ⟨w.heap.size+1+1+1,0,none⟩)]] 104):=⟨_,rfl⟩
 rw [<- hW4];have hE4:Ext w W4:=by rw [hW4]; exact (((Ext.alloc _ _).trans (Ext.alloc _ _)).trans (Ext.alloc _ _)).trans (Ext.alloc _ _)
 have p0:W4.heap[w.heap.size]? = some (.cells #[.pointer (some ⟨vb,0,none⟩)] 28 (0,0)):=by
  rw [hW4]; exact (((Ext.alloc _ _).trans (Ext.alloc _ _)).trans (Ext.alloc _ _)).block _ (by simp) |>.trans (heap_alloc_new _ _)
 have p1:StW W4 (w.heap.size+1) g.length (fun _=>0):=by
  rw [hW4];refine StW.ext (W:=(w.alloc (.cells #[.pointer (some ⟨vb,0,none⟩)] 28)).alloc (.cells (madeCells #[.int .i64 0] g.length) 3)) ?_ ((Ext.alloc _ _).trans (Ext.alloc _ _));have:=RowI.make (w.alloc (.cells #[.pointer (some ⟨vb,0,none⟩)] 28)) g.length;rw [World.size_alloc] at this;exact this
 have p2:W4.heap[w.heap.size+1+1]? = some (.cells #[.slice (some ⟨w.heap.size+1,0,none⟩) g.length g.length] 35 (0,0)):=by
  rw [hW4];refine ((Ext.alloc _ _).block _ (by simp)).trans ?_;have:=heap_alloc_new ((w.alloc (.cells #[.pointer (some ⟨vb,0,none⟩)] 28)).alloc (.cells (madeCells #[.int .i64 0] g.length) 3)) (.cells #[.slice (some ⟨w.heap.size+1,0,none⟩) g.length g.length] 35)
  rwa [World.size_alloc,World.size_alloc] at this
 have p3:W4.heap[w.heap.size+1+1+1]? = some (.cells #[.func (.func 122) #[] #[.pointer (some ⟨w.heap.size+1+1,0,none⟩),.pointer (some ⟨w.heap.size,0,none⟩),.pointer (some ⟨w.heap.size+1+1+1,0,none⟩)]] 104 (0,0)):=by
  rw [hW4];have:=heap_alloc_new (((w.alloc (.cells #[.pointer (some ⟨vb,0,none⟩)] 28)).alloc (.cells (madeCells #[.int .i64 0] g.length) 3)).alloc (.cells #[.slice (some ⟨w.heap.size+1,0,none⟩) g.length g.length] 35))
   (.cells #[.func (.func 122) #[] #[.pointer (some ⟨w.heap.size+1+1,0,none⟩),.pointer (some ⟨w.heap.size,0,none⟩),.pointer (some ⟨w.heap.size+1+1+1,0,none⟩)]] 104)
  rwa [World.size_alloc,World.size_alloc,World.size_alloc] at this
 have hV4:VisW w W4 (w.heap.size+1+1) w.heap.size (w.heap.size+1+1+1) (w.heap.size+1) g.length vb:=⟨hE4,by omega,p2,p0,p3,by omega,by omega,by omega⟩;have x1:=row_cell p0 (j:=0) rfl;have x4:=row_cell p3 (j:=0) rfl;have c1:=hE4.cell c1;have HV4:=dh hV4;have HS4:=dh p1;have HE4:=dh hE4;clear hW4 hE4 p0 p1 p2 p3 hV4 c0 hmk;have hsuf:=dh (show ∀ k st W,loopC (visitC (succC g C rs) (g.length+1)) ((List.range k).map C) (fun _=>0)=(false,st)->StW W (w.heap.size+1) g.length st->W4.grownBy W (some (w.heap.size+1))->k<g.length ->
   Calls Tryz.prog 122 #[.int .i64 (C k),.pointer (some ⟨w.heap.size+1+1,0,none⟩),.pointer (some ⟨w.heap.size,0,none⟩),.pointer (some ⟨w.heap.size+1+1+1,0,none⟩)] W (VisPost W (w.heap.size+1) g.length (visitC (succC g C rs) (g.length+1) st (C k))) from fun k st W h1 h2 h3 hk=>by
  have hmn:=loopC_mono (succC g C rs) (g.length+1) ((List.range k).map C) (fun _=>0) (fun _=>by omega);have hz:=zeros_le (n:=g.length) hmn.1;rw [zeros_start] at hz;simp only [h1] at hz hmn;exact Hvis.out _ _ _ _ g.length st (C k) W (HV4.out.kept h3) h2 hz hmn.2 (HC.out k hk))
 refine wp_region_M 99 (w.heap.size+1) (by kernel_rfl) ?_;change wpM _ _ _ _ _ _ _ _ _ (World.drew _);refine wpM_take (i:=0) (v:=?_) rfl (by kernel_rfl) (by kernel_rfl) (by kernel_rfl) (fun _ _ _ h=>h) (Or.inl ⟨by kernel_rfl,fun w9 hE=>?_⟩) ?_;rotate_left
 ·have x1E:=hE.cell x1 (by first | (simp; done) | (simp; omega)); clear hE; first | (go_simp; done) | (go_simp; with_reducible rfl)
 simp only [Act.put,nm];refine wpM_take (i:=1) (v:=?_) rfl (by kernel_rfl) (by kernel_rfl) (by kernel_rfl) (fun _ _ _ h=>h) (Or.inl ⟨by kernel_rfl,fun w9 hE=>?_⟩) ?_;rotate_left
 ·clear hE; first | (go_simp; done) | (go_simp; with_reducible rfl)
 simp only [Act.put,nm];refine wpM_take (i:=2) (v:=?_) rfl (by kernel_rfl) (by kernel_rfl) (by kernel_rfl) (fun _ _ _ h=>h) (Or.inl ⟨by kernel_rfl,fun w9 hE=>?_⟩) ?_;rotate_left
 ·clear hE; first | (go_simp; done) | (go_simp; with_reducible rfl)
 simp only [Act.put,nm];refine wpM_take (i:=3) (v:=?_) rfl (by kernel_rfl) (by kernel_rfl) (by kernel_rfl) (fun _ _ _ h=>h) (Or.inl ⟨by kernel_rfl,fun w9 hE=>?_⟩) ?_;rotate_left
 ·clear hE; first | (go_simp; done) | (go_simp; with_reducible rfl)
 simp only [Act.put,nm];refine wpM_take (i:=4) (v:=?_) rfl (by kernel_rfl) (by kernel_rfl) (by kernel_rfl) (fun _ _ _ h=>h) (Or.inl ⟨by kernel_rfl,fun w9 hE=>?_⟩) ?_;rotate_left
 ·have c1E:=hE.cell c1 (by first | (simp; done) | (simp; omega)); clear hE; first | (go_simp; done) | (go_simp; with_reducible rfl)
 simp only [Act.put,nm];refine wpM_take (i:=5) (v:=?_) rfl (by kernel_rfl) (by kernel_rfl) (by kernel_rfl) (fun _ _ _ h=>h) (Or.inl ⟨by kernel_rfl,fun w9 hE=>?_⟩) ?_;rotate_left
 ·have x4E:=hE.cell x4 (by first | (simp; done) | (simp; omega)); clear hE; first | (go_simp; done) | (go_simp; with_reducible rfl)
 simp only [Act.put,nm];refine wpM_only (i:=6) rfl (by kernel_rfl) (by kernel_rfl) (fun K hK=>?_);go_simp;refine (containsFunc52 122 enters122 #[.pointer (some ⟨w.heap.size+1+1,0,none⟩),.pointer (some ⟨w.heap.size,0,none⟩),.pointer (some ⟨w.heap.size+1+1+1,0,none⟩)] ca g.length cc (by omega) (fun k _=>.int .i64 (C k)) W4.drew
  (fun k W=>∃ st,loopC (visitC (succC g C rs) (g.length+1)) ((List.range k).map C) (fun _=>0)=(false,st)/\StW W (w.heap.size+1) g.length st/\W4.grownBy W (some (w.heap.size+1)))
  (fun k W=>(loopC (visitC (succC g C rs) (g.length+1)) ((List.range (k+1)).map C) (fun _=>0)).1=true/\W4.grownBy W (some (w.heap.size+1)))
  ?_ ?_ ⟨_,rfl,HS4.out.ext (Ext.drew _),grownBy_ext (grownBy_refl _ _) (Ext.drew _)⟩).mono ?_
 ·rintro k W ⟨st,h1,h2,h3⟩ i hi;obtain ⟨cb,coff,hco,_,d1,-⟩:=Ints.at (Ints.mono (HV4.out.kept h3).ext Hv.out.cl) (i:=i) (by rw [hcl]; exact hi);rw [show nth ((List.range g.length).map fun i=>(C i:Int)) i=(C i:Int) by rw [nth_eq (by simpa using hi)]; simp] at d1;exact ⟨cb,coff,hco,d1⟩
 ·rintro k W hk ⟨st,h1,h2,h3⟩;refine (hsuf.out k st W h1 h2 h3 hk).mono ?_;rintro e W' ⟨rfl,h4,h5⟩;have hsn:=loopC_snoc (visitC (succC g C rs) (g.length+1)) ((List.range k).map C) (C k) (fun _=>0) (by rw [h1]);have hr:(List.range (k+1)).map C=(List.range k).map C++[C k]:=by rw [List.range_succ,List.map_append]; rfl
  rw [<- hr,h1] at hsn;cases hv:(visitC (succC g C rs) (g.length+1) st (C k)).1
  ·exact Or.inl ⟨rfl,_,hsn.trans (Prod.ext hv rfl),h4,grownBy_trans h3 h5⟩
  ·exact Or.inr ⟨rfl,by rw [hsn]; exact hv,grownBy_trans h3 h5⟩
 ·have hend:=dh (show ∀ W,W4.grownBy W (some (w.heap.size+1))->Ext w W from fun W h=>HE4.out.grown h HE4.out.size (fun k e=>by cases e; omega));rintro e W' (⟨rfl,st,h1,h2,h3⟩ | ⟨k,hk,rfl,h1,h3⟩)
  ·have Hs:=dh (show circB (succC g C rs) g.length C=false by unfold circB; rw [h1]);have HE:=dh (hend.out _ h3);have h3':W4.drew.grownBy W' (some (w.heap.size+1)):=⟨h3.os,h3.tape,h3.output,h3.size,h3.block⟩;refine hK _ _ h3' ?_; clear hK K h1 h2 h3 h3';refine Zg 7 ?_;refine Zd ?_;go_wp2_with fail;go_ret;exact ⟨by rw [Hs.out]; rfl,HE.out⟩
  ·have Hs:=dh (show circB (succC g C rs) g.length C=true by
    unfold circB;rw [loopC_prefix (us:=(List.range (k+1)).map C) ?_ h1]
    ·exact h1
    ·exact (List.prefix_iff_eq_take.2 (by rw [<- List.map_take,List.take_range,List.length_map,List.length_range,Nat.min_eq_left hk])))
   have HE:=dh (hend.out _ h3);have h3':W4.drew.grownBy W' (some (w.heap.size+1)):=⟨h3.os,h3.tape,h3.output,h3.size,h3.block⟩;refine hK _ _ h3' ?_; clear hK K h1 h3 h3';refine Zg 7 ?_;refine Zd ?_;go_wp2_with fail;go_ret;exact ⟨by rw [Hs.out]; rfl,HE.out⟩
end
section
open Go.RowKit Go.Proofs
theorem classIter_le (g:List Ty):∀ m i,classIter g m i<=i
 | 0,i=>leadF_le _ i
 | m+1,i=>leadF_le _ i
theorem classesOf_le (g:List Ty) (i:Nat):classesOf g i<=i:=classIter_le g _ i
def fullB (rs:List Reveal) (k:Nat) (name:BA):Bool:=(List.range k).any fun i=>(nth rs i).full&&(nth rs i).name==name
theorem fullB_succ (rs:List Reveal) (k:Nat) (name:BA):fullB rs (k+1) name=(fullB rs k name||((nth rs k).full&&(nth rs k).name==name)):=by
 unfold fullB; rw [List.range_succ,List.any_append]; simp
def badRev (g:List Ty) (rs:List Reveal) (k:Nat):Bool :=
 !isSymbolB (nth rs k).name||!hasI g.length (nth rs k).type||isWordB (nth g (nth rs k).type.toNat).kind||(nth g (nth rs k).type.toNat).kind==5 ||
  ((nth rs k).full&&(!(nth g (nth rs k).type.toNat).branded||fullB rs k (nth rs k).name))
def openE (g:List Ty) (rs:List Reveal):Int :=
 if (checkB g).2=0 then (if 60<rs.length then 2 else if (List.range rs.length).any (badRev g rs) then 40 else if circB (succC g (classesOf g) rs) g.length (classesOf g) then 40 else 0) else 30
theorem openE_graph {g:List Ty} {rs:List Reveal} (h:(checkB g).2=30):openE g rs=30:=by unfold openE; rw [if_neg (by rw [h]; decide)]
theorem openE_many {g:List Ty} {rs:List Reveal} (h:(checkB g).2=0) (h6:60<rs.length):openE g rs=2:=by unfold openE; rw [if_pos h,if_pos h6]
theorem openE_bad {g:List Ty} {rs:List Reveal} (h:(checkB g).2=0) (h6:¬ 60<rs.length) {k:Nat} (hk:k<rs.length) (hb:badRev g rs k=true):openE g rs=40:=by
 unfold openE; rw [if_pos h,if_neg h6,if_pos]; simp only [List.any_eq_true,List.mem_range]; exact ⟨k,hk,hb⟩
theorem openE_circ {g:List Ty} {rs:List Reveal} (h:(checkB g).2=0) (h6:¬ 60<rs.length) (hb:∀ k,k<rs.length->badRev g rs k=false):openE g rs=if circB (succC g (classesOf g) rs) g.length (classesOf g) then 40 else 0:=by
 unfold openE;rw [if_pos h,if_neg h6,if_neg];simp only [List.any_eq_true,List.mem_range,not_exists,not_and,Bool.not_eq_true];exact hb
theorem rev_in {g:List Ty} {rs:List Reveal} {k:Nat} (h:badRev g rs k=false):0<=(nth rs k).type/\(nth rs k).type<g.length:=by
 unfold badRev at h;simp only [Bool.or_eq_false_iff,Bool.not_eq_false'] at h;exact hasI_iff.1 h.1.1.1.2
structure OpInv (w W2 wr:World) (mb mf:Nat) (rs:List Reveal) (kb kf:Nat) (m:List (BA × Value)):Prop where
 blk:∀ j,j<W2.heap.size->j≠mb->j≠mf->wr.heap[j]? = W2.heap[j]?
 ext:Ext w wr
 size:W2.heap.size<=wr.heap.size
 ne:mb≠mf
 lob:w.heap.size<=mb/\mb<W2.heap.size
 lof:w.heap.size<=mf/\mf<W2.heap.size
 maps:∀ a v,W2.cell? a=some v->a.block≠mb/\a.block≠mf
 at_:MapAt Value.string wr mb m
 rows:∀ name,wr.ownsRow W2.heap.size 3 1 ((alook name m).getD (.slice none 0 0)) (byN rs kb name).length ((numsOf (byN rs kb name)).map (Value.int .i64))
 dis:∀ n1 n2 b,n1≠n2->((alook n1 m).getD (.slice none 0 0)).ownBlock=some b->((alook n2 m).getD (.slice none 0 0)).ownBlock≠some b
 full:∃ m,MapAt Value.string wr mf m/\∀ name,(alook name m).getD (.bool false)=.bool (fullB rs kf name)
theorem OpInv.le {w W2 wr:World} {mb mf:Nat} {rs:List Reveal} {kb kf:Nat} {m:List (BA × Value)} (h:OpInv w W2 wr mb mf rs kb kf m):CellLe W2 wr:=fun a v hc =>
 (World.cell?_of_block (w:=W2) (w':=wr) (h.blk a.block (cell_lt hc) (h.maps a v hc).1 (h.maps a v hc).2)).trans hc
theorem OpInv.grow {w W2 wr wr':World} {mb mf:Nat} {rs:List Reveal} {kb kf:Nat} {m:List (BA × Value)} (h:OpInv w W2 wr mb mf rs kb kf m) (hE:Ext wr wr'):OpInv w W2 wr' mb mf rs kb kf m:=by
 obtain ⟨m',h4,h5⟩:=h.full;exact ⟨fun j hj h1 h2=>(hE.block j (Nat.lt_of_lt_of_le hj h.size)).trans (h.blk j hj h1 h2),h.ext.trans hE,Nat.le_trans h.size hE.size,h.ne,h.lob,h.lof,h.maps,h.at_.ext hE,fun name=>owns_ext (h.rows name) hE,h.dis,⟨m',h4.ext hE,h5⟩⟩
theorem cellLe_map {w w':World} {b:Nat} {P:List (BA × Value)->Prop} (h:∃ m,MapAt Value.string w b m/\P m) (hg:w.grownBy w' (some b)):CellLe w w':=fun a v hc=>by
 obtain ⟨m,⟨es,clock,hb,_⟩,_⟩:=h;refine (World.cell?_of_block (w:=w) (w':=w') (hg.block a.block (cell_lt hc) (fun e=>?_))).trans hc;have e:=Option.some.inj e;unfold World.cell? at hc;rw [e,hb] at hc;simp at hc
theorem OpInv.setFull {w W2 wr:World} {mb mf:Nat} {rs:List Reveal} {k:Nat} {m:List (BA × Value)} (h:OpInv w W2 wr mb mf rs k k m) (b:Bool) (hb:b=(fullB rs k (nth rs k).name||(nth rs k).full)) :
  ∃ wr',(Instr.mapUpdate 143 (.map (some mf)) (.string (nth rs k).name) (.bool b)).run Tryz.prog wr=.ok () wr'/\OpInv w W2 wr' mb mf rs k (k+1) m/\wr.grownBy wr' (some mf):=by
 obtain ⟨m',h4,h5⟩:=h.full;obtain ⟨wr',hrun,hM,hg,hs⟩:=h4.update Tryz.underlying143 keyString (nth rs k).name (.bool b);refine ⟨wr',hrun,⟨fun j hj h1 h2=>(hg.block j (Nat.lt_of_lt_of_le hj h.size) (fun e=>h2 (Option.some.inj e))).trans (h.blk j hj h1 h2),h.ext.grown hg h.ext.size (fun q e=>by cases e; exact h.lof.1),by rw [hs]; exact h.size,h.ne,h.lob,h.lof,h.maps,
  h.at_.same (hg.block mb h.at_.lt (fun e=>h.ne (Option.some.inj e))),fun name=>(h.rows name).kept hg ?_,h.dis,⟨_,hM,fun name=>?_⟩⟩,hg⟩
 ·right;intro e;have:=((h.rows name).lt mf e).1;have:=h.lof.2;omega
 ·rw [alook_aput,fullB_succ];by_cases hn:name=(nth rs k).name
  ·rw [if_pos hn,hb,<- hn]; simp
  ·rw [if_neg hn,h5 name,beq_eq_false_iff_ne.2 (fun e=>hn e.symm),Bool.and_false,Bool.or_false]
theorem OpInv.lookFull {w W2 wr:World} {mb mf:Nat} {rs:List Reveal} {kb kf:Nat} {m:List (BA × Value)} (h:OpInv w W2 wr mb mf rs kb kf m) (name:BA) :
  (Instr.lookup 143 (.map (some mf)) (.string name) false).run Tryz.prog wr=.ok (.bool (fullB rs kf name)) wr:=by
 obtain ⟨m',h4,h5⟩:=h.full;rw [h4.lookup Tryz.underlying143 keyString name zero4,h5]
theorem numsOf_snoc (l:List Nat) (k:Nat):numsOf (l++[k])=numsOf l++[(k:Int)]:=by unfold numsOf; simp
theorem OpInv.setBy {w W2 wr w1:World} {mb mf:Nat} {rs:List Reveal} {k kf:Nat} {m:List (BA × Value)} {v':Value} (h:OpInv w W2 wr mb mf rs k kf m)
  (hown:w1.ownsRow W2.heap.size 3 1 v' ((byN rs k (nth rs k).name).length+1) ((numsOf (byN rs k (nth rs k).name)).map (Value.int .i64)++[.int .i64 k]))
  (hg:wr.grownBy w1 ((alook (nth rs k).name m).getD (.slice none 0 0)).ownBlock) (hat:v'.ownBlock=((alook (nth rs k).name m).getD (.slice none 0 0)).ownBlock\/v'.ownBlock=some wr.heap.size) :
  ∃ w2,(Instr.mapUpdate 100 (.map (some mb)) (.string (nth rs k).name) v').run Tryz.prog w1=.ok () w2/\(∃ m',OpInv w W2 w2 mb mf rs (k+1) kf m')/\w1.grownBy w2 (some mb):=by
 have hrow:=h.rows (nth rs k).name;have hsz:=h.size;have hnb:some mb≠((alook (nth rs k).name m).getD (.slice none 0 0)).ownBlock:=fun e=>by have:=(hrow.lt mb e.symm).1; have:=h.lob.2; omega
 have hnf:some mf≠((alook (nth rs k).name m).getD (.slice none 0 0)).ownBlock:=fun e=>by have:=(hrow.lt mf e.symm).1; have:=h.lof.2; omega
 have hM1:MapAt Value.string w1 mb m:=h.at_.same (hg.block mb h.at_.lt hnb);obtain ⟨w2,hrun,hM,hg2,hs2⟩:=hM1.update Tryz.underlying100 keyString (nth rs k).name v';obtain ⟨mF,h4,h5⟩:=h.full;have hF1:MapAt Value.string w1 mf mF:=h4.same (hg.block mf h4.lt hnf);have hle1:∀ j,j<W2.heap.size->j≠mb->j≠mf->w1.heap[j]? = W2.heap[j]? := fun j hj h1 h2=>(hg.block j (Nat.lt_of_lt_of_le hj h.size) (fun e=>by have:=(hrow.lt j e.symm).1; omega)).trans (h.blk j hj h1 h2);have hext1:Ext w w1:=h.ext.grown hg h.ext.size (fun q e=>by have:=(hrow.lt q e).1; have:=h.lob; omega);have hbk:∀ name,((alook name (aput (nth rs k).name v' m)).getD (.slice none 0 0))=if name=(nth rs k).name then v' else (alook name m).getD (.slice none 0 0):=by
  intro name;rw [alook_aput];split <;> rfl
 refine ⟨w2,hrun,⟨_,⟨fun j hj h1 h2=>(hg2.block j (Nat.lt_of_lt_of_le hj (Nat.le_trans h.size hg.size)) (fun e=>h1 (Option.some.inj e))).trans (hle1 j hj h1 h2),hext1.grown hg2 hext1.size (fun q e=>by cases e; exact h.lob.1),by have:=hg.size; have:=hg2.size; omega,h.ne,h.lob,h.lof,h.maps,hM,fun name=>?_,fun n1 n2 b hn h1 h2=>?_,
  ⟨mF,hF1.same (hg2.block mf hF1.lt (fun e=>h.ne (Option.some.inj e).symm)),h5⟩⟩⟩,hg2⟩
 ·rw [hbk];by_cases hn:name=(nth rs k).name
  ·rw [if_pos hn,hn,byN_hit rs k _ (by simp),numsOf_snoc,List.map_append,List.length_append];refine hown.kept hg2 (Or.inr fun e=>?_);have:=(hown.lt mb e).1;have:=h.lob.2;omega
  ·rw [if_neg hn,byN_miss rs k _ (beq_eq_false_iff_ne.2 (fun e=>hn e.symm))];refine ((h.rows name).kept hg ?_).kept hg2 (Or.inr fun e=>?_)
   ·cases hv:((alook name m).getD (.slice none 0 0)).ownBlock with
    | none=>exact Or.inl rfl
    | some b =>
     right;intro e;exact h.dis name (nth rs k).name b hn hv e.symm
   ·have:=((h.rows name).lt mb e).1;have:=h.lob.2;omega
 ·rw [hbk] at h1 h2;have key:∀ n,n≠(nth rs k).name->∀ b,((alook n m).getD (.slice none 0 0)).ownBlock=some b->v'.ownBlock≠some b:=fun n hn b hb he=>by
   rcases hat with ha | ha
   ·rw [ha] at he;exact h.dis n (nth rs k).name b hn hb he
   ·rw [ha] at he;have:=((h.rows n).lt b hb).2;cases he;omega
  by_cases c1:n1=(nth rs k).name
  ·by_cases c2:n2=(nth rs k).name
   ·exact hn (c1.trans c2.symm)
   ·rw [if_pos c1] at h1;rw [if_neg c2] at h2;exact key n2 c2 b h2 h1
  ·rw [if_neg c1] at h1;by_cases c2:n2=(nth rs k).name
   ·rw [if_pos c2] at h2;exact key n1 c1 b h1 h2
   ·rw [if_neg c2] at h2;exact h.dis n1 n2 b hn h1 h2
theorem wp_append_own_at {P:Program} {o:Oper} {a:Act} {w:World} {K:Act->World->Prop} {Q:Exit->Act->World->Prop} (s x:Operand) (t:TypeId)
  (ho:o.op=.call { callee:=.builtin .append,args:=#[s,x],argTypes:=#[t,t] })
  (base:Nat) (e:TypeId) (i:TypeInfo) (z:Value) (size bytes:Nat) (ht:P.underlying t=some (.slice e)) (hi:P.info? e=some i) (hz:i.zero=some z)
  (hsize:i.size=size) (hby:i.bytes=bytes) (hzs:z.cells.size=size) (hsz:0<size)
  (v:Value) (n:Nat) (xs:List Value) (hs:a.eval s=v) (hown:w.ownsRow base e size v n xs)
  (ad:Addr) (m c:Nat) (news:List Value) (hx:a.eval x=.slice (some ad) m c) (hl:news.length=m*size) (hnews:∀ j u,news[j]? = some u->w.cell? (ad.add j)=some u) (h1:∀ u∈news,u.oneCell'=true)
  (h63:n+m<=maxLen) (hbytes:(n+m)*bytes<=140737488355328) (hbase:base<=w.heap.size)
  (h:∀ v' w',w'.ownsRow base e size v' (n+m) (xs++news)->w.grownBy w' v.ownBlock->(v'.ownBlock=v.ownBlock\/v'.ownBlock=some w.heap.size)->K (a.put o.dst v') w') :
  o.wp P a w K Q:=by
 obtain ⟨v',w',hr,h2,h3,h4,h5⟩:=run_append_own_at (P:=P) w base t o.type e i z size bytes ht hi hz hsize hby hzs hsz v n xs hown ad m c news hl hnews h1 h63 hbytes hbase;unfold Oper.wp execOp;simp only [ho,resolve,invoke,builtin,Sem.run_bind,Sem.run_pure,Result.andThen_ok,List.map_toArray,List.map_cons,List.map_nil,hs,hx,hr];exact h v' w' h2 h3 h5
end
end Go.Proofs.YtjffkeoajkhbmaaGreat
