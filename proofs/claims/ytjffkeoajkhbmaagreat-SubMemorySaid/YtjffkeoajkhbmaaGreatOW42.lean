/- The reference's Assign. The law SubAssigns, walked. The law SubAssigns holds: for every input it answers true, and its arguments read as before. An environment that In has made stands on new memory alone; so do the rows that Above and Line answer. The law SubJoins: in plain Lean, and walked. The law SubAssignable: in plain Lean, and walked. -/
import Derived.Test.YtjffkeoajkhbmaaGreatOW33
import Derived.Test.YtjffkeoajkhbmaaGreatOW38
import Derived.Test.YtjffkeoajkhbmaaGreatOW39
import Derived.Test.YtjffkeoajkhbmaaGreatOW40
import Derived.Test.YtjffkeoajkhbmaaGreatOW41
namespace Go.Proofs.YtjffkeoajkhbmaaGreat
set_option linter.unusedSimpArgs false
set_option linter.unusedVariables false
set_option maxRecDepth 100000
set_option maxHeartbeats 8000000
section
open Go.RowKit Go.Proofs Go.Shelf
def endB (t:Ty):Bool:=t.kind==1||t.kind==3
theorem span_end {t:Ty} (h:endB t=true):spanR t=((endsV t).1,(endsV t).2,true):=by
 unfold endB at h;unfold spanR endsV;rcases (by simpa using h:t.kind=1\/t.kind=3) with k | k
 ·rw [if_pos k,if_pos k]
 ·rw [if_neg (by omega),if_pos k,if_neg (by omega)]
theorem span_no {t:Ty} (h:endB t=false):(spanR t).2.2=false:=by
 unfold endB at h;have h:¬ t.kind=1/\¬ t.kind=3:=by simpa using h
 unfold spanR;rw [if_neg h.1,if_neg h.2]
theorem ends_le {g:List Ty} {t:Ty} (hr:rightB g t=true) (h:endB t=true):(endsV t).1<=(endsV t).2:=by
 unfold endB at h;unfold endsV;rcases (by simpa using h:t.kind=1\/t.kind=3) with k | k
 ·rw [if_pos k]; decide
 ·rw [if_neg (by omega)];rw [right_range g k] at hr;simp only [Bool.and_eq_true] at hr;have:=hr.1.1.1.1.1;unfold rangedB at this;simp at this;exact this.1.2
theorem meet_iff {a b c d:Int} (h1:a<=b) (h2:c<=d):decide (max a c<=min b d)=(decide (a<=d)&&decide (c<=b)):=by
 rw [Bool.eq_iff_iff,decide_eq_true_iff,Bool.and_eq_true,decide_eq_true_iff,decide_eq_true_iff];omega
theorem assignG {W:World} {vb:Nat} {g:List Ty} {rs:List Reveal} (h:EnvG W vb g rs) (a b:Int) (hx:I64 a) (hy:I64 b):Calls Tryz.prog 30 #[.pointer (some ⟨vb,0,none⟩),.int .i64 a,.int .i64 b] W fun e w' =>
  e=.returned (.tuple #[.agg #[.int .u8 (assignQ g rs a b).1,.int .i64 (assignQ g rs a b).2.1,.int .i64 (assignQ g rs a b).2.2.1],.int .i64 (assignQ g rs a b).2.2.2])/\Ext W w':=by
 obtain ⟨hop,D,hv,hD⟩:=id h;obtain ⟨_,h400,_,hr,_⟩:=opens hop;have HL:=dh (far_bit hop hD);obtain ⟨S,hS⟩:∃ S,S=reachL g rs g.length:=⟨_,rfl⟩;rw [<- hS] at HL;obtain ⟨q1,hq1⟩:∃ q,q=(assignQ g rs a b).1:=⟨_,rfl⟩;obtain ⟨q2,hq2⟩:∃ q,q=(assignQ g rs a b).2.1:=⟨_,rfl⟩;obtain ⟨q3,hq3⟩:∃ q,q=(assignQ g rs a b).2.2.1:=⟨_,rfl⟩;obtain ⟨q4,hq4⟩:∃ q,q=(assignQ g rs a b).2.2.2:=⟨_,rfl⟩;rw [<- hq1,<- hq2,<- hq3,<- hq4];have Hq:=dh (show ∀ x y z u,assignR g S a b=(x,y,z,u)->q1=x/\q2=y/\q3=z/\q4=u from fun x y z u h=>by
  rw [hq1,hq2,hq3,hq4]; unfold assignQ; rw [<- hS,h]; exact ⟨rfl,rfl,rfl,rfl⟩)
 obtain ⟨ga,gc,h0⟩:=hv.graph;have hE0:=(Ext.alloc W (.cells #[.int .u8 0,.int .i64 0,.int .i64 0] 56)).trans (Ext.alloc (W.alloc (.cells #[.int .u8 0,.int .i64 0,.int .i64 0] 56)) (.cells #[.int .i64 a,.int .i64 b] 3));have hl:=ints_two (W.alloc (.cells #[.int .u8 0,.int .i64 0,.int .i64 0] 56)) a b hx hy;rw [World.size_alloc] at hl;have hcall:=dh (askedR49 vb ga g.length gc h400 _ 2 2 [a,b] _ (hE0.cell h0) hl);have HB0:=dh (AsBox.ext (AsBox.new W) (Ext.alloc _ (.cells #[.int .i64 a,.int .i64 b] 3)));have HE0:=dh hE0;have Hv:=dh hv;have Hr:=dh hr;obtain ⟨er,her⟩:∃ er,er=askedR g.length [a,b]:=⟨_,rfl⟩;rw [<- her] at hcall;have Her:=dh her;clear hop hv hD h hr hS hq1 hq2 hq3 hq4 hE0 hl her
 go_enter Tryz.func30,Tryz.ntmps30
 go_wp2_with fail;refine hcall.out.mono ?_;rintro e w1 ⟨rfl,hE⟩;have HB1:=dh (HB0.out.ext hE);have HE:=dh (HE0.out.trans hE);have hcg:=hE.cell (HE0.out.cell h0);clear hE hcall h0;have h01:er=0\/er=1:=by rw [Her.out]; exact asked01 _ _
 by_cases h1:er=1
 ·have Hf:=dh (Hq.out 0 0 0 1 (by unfold assignR; rw [if_neg (by rw [<- Her.out,h1]; decide)]));subst h1;clear h01 hcg;have e0:=HB1.out.cell (j:=0) rfl;have e1:=HB1.out.cell (j:=1) rfl;have e2:=HB1.out.cell (j:=2) rfl;have f0:=HB1.out.free 0;have f1:=HB1.out.free 1;have f2:=HB1.out.free 2;go_wp2_with fail;obtain ⟨X,hX⟩:∃ X:World,X=(((w1.setCell ⟨W.heap.size,0,none⟩ (.int .u8 0)).setCell ⟨W.heap.size,1,none⟩ (.int .i64 0)).setCell ⟨W.heap.size,2,none⟩ (.int .i64 0)):=⟨_,rfl⟩;have hXb:=AsBox.set3 HB1.out 0 0 0;have hXe:=ext_set3 HE.out (Nat.le_refl _) (.int .u8 0) (.int .i64 0) (.int .i64 0);rw [<- hX] at hXb hXe ⊢;have x0:=hXb.cell (j:=0) rfl;have x1:=hXb.cell (j:=1) rfl;have x2:=hXb.cell (j:=2) rfl;refine bodyPost_ret (v:=.tuple #[.agg #[.int .u8 0,.int .i64 0,.int .i64 0],.int .i64 1]) (by simp [results,Tryz.results30,go_sem,x0,x1,x2]) rfl ⟨by rw [Hf.out.1,Hf.out.2.1,Hf.out.2.2.1,Hf.out.2.2.2],hXe⟩
 have h2:er=0:=by omega
 obtain ⟨x,y,hax,hby,hx1,hy1⟩:=two_in (Her.out.symm.trans h2);subst hax hby;have Hs:=dh (show assignR g S x y=if (nth S y).testBit x then (1,0,0,0)
   else if (spanR (nth g x)).2.2&&(spanR (nth g y)).2.2&&decide ((spanR (nth g x)).1<=(spanR (nth g y)).2.1)&&decide ((spanR (nth g y)).1<=(spanR (nth g x)).2.1) then (2,(spanR (nth g x)).1,(spanR (nth g x)).2.1,0)
   else if !isWordB (nth g x).kind&&!isWordB (nth g y).kind&&(nth S x).testBit y then (3,0,0,0) else (0,0,0,41) by unfold assignR; rw [if_pos (Her.out.symm.trans h2)]; simp only [Int.toNat_natCast])
 clear h01 h1;subst h2;obtain ⟨fb,fo,fc,row,c3,cr,cd⟩:=(Hv.out.mono HE.out).rows (by omega);have ry:=cr y hy1;have dyx:=cd y hy1 x hx1;have Hrx:=dh (cr x hx1);have Hdxy:=dh (cd x hx1 y hy1);have Hc3:=dh c3;have hyx:=HL.out y x hy1 hx1;have hxy:=HL.out x y hx1 hy1;have Hyx:=dh hyx;have Hxy:=dh hxy;clear cr cd hxy hyx HL;by_cases hfar:0<=D y x
 ·have Hf:=dh (Hq.out 1 0 0 0 (by rw [Hs.out,if_pos (Hyx.out.1 hfar)]));have e0:=HB1.out.cell (j:=0) rfl;have e1:=HB1.out.cell (j:=1) rfl;have e2:=HB1.out.cell (j:=2) rfl;have f0:=HB1.out.free 0;have f1:=HB1.out.free 1;have f2:=HB1.out.free 2;go_wp2_with fail;obtain ⟨X,hX⟩:∃ X:World,X=(((w1.setCell ⟨W.heap.size,0,none⟩ (.int .u8 1)).setCell ⟨W.heap.size,1,none⟩ (.int .i64 0)).setCell ⟨W.heap.size,2,none⟩ (.int .i64 0)):=⟨_,rfl⟩;have hXb:=AsBox.set3 HB1.out 1 0 0;have hXe:=ext_set3 HE.out (Nat.le_refl _) (.int .u8 1) (.int .i64 0) (.int .i64 0);rw [<- hX] at hXb hXe ⊢;have x0:=hXb.cell (j:=0) rfl;have x1:=hXb.cell (j:=1) rfl;have x2:=hXb.cell (j:=2) rfl;refine bodyPost_ret (v:=.tuple #[.agg #[.int .u8 1,.int .i64 0,.int .i64 0],.int .i64 0]) (by simp [results,Tryz.results30,go_sem,x0,x1,x2]) rfl ⟨by rw [Hf.out.1,Hf.out.2.1,Hf.out.2.2.1,Hf.out.2.2.2],hXe⟩
 have Hnf:=dh (show assignR g S x y=if (spanR (nth g x)).2.2&&(spanR (nth g y)).2.2&&decide ((spanR (nth g x)).1<=(spanR (nth g y)).2.1)&&decide ((spanR (nth g y)).1<=(spanR (nth g x)).2.1) then (2,(spanR (nth g x)).1,(spanR (nth g x)).2.1,0)
   else if !isWordB (nth g x).kind&&!isWordB (nth g y).kind&&(nth S x).testBit y then (3,0,0,0) else (0,0,0,41) by
  rw [Hs.out,if_neg (fun h=>hfar (Hyx.out.2 h))])
 clear Hs Hyx;obtain ⟨_,_,_,_,_,_,c0,_,_,hG,_,_⟩:=(Hv.out.mono HE.out).1;obtain ⟨tb,tof,pa,pl,pc,ma,ml,mc,oa,ol,oc,hab,hbl,hT⟩:=Graph.at hG hx1;cases hab;obtain ⟨ub,uof,qa,ql,qc,na,nl,nc,xa,xl,xc,hab,hbl2,hU⟩:=Graph.at hG hy1;cases hab;obtain ⟨t,ht⟩:∃ t,t=nth g x:=⟨_,rfl⟩;obtain ⟨f,hf⟩:∃ f,f=nth g y:=⟨_,rfl⟩;rw [<- ht] at hT;rw [<- hf] at hU;have Ht:=dh ht;have Hf:=dh hf;obtain ⟨d0,d1,d2,d3,d4,d5,d6,d7,d8,d9,_,_,_,_⟩:=hT;obtain ⟨e0,e1,e2,e3,e4,e5,e6,e7,e8,e9,_,_,_,_⟩:=hU;have l0:=cell_lt c0;clear ht hf hG hcg;go_upto_region 8 with (fail);obtain ⟨W3,hW⟩:∃ W3:World,W3=(w1.alloc (.cells (tyArr t pa pl pc ma ml mc oa ol oc) 50)).alloc (.cells (tyArr f qa ql qc na nl nc xa xl xc) 50):=⟨_,rfl⟩;have hE3:Ext w1 W3:=by rw [hW]; exact (Ext.alloc _ _).trans (Ext.alloc _ _)
 have hbt:W3.heap[w1.heap.size]? = some (.cells (tyArr t pa pl pc ma ml mc oa ol oc) 50 (0,0)):=by rw [hW]; exact ((Ext.alloc _ _).block _ (by rw [World.size_alloc]; omega)).trans (heap_alloc_new _ _)
 have hbf:W3.heap[w1.heap.size+1]? = some (.cells (tyArr f qa ql qc na nl nc xa xl xc) 50 (0,0)):=by rw [hW,<- World.size_alloc w1]; exact heap_alloc_new _ _
 unfold tyArr at hW;rw [<- hW];clear ry dyx hfar;have HX:=dh hE3;have HEz:=dh (HE.out.trans hE3);have HBz:=dh (HB1.out.ext hE3);have Hbt:=dh hbt;have Hbf:=dh hbf;have Hc0:=dh c0;clear hE3 hW HE HB1 d0 d1 d2 d3 d4 d5 d6 d7 d8 d9 e0 e1 e2 e3 e4 e5 e6 e7 e8 e9 l0 c0;obtain ⟨b0,b1,b2,b3,b4,b5,b6,b7,b8,b9⟩:=tyBox_of hbt;obtain ⟨a0,a1,a2,a3,a4,a5,a6,a7,a8,a9⟩:=tyBox_of hbf;clear hbt hbf;go_cut [67] (fun v wx=>v=.bool (endB t&&endB f)/\wx=W3)
 case first =>
  clear b1 b2 b3 b4 b5 b6 b7 b8 b9 a1 a2 a3 a4 a5 a6 a7 a8 a9;cases h1:(t.kind==1) <;> cases h3:(t.kind==3) <;> cases k1:(f.kind==1) <;> cases k3:(f.kind==3)
  all_goals
   have Hn:=dh (And.intro (And.intro h1 h3) (And.intro k1 k3));go_wp2_with fail;go_meet;exact ⟨by unfold endB; rw [Hn.out.1.1,Hn.out.1.2,Hn.out.2.1,Hn.out.2.2]; rfl,rfl⟩
 case rest =>
  obtain ⟨rfl,rfl⟩:=hcut;have Hnf:=dh (show assignR g S x y=if (spanR t).2.2&&(spanR f).2.2&&decide ((spanR t).1<=(spanR f).2.1)&&decide ((spanR f).1<=(spanR t).2.1) then (2,(spanR t).1,(spanR t).2.1,0)
    else if !isWordB t.kind&&!isWordB f.kind&&(nth S x).testBit y then (3,0,0,0) else (0,0,0,41) by rw [Hnf.out,<- Ht.out,<- Hf.out])
  cases hen:(endB t&&endB f)
  ·have HN:=dh (show assignR g S x y=if !isWordB t.kind&&!isWordB f.kind&&(nth S x).testBit y then (3,0,0,0) else (0,0,0,41) by
    rw [Hnf.out,if_neg];rcases (Bool.and_eq_false_iff.1 hen) with h | h
    ·rw [span_no h]; simp
    ·rw [span_no h]; simp)
   clear hen b0 b1 b2 b3 b4 b5 b6 b7 b8 b9 a0 a1 a2 a3 a4 a5 a6 a7 a8 a9;obtain ⟨b0,b1,b2,b3,b4,b5,b6,b7,b8,b9⟩:=tyBox_of Hbt.out;obtain ⟨a0,a1,a2,a3,a4,a5,a6,a7,a8,a9⟩:=tyBox_of Hbf.out;have c0:=HX.out.cell Hc0.out;have c3:=HX.out.cell Hc3.out;have rx:=HX.out.cell Hrx.out;have dxy:=HX.out.cell Hdxy.out;go_upto_region 13 with (fail);go_cut [108] (fun v wx=>v=.bool (!isWordB t.kind&&!isWordB f.kind&&(nth S x).testBit y)/\Hid (Ext wc wx))
   case first =>
    go_wp2_with fail;refine (word66 t pa pl pc ma ml mc oa ol oc wc).mono ?_;rintro e w5 ⟨rfl,hE5⟩;clear b0 b1 b2 b3 b4 b5 b6 b7 b8 b9;cases hwa:isWordB t.kind;rotate_left
    ·have HE5:=dh hE5;have Hwa:=dh hwa;clear hE5 hwa a0 a1 a2 a3 a4 a5 a6 a7 a8 a9 c0 c3 rx dxy;go_wp2_with fail;go_meet;exact ⟨by rw [Hwa.out]; rfl,HE5.out⟩
    have a0:=hE5.cell a0;have a1:=hE5.cell a1;have a2:=hE5.cell a2;have a3:=hE5.cell a3;have a4:=hE5.cell a4;have a5:=hE5.cell a5;have a6:=hE5.cell a6;have a7:=hE5.cell a7;have a8:=hE5.cell a8;have a9:=hE5.cell a9;have c0:=hE5.cell c0;have c3:=hE5.cell c3;have rx:=hE5.cell rx;have dxy:=hE5.cell dxy;have HE5:=dh hE5;have Hwa:=dh hwa;clear hE5 hwa;go_wp2_with fail;refine (word66 f qa ql qc na nl nc xa xl xc w5).mono ?_;rintro e w6 ⟨rfl,hE6⟩;clear a0 a1 a2 a3 a4 a5 a6 a7 a8 a9;cases hwb:isWordB f.kind;rotate_left
    ·have HE6:=dh (HE5.out.trans hE6);have Hwb:=dh hwb;clear hE6 hwb c0 c3 rx dxy;go_wp2_with fail;go_meet;exact ⟨by rw [Hwa.out,Hwb.out]; rfl,HE6.out⟩
    have c0:=hE6.cell c0;have c3:=hE6.cell c3;have rx:=hE6.cell rx;have dxy:=hE6.cell dxy;have HE6:=dh (HE5.out.trans hE6);have Hwb:=dh hwb;clear hE6 hwb;by_cases hnf:0<=D x y
    ·have Hb:=dh (Hxy.out.1 hnf);go_wp2_with fail;go_meet;exact ⟨by rw [Hwa.out,Hwb.out,Hb.out]; rfl,HE6.out⟩
    ·have Hb:=dh (show (nth S x).testBit y=false by
      cases hb:(nth S x).testBit y
      ·rfl
      ·exact absurd (Hxy.out.2 hb) hnf)
     go_wp2_with fail;go_meet;exact ⟨by rw [Hwa.out,Hwb.out,Hb.out,decide_eq_false (show ¬ 0<=D x y by omega)]; rfl,HE6.out⟩
   case rest =>
    obtain ⟨rfl,hE⟩:=hcut;have HBy:=dh (HBz.out.ext hE.out);have HEy:=dh (HEz.out.trans hE.out);clear b0 b1 b2 b3 b4 b5 b6 b7 b8 b9 a0 a1 a2 a3 a4 a5 a6 a7 a8 a9 c0 c3 rx dxy hE;cases hnar:(!isWordB t.kind&&!isWordB f.kind&&(nth S x).testBit y)
    ·have HM:=dh (show assignR g S x y=(0,0,0,41) by rw [HN.out,if_neg (by rw [hnar]; decide)]);clear hnar;have Hres:=dh (Hq.out 0 0 0 41 HM.out);have e0:=HBy.out.cell (j:=0) rfl;have e1:=HBy.out.cell (j:=1) rfl;have e2:=HBy.out.cell (j:=2) rfl;have f0:=HBy.out.free 0;have f1:=HBy.out.free 1;have f2:=HBy.out.free 2;go_wp2_with fail;obtain ⟨X,hX⟩:∃ X:World,X=(((wc.setCell ⟨W.heap.size,0,none⟩ (.int .u8 0)).setCell ⟨W.heap.size,1,none⟩ (.int .i64 0)).setCell ⟨W.heap.size,2,none⟩ (.int .i64 0)):=⟨_,rfl⟩;have hXb:=AsBox.set3 HBy.out 0 0 0;have hXe:=ext_set3 HEy.out (Nat.le_refl _) (.int .u8 0) (.int .i64 0) (.int .i64 0);rw [<- hX] at hXb hXe ⊢;have x0:=hXb.cell (j:=0) rfl;have x1:=hXb.cell (j:=1) rfl;have x2:=hXb.cell (j:=2) rfl;refine bodyPost_ret (v:=.tuple #[.agg #[.int .u8 0,.int .i64 0,.int .i64 0],.int .i64 41]) (by simp [results,Tryz.results30,go_sem,x0,x1,x2]) rfl ⟨by rw [Hres.out.1,Hres.out.2.1,Hres.out.2.2.1,Hres.out.2.2.2],hXe⟩
    ·have HM:=dh (show assignR g S x y=(3,0,0,0) by rw [HN.out,if_pos hnar]);clear hnar;have Hres:=dh (Hq.out 3 0 0 0 HM.out);have e0:=HBy.out.cell (j:=0) rfl;have e1:=HBy.out.cell (j:=1) rfl;have e2:=HBy.out.cell (j:=2) rfl;have f0:=HBy.out.free 0;have f1:=HBy.out.free 1;have f2:=HBy.out.free 2;go_wp2_with fail;obtain ⟨X,hX⟩:∃ X:World,X=(((wc.setCell ⟨W.heap.size,0,none⟩ (.int .u8 3)).setCell ⟨W.heap.size,1,none⟩ (.int .i64 0)).setCell ⟨W.heap.size,2,none⟩ (.int .i64 0)):=⟨_,rfl⟩;have hXb:=AsBox.set3 HBy.out 3 0 0;have hXe:=ext_set3 HEy.out (Nat.le_refl _) (.int .u8 3) (.int .i64 0) (.int .i64 0);rw [<- hX] at hXb hXe ⊢;have x0:=hXb.cell (j:=0) rfl;have x1:=hXb.cell (j:=1) rfl;have x2:=hXb.cell (j:=2) rfl;refine bodyPost_ret (v:=.tuple #[.agg #[.int .u8 3,.int .i64 0,.int .i64 0],.int .i64 0]) (by simp [results,Tryz.results30,go_sem,x0,x1,x2]) rfl ⟨by rw [Hres.out.1,Hres.out.2.1,Hres.out.2.2.1,Hres.out.2.2.2],hXe⟩
  ·have hboth:endB t=true/\endB f=true:=by simpa using hen
   have hlh:(endsV t).1<=(endsV t).2:=ends_le (g:=g) (by rw [Ht.out]; exact Hr.out x hx1) hboth.1;have hmM:(endsV f).1<=(endsV f).2:=ends_le (g:=g) (by rw [Hf.out]; exact Hr.out y hy1) hboth.2;have ct:=ends65 t pa pl pc ma ml mc oa ol oc wc;have cf:=fun w=>ends65 f qa ql qc na nl nc xa xl xc w;have Hnf:=dh (show assignR g S x y=if decide (max (endsV t).1 (endsV f).1<=min (endsV t).2 (endsV f).2) then (2,(endsV t).1,(endsV t).2,0)
     else if !isWordB t.kind&&!isWordB f.kind&&(nth S x).testBit y then (3,0,0,0) else (0,0,0,41) by
    rw [Hnf.out,span_end hboth.1,span_end hboth.2,meet_iff hlh hmM];simp only [Bool.true_and,Bool.and_true])
   obtain ⟨el,hl⟩:∃ l,l=(endsV t).1:=⟨_,rfl⟩;obtain ⟨eh,hh⟩:∃ h,h=(endsV t).2:=⟨_,rfl⟩;obtain ⟨em,hm⟩:∃ m,m=(endsV f).1:=⟨_,rfl⟩;obtain ⟨eM,hM⟩:∃ M,M=(endsV f).2:=⟨_,rfl⟩;rw [<- hl,<- hh] at ct;rw [<- hm,<- hM] at cf;rw [<- hl,<- hh,<- hm,<- hM] at Hnf;have Hct:=dh ct;have Hcf:=dh cf;clear hen hboth hlh hmM hl hh hm hM ct cf;go_wp2_with fail;refine Hct.out.mono ?_;rintro e w5 ⟨rfl,hE⟩;clear b0 b1 b2 b3 b4 b5 b6 b7 b8 b9 Hct;have a0:=hE.cell a0;have a1:=hE.cell a1;have a2:=hE.cell a2;have a3:=hE.cell a3;have a4:=hE.cell a4;have a5:=hE.cell a5;have a6:=hE.cell a6;have a7:=hE.cell a7;have a8:=hE.cell a8;have a9:=hE.cell a9;have HX:=dh (HX.out.trans hE);have HEz:=dh (HEz.out.trans hE);have HBz:=dh (HBz.out.ext hE);have Hbt:=dh ((hE.block _ (row_lt Hbt.out)).trans Hbt.out);have Hbf:=dh ((hE.block _ (row_lt Hbf.out)).trans Hbf.out);clear hE;go_wp2_with fail;refine (Hcf.out w5).mono ?_;rintro e w6 ⟨rfl,hE⟩;clear a0 a1 a2 a3 a4 a5 a6 a7 a8 a9 Hcf;have HX:=dh (HX.out.trans hE);have HEz:=dh (HEz.out.trans hE);have HBz:=dh (HBz.out.ext hE);have Hbt:=dh ((hE.block _ (row_lt Hbt.out)).trans Hbt.out);have Hbf:=dh ((hE.block _ (row_lt Hbf.out)).trans Hbf.out);clear hE;go_upto_region 11 with (fail);go_cut [84] (fun v wx=>v=.bool (decide (max el em<=min eh eM))/\wx=w6)
   case first =>
    by_cases c1:el<em
    ·by_cases c2:eM<eh
     ·by_cases c3:em<=eM
      ·have Hc:=dh (show max el em<=min eh eM by omega);go_wp2_with fail;go_meet;exact ⟨by rw [decide_eq_true Hc.out],rfl⟩
      ·have Hc:=dh (show ¬ max el em<=min eh eM by omega);go_wp2_with fail;go_meet;exact ⟨by rw [decide_eq_false (Int.not_le.2 Hc.out)],rfl⟩
     ·by_cases c3:em<=eh
      ·have Hc:=dh (show max el em<=min eh eM by omega);go_wp2_with fail;go_meet;exact ⟨by rw [decide_eq_true Hc.out],rfl⟩
      ·have Hc:=dh (show ¬ max el em<=min eh eM by omega);go_wp2_with fail;go_meet;exact ⟨by rw [decide_eq_false (Int.not_le.2 Hc.out)],rfl⟩
    ·by_cases c2:eM<eh
     ·by_cases c3:el<=eM
      ·have Hc:=dh (show max el em<=min eh eM by omega);go_wp2_with fail;go_meet;exact ⟨by rw [decide_eq_true Hc.out],rfl⟩
      ·have Hc:=dh (show ¬ max el em<=min eh eM by omega);go_wp2_with fail;go_meet;exact ⟨by rw [decide_eq_false (Int.not_le.2 Hc.out)],rfl⟩
     ·by_cases c3:el<=eh
      ·have Hc:=dh (show max el em<=min eh eM by omega);go_wp2_with fail;go_meet;exact ⟨by rw [decide_eq_true Hc.out],rfl⟩
      ·have Hc:=dh (show ¬ max el em<=min eh eM by omega);go_wp2_with fail;go_meet;exact ⟨by rw [decide_eq_false (Int.not_le.2 Hc.out)],rfl⟩
   case rest =>
    obtain ⟨rfl,rfl⟩:=hcut;cases hmx:(decide (max el em<=min eh eM));rotate_left
    ·have HM:=dh (show assignR g S x y=(2,el,eh,0) by rw [Hnf.out,if_pos hmx]);clear hmx;have Hres:=dh (Hq.out 2 el eh 0 HM.out);have e0:=HBz.out.cell (j:=0) rfl;have e1:=HBz.out.cell (j:=1) rfl;have e2:=HBz.out.cell (j:=2) rfl;have f0:=HBz.out.free 0;have f1:=HBz.out.free 1;have f2:=HBz.out.free 2;go_wp2_with fail;obtain ⟨X,hX⟩:∃ X:World,X=(((wc.setCell ⟨W.heap.size,0,none⟩ (.int .u8 2)).setCell ⟨W.heap.size,1,none⟩ (.int .i64 el)).setCell ⟨W.heap.size,2,none⟩ (.int .i64 eh)):=⟨_,rfl⟩;have hXb:=AsBox.set3 HBz.out 2 el eh;have hXe:=ext_set3 HEz.out (Nat.le_refl _) (.int .u8 2) (.int .i64 el) (.int .i64 eh);rw [<- hX] at hXb hXe ⊢;have x0:=hXb.cell (j:=0) rfl;have x1:=hXb.cell (j:=1) rfl;have x2:=hXb.cell (j:=2) rfl;refine bodyPost_ret (v:=.tuple #[.agg #[.int .u8 2,.int .i64 el,.int .i64 eh],.int .i64 0]) (by simp [results,Tryz.results30,go_sem,x0,x1,x2]) rfl ⟨by rw [Hres.out.1,Hres.out.2.1,Hres.out.2.2.1,Hres.out.2.2.2],hXe⟩
    have HN:=dh (show assignR g S x y=if !isWordB t.kind&&!isWordB f.kind&&(nth S x).testBit y then (3,0,0,0) else (0,0,0,41) by rw [Hnf.out,if_neg (by rw [hmx]; decide)]);clear hmx;obtain ⟨b0,b1,b2,b3,b4,b5,b6,b7,b8,b9⟩:=tyBox_of Hbt.out;obtain ⟨a0,a1,a2,a3,a4,a5,a6,a7,a8,a9⟩:=tyBox_of Hbf.out;have c0:=HX.out.cell Hc0.out;have c3:=HX.out.cell Hc3.out;have rx:=HX.out.cell Hrx.out;have dxy:=HX.out.cell Hdxy.out;go_upto_region 13 with (fail);go_cut [108] (fun v wx=>v=.bool (!isWordB t.kind&&!isWordB f.kind&&(nth S x).testBit y)/\Hid (Ext wc wx))
    case first =>
     go_wp2_with fail;refine (word66 t pa pl pc ma ml mc oa ol oc wc).mono ?_;rintro e w5 ⟨rfl,hE5⟩;clear b0 b1 b2 b3 b4 b5 b6 b7 b8 b9;cases hwa:isWordB t.kind;rotate_left
     ·have HE5:=dh hE5;have Hwa:=dh hwa;clear hE5 hwa a0 a1 a2 a3 a4 a5 a6 a7 a8 a9 c0 c3 rx dxy;go_wp2_with fail;go_meet;exact ⟨by rw [Hwa.out]; rfl,HE5.out⟩
     have a0:=hE5.cell a0;have a1:=hE5.cell a1;have a2:=hE5.cell a2;have a3:=hE5.cell a3;have a4:=hE5.cell a4;have a5:=hE5.cell a5;have a6:=hE5.cell a6;have a7:=hE5.cell a7;have a8:=hE5.cell a8;have a9:=hE5.cell a9;have c0:=hE5.cell c0;have c3:=hE5.cell c3;have rx:=hE5.cell rx;have dxy:=hE5.cell dxy;have HE5:=dh hE5;have Hwa:=dh hwa;clear hE5 hwa;go_wp2_with fail;refine (word66 f qa ql qc na nl nc xa xl xc w5).mono ?_;rintro e w6 ⟨rfl,hE6⟩;clear a0 a1 a2 a3 a4 a5 a6 a7 a8 a9;cases hwb:isWordB f.kind;rotate_left
     ·have HE6:=dh (HE5.out.trans hE6);have Hwb:=dh hwb;clear hE6 hwb c0 c3 rx dxy;go_wp2_with fail;go_meet;exact ⟨by rw [Hwa.out,Hwb.out]; rfl,HE6.out⟩
     have c0:=hE6.cell c0;have c3:=hE6.cell c3;have rx:=hE6.cell rx;have dxy:=hE6.cell dxy;have HE6:=dh (HE5.out.trans hE6);have Hwb:=dh hwb;clear hE6 hwb;by_cases hnf:0<=D x y
     ·have Hb:=dh (Hxy.out.1 hnf);go_wp2_with fail;go_meet;exact ⟨by rw [Hwa.out,Hwb.out,Hb.out]; rfl,HE6.out⟩
     ·have Hb:=dh (show (nth S x).testBit y=false by
       cases hb:(nth S x).testBit y
       ·rfl
       ·exact absurd (Hxy.out.2 hb) hnf)
      go_wp2_with fail;go_meet;exact ⟨by rw [Hwa.out,Hwb.out,Hb.out,decide_eq_false (show ¬ 0<=D x y by omega)]; rfl,HE6.out⟩
    case rest =>
     obtain ⟨rfl,hE⟩:=hcut;have HBy:=dh (HBz.out.ext hE.out);have HEy:=dh (HEz.out.trans hE.out);clear b0 b1 b2 b3 b4 b5 b6 b7 b8 b9 a0 a1 a2 a3 a4 a5 a6 a7 a8 a9 c0 c3 rx dxy hE;cases hnar:(!isWordB t.kind&&!isWordB f.kind&&(nth S x).testBit y)
     ·have HM:=dh (show assignR g S x y=(0,0,0,41) by rw [HN.out,if_neg (by rw [hnar]; decide)]);clear hnar;have Hres:=dh (Hq.out 0 0 0 41 HM.out);have e0:=HBy.out.cell (j:=0) rfl;have e1:=HBy.out.cell (j:=1) rfl;have e2:=HBy.out.cell (j:=2) rfl;have f0:=HBy.out.free 0;have f1:=HBy.out.free 1;have f2:=HBy.out.free 2;go_wp2_with fail;obtain ⟨X,hX⟩:∃ X:World,X=(((wc.setCell ⟨W.heap.size,0,none⟩ (.int .u8 0)).setCell ⟨W.heap.size,1,none⟩ (.int .i64 0)).setCell ⟨W.heap.size,2,none⟩ (.int .i64 0)):=⟨_,rfl⟩;have hXb:=AsBox.set3 HBy.out 0 0 0;have hXe:=ext_set3 HEy.out (Nat.le_refl _) (.int .u8 0) (.int .i64 0) (.int .i64 0);rw [<- hX] at hXb hXe ⊢;have x0:=hXb.cell (j:=0) rfl;have x1:=hXb.cell (j:=1) rfl;have x2:=hXb.cell (j:=2) rfl;refine bodyPost_ret (v:=.tuple #[.agg #[.int .u8 0,.int .i64 0,.int .i64 0],.int .i64 41]) (by simp [results,Tryz.results30,go_sem,x0,x1,x2]) rfl ⟨by rw [Hres.out.1,Hres.out.2.1,Hres.out.2.2.1,Hres.out.2.2.2],hXe⟩
     ·have HM:=dh (show assignR g S x y=(3,0,0,0) by rw [HN.out,if_pos hnar]);clear hnar;have Hres:=dh (Hq.out 3 0 0 0 HM.out);have e0:=HBy.out.cell (j:=0) rfl;have e1:=HBy.out.cell (j:=1) rfl;have e2:=HBy.out.cell (j:=2) rfl;have f0:=HBy.out.free 0;have f1:=HBy.out.free 1;have f2:=HBy.out.free 2;go_wp2_with fail;obtain ⟨X,hX⟩:∃ X:World,X=(((wc.setCell ⟨W.heap.size,0,none⟩ (.int .u8 3)).setCell ⟨W.heap.size,1,none⟩ (.int .i64 0)).setCell ⟨W.heap.size,2,none⟩ (.int .i64 0)):=⟨_,rfl⟩;have hXb:=AsBox.set3 HBy.out 3 0 0;have hXe:=ext_set3 HEy.out (Nat.le_refl _) (.int .u8 3) (.int .i64 0) (.int .i64 0);rw [<- hX] at hXb hXe ⊢;have x0:=hXb.cell (j:=0) rfl;have x1:=hXb.cell (j:=1) rfl;have x2:=hXb.cell (j:=2) rfl;refine bodyPost_ret (v:=.tuple #[.agg #[.int .u8 3,.int .i64 0,.int .i64 0],.int .i64 0]) (by simp [results,Tryz.results30,go_sem,x0,x1,x2]) rfl ⟨by rw [Hres.out.1,Hres.out.2.1,Hres.out.2.2.1,Hres.out.2.2.2],hXe⟩
end
section
open Go.RowKit Go.Proofs Go.Shelf
theorem subAssigns8 (ga:Option Addr) (gn gc:Nat) (g:List Ty) (ra:Option Addr) (rn rc:Nat) (rs:List Reveal) (a b:Int) (s:BA) (w:World) (hg:Graph w (.slice ga gn gc) g) (hre:Reveals w (.slice ra rn rc) rs) (hx:I64 a) (hy:I64 b) :
  Calls Tryz.prog 8 #[.slice ga gn gc,.slice ra rn rc,.int .i64 a,.int .i64 b,.string s] w (Holds w):=by
 have Hg:=dh hg;have Hre:=dh hre;have Hx:=dh hx;have Hy:=dh hy;clear hg hre hx hy
 go_enter Tryz.func8,Tryz.ntmps8
 go_wp2_with fail;refine (little13 _ _ _ g w Hg.out).mono ?_;rintro e w1 ⟨bl,rfl,hE,hl⟩;have HE:=dh hE;clear hE hl;cases bl
 ·go_wp2_with fail;refine (ordered15 _).mono ?_;rintro e wN ⟨rfl,hE⟩;have HE:=dh (HE.out.trans hE);clear hE;go_wp2_with fail;go_ret;exact ⟨rfl,HE.out⟩
 go_wp2_with fail;refine (few14 _ _ _ rs w1 (Reveals.mono HE.out Hre.out)).mono ?_;rintro e w2 ⟨bf,rfl,hE,hf⟩;have HE:=dh (HE.out.trans hE);clear hE hf;cases bf
 ·go_wp2_with fail;refine (ordered15 _).mono ?_;rintro e wN ⟨rfl,hE⟩;have HE:=dh (HE.out.trans hE);clear hE;go_wp2_with fail;go_ret;exact ⟨rfl,HE.out⟩
 rcases Nat.lt_or_ge 40 s.size with h40 | h40
 ·go_wp2_with fail;refine (ordered15 _).mono ?_;rintro e wN ⟨rfl,hE⟩;have HE:=dh (HE.out.trans hE);clear hE;go_wp2_with fail;go_ret;exact ⟨rfl,HE.out⟩
 have Hs:=dh (show s.size<=140737488351232 by omega);go_wp2_with fail;refine (both16 _ _ _ g _ _ _ rs w2 (Graph.mono HE.out Hg.out) (Reveals.mono HE.out Hre.out)).mono ?_;rintro e w3 ⟨hE,(⟨h0,vb,vr,rfl,hA,hG⟩ | ⟨h0,rfl⟩)⟩;rotate_left
 ·have HE:=dh (HE.out.trans hE);clear hE h0 h40;go_wp2_with fail;refine (ordered15 _).mono ?_;rintro e wN ⟨rfl,hE⟩;have HE:=dh (HE.out.trans hE);clear hE;go_wp2_with fail;go_ret;exact ⟨rfl,HE.out⟩
 have HE:=dh (HE.out.trans hE);have HA:=dh hA;have HG:=dh hG;clear hE hA hG h0 h40;go_wp2_with fail;refine (assignA HA.out a b Hx.out Hy.out).mono ?_;rintro e w4 ⟨rfl,hE⟩;have HB1:=dh (show AsBox (w4.alloc (.cells #[.int .u8 (assignQ g rs a b).1,.int .i64 (assignQ g rs a b).2.1,.int .i64 (assignQ g rs a b).2.2.1] 56)) w4.heap.size _ _ _ from heap_alloc_new _ _);have hE2:=hE.trans (Ext.alloc w4 (.cells #[.int .u8 (assignQ g rs a b).1,.int .i64 (assignQ g rs a b).2.1,.int .i64 (assignQ g rs a b).2.2.1] 56));have HE:=dh (HE.out.trans hE2);have HA:=dh (HA.out.mono hE2);have HG:=dh (HG.out.mono hE2);clear hE hE2;go_wp2_with fail;refine (assignG HG.out a b Hx.out Hy.out).mono ?_;rintro e w5 ⟨rfl,hE⟩;have HB2:=dh (show AsBox (w5.alloc (.cells #[.int .u8 (assignQ g rs a b).1,.int .i64 (assignQ g rs a b).2.1,.int .i64 (assignQ g rs a b).2.2.1] 56)) w5.heap.size _ _ _ from heap_alloc_new _ _);have hE2:=hE.trans (Ext.alloc w5 (.cells #[.int .u8 (assignQ g rs a b).1,.int .i64 (assignQ g rs a b).2.1,.int .i64 (assignQ g rs a b).2.2.1] 56));have HE:=dh (HE.out.trans hE2);have HA:=dh (HA.out.mono hE2);have HG:=dh (HG.out.mono hE2);have HB1:=dh (HB1.out.ext hE2);clear hE hE2;go_wp2_with fail;refine (lineA HA.out a Hx.out).mono ?_;rintro e w6 ⟨pa,pn,pc,rfl,hp,hE⟩;have HE:=dh (HE.out.trans hE);have HA:=dh (HA.out.mono hE);have HB1:=dh (HB1.out.ext hE);have HB2:=dh (HB2.out.ext hE);have HG:=dh (HG.out.mono hE);have Hp:=dh hp;clear hE hp;go_wp2_with fail;refine (lineG HG.out a Hx.out).mono ?_;rintro e w7 ⟨qa,qn,qc,rfl,hp,hE⟩;have HE:=dh (HE.out.trans hE);have HA:=dh (HA.out.mono hE);have HB1:=dh (HB1.out.ext hE);have HB2:=dh (HB2.out.ext hE);have HG:=dh (HG.out.mono hE);have Hp:=dh (Ints.mono hE Hp.out);have Hq:=dh hp;clear hE hp;go_wp2_with fail;refine (fieldA HA.out a Hx.out s Hs.out).mono ?_;rintro e w8 ⟨rfl,hE⟩;have HE:=dh (HE.out.trans hE);have HA:=dh (HA.out.mono hE);have HB1:=dh (HB1.out.ext hE);have HB2:=dh (HB2.out.ext hE);have HG:=dh (HG.out.mono hE);have Hp:=dh (Ints.mono hE Hp.out);have Hq:=dh (Ints.mono hE Hq.out);clear hE;go_wp2_with fail;refine (fieldG HG.out a Hx.out s Hs.out).mono ?_;rintro e w9 ⟨rfl,hE⟩;have HE:=dh (HE.out.trans hE);have HA:=dh (HA.out.mono hE);have HB1:=dh (HB1.out.ext hE);have HB2:=dh (HB2.out.ext hE);have HG:=dh (HG.out.mono hE);have Hp:=dh (Ints.mono hE Hp.out);have Hq:=dh (Ints.mono hE Hq.out);clear hE;go_wp2_with fail;refine (methodA HA.out a Hx.out s Hs.out).mono ?_;rintro e w10 ⟨rfl,hE⟩;have HE:=dh (HE.out.trans hE);have HA:=dh (HA.out.mono hE);have HB1:=dh (HB1.out.ext hE);have HB2:=dh (HB2.out.ext hE);have HG:=dh (HG.out.mono hE);have Hp:=dh (Ints.mono hE Hp.out);have Hq:=dh (Ints.mono hE Hq.out);clear hE;go_wp2_with fail;refine (methodG HG.out a Hx.out s Hs.out).mono ?_;rintro e w11 ⟨rfl,hE⟩;have HE:=dh (HE.out.trans hE);have HA:=dh (HA.out.mono hE);have HB1:=dh (HB1.out.ext hE);have HB2:=dh (HB2.out.ext hE);have HG:=dh (HG.out.mono hE);have Hp:=dh (Ints.mono hE Hp.out);have Hq:=dh (Ints.mono hE Hq.out);clear hE;clear HA HG;generalize (assignQ g rs a b).1=x1 at HB1 HB2 ⊢;generalize (assignQ g rs a b).2.1=x2 at HB1 HB2 ⊢;generalize (assignQ g rs a b).2.2.1=x3 at HB1 HB2 ⊢;generalize (assignQ g rs a b).2.2.2=x4;generalize askedR g.length [a]=x5;generalize (fieldQ g rs a s).1=x6;generalize (fieldQ g rs a s).2.1=x7;generalize (fieldQ g rs a s).2.2=x8;generalize (methodQ g rs a s).1=x9;generalize (methodQ g rs a s).2.1=x10;generalize (methodQ g rs a s).2.2=x11;have i1:(x1==x1)=true:=by simp
 have i2:(x2==x2)=true:=by simp
 have i3:(x3==x3)=true:=by simp
 have i4:(x4==x4)=true:=by simp
 have i5:(x5==x5)=true:=by simp
 have i6:(x6==x6)=true:=by simp
 have i7:(x7==x7)=true:=by simp
 have i8:(x8==x8)=true:=by simp
 have i9:(x9==x9)=true:=by simp
 have i10:(x10==x10)=true:=by simp
 have i11:(x11==x11)=true:=by simp
 go_wp2_with fail;refine (ordered15 _).mono ?_;rintro e w12 ⟨rfl,hE⟩;have HB1:=dh (HB1.out.ext hE);have HB2:=dh (HB2.out.ext hE);have e0:=HB1.out.cell (j:=0) rfl;have e1:=HB1.out.cell (j:=1) rfl;have e2:=HB1.out.cell (j:=2) rfl;have y0:=HB2.out.cell (j:=0) rfl;have y1:=HB2.out.cell (j:=1) rfl;have y2:=HB2.out.cell (j:=2) rfl;have HE:=dh (HE.out.trans hE);have Hp:=dh (Ints.mono hE Hp.out);have Hq:=dh (Ints.mono hE Hq.out);clear hE;go_wp2_with fail
 trace_state
 refine (sameInts23 _ _ _ _ _ _ _ _ _ Hp.out Hq.out).mono ?_;rintro e w13 ⟨rfl,hE⟩;have HE:=dh (HE.out.trans hE);clear hE Hp Hq;rw [decide_eq_true rfl];go_wp2_with fail;go_ret;exact ⟨rfl,HE.out⟩
end
section
open Go.ChangeShapes Go.WideShapes Go.ChangeAt Go.RowKit Go.Proofs
open Go.ChangeMaps (open_string shut_string)
theorem subAssigns_lifted (os:Os) (started:os.Started) (H:Type) (enc:TypeId × Value->H) :
  ReturnsInHanded {} Tryz.checked os 8 .any (Rows.subAssignsSpec.pre6 enc Tryz.prog Tryz.f8 Rows.subAssignsRow.domain false) (Rows.subAssignsSpec.post enc Tryz.prog Tryz.f8 false true false false):=by
 refine returnsInHanded_of_change_sized (C:=Tryz.checked) own started (by kernel_rfl) Tryz.func8
  (ChangeSpec.witness6 (enc:=enc) (C:=Tryz.checked) false ⟨#[],#[.slice none 0 0,.slice none 0 0,.int .i64 0,.int .i64 0,.string ⟨#[]⟩],[]⟩ 8 (by kernel_rfl) (by kernel_rfl) (by kernel_rfl) (by kernel_rfl)) ?_
 intro W base args ds gs before hval0 hW hcnd hsz _;have hval:∀ (j:Nat) t v,Tryz.f8.params[j]? = some t->args[j]? = some v->Value.okWide Tryz.prog W .any base t v:=hval0;have hW':=hW;obtain ⟨p,q,hA0,hV,rfl,hfz,hnd⟩:=hW;have hA:DataW.TrodAll enc Tryz.prog W 0 (fun _=>true) true Tryz.f8.params.toList args.toList ds p:=hA0;have hfit:∀ (j:Nat) (t:TypeId) (d:DataW H),Tryz.f8.params.toList[j]? = some t->ds[j]? = some d->Fits Tryz.prog t d:=fun j t d ht hd=>by
  refine fits_each (ts:=Tryz.f8.params.toList++Rows.subAssignsSpec.plain.varTypes Tryz.prog) (ds:=ds++gs) (fun m hm=>of_decide_eq_true (List.all_eq_true.1 hsz m hm)) (j:=j) ?_ ?_
  ·rw [List.getElem?_append_left (List.getElem?_eq_some_iff.1 ht).1]; exact ht
  ·rw [List.getElem?_append_left (List.getElem?_eq_some_iff.1 hd).1]; exact hd
 rw [Tryz.params8] at hA hval hfit;obtain ⟨v0,vs0,d0,ds0,p0,q0,hargs,rfl,rfl,h0,r0⟩:=trodAll_cons hA;obtain ⟨v1,vs1,d1,ds1,p1,q1,rfl,rfl,rfl,h1,r1⟩:=trodAll_cons r0;obtain ⟨v2,vs2,d2,ds2,p2,q2,rfl,rfl,rfl,h2,r2⟩:=trodAll_cons r1;obtain ⟨v3,vs3,d3,ds3,p3,q3,rfl,rfl,rfl,h3,r3⟩:=trodAll_cons r2;obtain ⟨v4,vs4,d4,ds4,p4,q4,rfl,rfl,rfl,h4,r4⟩:=trodAll_cons r3;obtain ⟨rfl,rfl,rfl⟩:=trodAll_nil r4;obtain rfl:args=#[v0,v1,v2,v3,v4]:=by cases args; simp_all
 obtain ⟨rfl,rfl⟩:=trodVars_none hV;obtain ⟨a0,n0,c0,g0,rfl,w0⟩:=arg_graph (hval 0 23 v0 rfl rfl) h0 (hfit 0 23 d0 rfl rfl);obtain ⟨a1,n1,c1,g1,rfl,w1⟩:=arg_reveals (hval 1 24 v1 rfl rfl) h1 (hfit 1 24 d1 rfl rfl);obtain ⟨a2,rfl,rfl,rfl,w2⟩:=open_int Tryz.underlying3 (hval 2 3 v2 rfl rfl) h2;obtain ⟨a3,rfl,rfl,rfl,w3⟩:=open_int Tryz.underlying3 (hval 3 3 v3 rfl rfl) h3;have f4:=hfit 4 9 d4 rfl rfl;obtain ⟨a4,rfl,rfl,rfl,w4⟩:=open_string Tryz.underlying9 (hval 4 9 v4 rfl rfl) h4;clear hA0 hval0 hsz;refine (subAssigns8 a0 n0 c0 g0 a1 n1 c1 g1 a2 a3 a4 W w0 w1 (wf_i64 w2) (wf_i64 w3)).mono fun e W' ⟨he,bel⟩=>?_;subst he;exact ⟨_,rfl,_,_,_,[],_,[],hW',trodAll_mk1 (shut_bool Tryz.underlying4 _),(trodAll_cons_mk (arg_below (by kernel_rfl) (of_decide_eq_true (by kernel_rfl)) h0 bel) (trodAll_cons_mk (arg_below (by kernel_rfl) (of_decide_eq_true (by kernel_rfl)) h1 bel) (trodAll_cons_mk (shut_int Tryz.underlying3 w2) (trodAll_cons_mk (shut_int Tryz.underlying3 w3) (trodAll_cons_mk (shut_string Tryz.underlying9 w4) trodAll_mk0))))),rfl,bel.frame _,fun h=>by cases h⟩
theorem subAssigns_over:Rows.subAssignsRow.holds Tryz.pinned (OpenSpec.ofChange Rows.subAssignsSpec) :=
 OpenClaim.holds_of_wide 8 Tryz.f8 rfl rfl rfl rfl rfl rfl rfl ⟨rfl,rfl,rfl,rfl,rfl⟩ rfl rfl rfl rfl rfl (by kernel_rfl) Tryz.func8 (by kernel_rfl)
  (of_decide_eq_true (by kernel_rfl)) (by unfold Func.isWrapper; first | (rw [if_pos (by decide +kernel)]; kernel_rfl) | (rw [if_neg (by decide +kernel)]; exact ⟨rfl,rfl⟩))
  (fun os started H enc _=>subAssigns_lifted os started H enc)
theorem subAssigns_holds:Rows.SubAssignsSaid:=subAssigns_over
#print axioms subAssigns_holds
end
section
open Go.RowKit Go.Proofs Go.Shelf
def Agree (base:Nat) (W W':World):Prop:=∀ j,base<=j->j<W.heap.size->W'.heap[j]? = W.heap[j]?
theorem Agree.pre {base:Nat} {W W1 W':World} (hE:Ext W W1) (h:Agree base W1 W'):Agree base W W':=fun j hj hl =>
 (h j hj (Nat.lt_of_lt_of_le hl hE.size)).trans (hE.block j hl)
theorem EnvI.fresh {w w1 W W':World} {vb:Nat} {g:List Ty} {rs:List Reveal} {gv cv rv:Value} {mb:Nat} {m:List (BA × Value)} {av:Value} {k:Nat} (hO:EnvO w w1 vb g rs gv cv rv mb m) (h:EnvI w1 W vb g rs gv cv rv mb av k) (hk:k<=400)
  (hW:Agree w.heap.size W W'):EnvW W' vb g (classesOf g) rs (reachL g rs k) gv cv rv av/\ByAt W' vb rs mb m:=by
 have hf:∀ B:Nat,∀ j,some vb=some j->fromB1 B vb j=false:=fun B j e=>by cases e; simp [fromB1]
 have heq:CellLe (only W (fromB1 w.heap.size vb)) W':=fun a v hc=>by
  obtain ⟨h1,h2⟩:=only_cell hc;unfold fromB1 at h2;simp only [Bool.and_eq_true,decide_eq_true_eq] at h2;exact (World.cell?_of_block (w:=W) (w':=W') (hW a.block h2.1 (cell_lt h1))).trans h1
 have le1:CellLe (only w1 (fromB1 w.heap.size vb)) W':=(only_grown h.gr (hf _)).trans heq;have hs:w.heap.size<=w1.heap.size:=hO.ext.size;have hrow:W'.heap[vb]? = some (.cells #[gv,cv,rv,.map (some mb),av] 103 (0,0)):=(hW vb hO.base (row_lt h.row)).trans h.row;have hown:W'.ownsRow w1.heap.size 97 7 av k (reachC g rs k):=by
  refine ⟨h.own.1,?_⟩;rcases h.own.2 with hn | ⟨q,cap,cur,e,hb,hq,rest⟩
  ·exact .inl hn
  ·exact .inr ⟨q,cap,cur,e,hb,(hW q (Nat.le_trans hs hb) (Array.getElem?_eq_some_iff.1 hq).1).trans hq,rest⟩
 exact ⟨⟨row_cell hrow rfl,row_cell hrow rfl,row_cell hrow rfl,row_cell hrow rfl,Graph.le le1 hO.gr,Ints.le le1 hO.cl,Reveals.le le1 hO.re,bits_owns hown hk⟩,
  ⟨row_cell hrow rfl,hO.at_.same ((hW mb hO.mbase (Nat.lt_of_lt_of_le hO.at_.lt h.gr.size)).trans (h.gr.block mb hO.at_.lt (fun e=>hO.mne (Option.some.inj e)))),fun name=>Ints.le le1 (hO.rows name)⟩⟩
def EnvM (base:Nat) (W:World) (vb:Nat) (g:List Ty) (rs:List Reveal):Prop:=∀ W',Agree base W W'->EnvA W' vb g rs
theorem EnvM.env {base:Nat} {W:World} {vb:Nat} {g:List Ty} {rs:List Reveal} (h:EnvM base W vb g rs):EnvA W vb g rs:=h W fun _ _ _=>rfl
theorem EnvM.mono {base:Nat} {W W1:World} {vb:Nat} {g:List Ty} {rs:List Reveal} (h:EnvM base W vb g rs) (hE:Ext W W1):EnvM base W1 vb g rs:=fun W' hW=>h W' (hW.pre hE)
def InMPost (w:World) (g:List Ty) (rs:List Reveal) (e:Ending) (w':World):Prop :=
 Ext w w'/\((openE g rs=0/\∃ vb,e=.returned (.tuple #[.pointer (some ⟨vb,0,none⟩),.int .i64 0])/\EnvM w.heap.size w' vb g rs) \/
  (openE g rs≠0/\e=.returned (.tuple #[.pointer none,.int .i64 (openE g rs)])))
theorem inM (a:Option Addr) (n c:Nat) (g:List Ty) (ra:Option Addr) (rn rc:Nat) (rs:List Reveal) (w:World) (hg:Graph w (.slice a n c) g) (hre:Reveals w (.slice ra rn rc) rs) :
  Calls Tryz.prog 24 #[.slice a n c,.slice ra rn rc] w (InMPost w g rs):=by
 refine (in24 a n c g ra rn rc rs w hg hre).mono ?_;rintro e w' (⟨h0,vb,gv,cv,rv,mb,m,w1,av,rfl,hO,hI⟩ | ⟨h0,rfl,hE⟩)
 ·obtain ⟨_,h400,_,_,_⟩:=opens h0;obtain ⟨_,_,hE⟩:=hI.env hO h400;exact ⟨hE,Or.inl ⟨h0,vb,rfl,fun W' hW=>by
   obtain ⟨h1,h2⟩:=hI.fresh hO h400 hW;exact ⟨h0,gv,cv,rv,av,mb,m,h1,h2⟩⟩⟩
 ·exact ⟨hE,Or.inr ⟨h0,rfl⟩⟩
def NewPost (W:World) (xs:List Int) (err:Int) (e:Ending) (w':World):Prop:=∃ x n c,e=.returned (.tuple #[.slice x n c,.int .i64 err])/\Ints w' (.slice x n c) xs/\Ext W w'/\NewRow W w' (.slice x n c) xs
theorem new_none (W w':World):NewRow W w' (.slice none 0 0) []:=⟨_,Nat.le_refl _,World.ownsRow_nil _ _ _ _⟩
section
variable {W:World} {vb:Nat} {g:List Ty} {rs:List Reveal}
theorem aboveM (h:EnvA W vb g rs) (a:Int) (hx:I64 a):Calls Tryz.prog 19 #[.pointer (some ⟨vb,0,none⟩),.int .i64 a] W (NewPost W (aboveQ g rs a) (askedR g.length [a])):=by
 obtain ⟨h0,gv,cv,rv,av,mb,mm,h1,h2⟩:=h;obtain ⟨_,h400,h60,hr,hbad⟩:=opens h0;refine (above19 vb g _ rs _ gv cv rv av h400 (reachL_len g rs _) a W h1 hx).mono ?_;rintro e w' (⟨k,v,rfl,hi,hE,hn⟩ | ⟨k,rfl,hE⟩)
 ·obtain ⟨x,c,rfl,_⟩:=id hi;exact ⟨x,_,c,by rw [k],by unfold aboveQ; rw [if_pos k]; exact hi,hE,by unfold aboveQ; rw [if_pos k]; exact hn⟩
 ·exact ⟨_,_,_,by rw [k],by unfold aboveQ; rw [if_neg (by rw [k]; decide)]; exact SlW.nil _ _ _,hE,by unfold aboveQ; rw [if_neg (by rw [k]; decide)]; exact new_none _ _⟩
theorem lineM (h:EnvA W vb g rs) (a:Int) (hx:I64 a):Calls Tryz.prog 26 #[.pointer (some ⟨vb,0,none⟩),.int .i64 a] W (NewPost W (lineQ g rs a) (askedR g.length [a])):=by
 obtain ⟨h0,gv,cv,rv,av,mb,mm,h1,h2⟩:=h;obtain ⟨_,h400,h60,hr,hbad⟩:=opens h0;refine (line26 vb g _ rs _ gv cv rv av mb mm W h1 h2 h400 h60 hr (fun i hi=>rev_in (hbad i hi)) a hx).mono ?_;rintro e w' (⟨k,v,rfl,hi,hE,hn⟩ | ⟨k,rfl,hE⟩)
 ·obtain ⟨x,c,rfl,_⟩:=id hi;exact ⟨x,_,c,by rw [k],by unfold lineQ; rw [if_pos k]; exact hi,hE,by unfold lineQ; rw [if_pos k]; exact hn⟩
 ·exact ⟨_,_,_,by rw [k],by unfold lineQ; rw [if_neg (by rw [k]; decide)]; exact SlW.nil _ _ _,hE,by unfold lineQ; rw [if_neg (by rw [k]; decide)]; exact new_none _ _⟩
end
theorem EnvT.keep {W W':World} {vb:Nat} {g:List Ty} {rs:List Reveal} {C:Nat->Nat} {D:Nat->Nat->Int} {ga ra:Option Addr} {gc rc:Nat} {o l:Nat} (h:EnvT W vb g rs C D ga gc ra rc)
  (ho:∃ cur,W.heap[o]? = some (.cells cur 50 (0,0))) (hl:∃ cur,W.heap[l]? = some (.cells cur 43 (0,0))) (hW:∀ j,j≠o->j≠l->W'.heap[j]? = W.heap[j]?):EnvT W' vb g rs C D ga gc ra rc:=by
 obtain ⟨co,ho⟩:=ho;obtain ⟨cl,hl⟩:=hl;have key:∀ (j:Nat) (x:Array Value) (T:TypeId),T≠50->T≠43->W.heap[j]? = some (.cells x T (0,0))->W'.heap[j]? = some (.cells x T (0,0)):=fun j x T h1 h2 h=>(hW j (ne_type h ho h1) (ne_type h hl h2)).trans h;obtain ⟨r,fv,fbs,B,henv,hcls,hown,hlen,hrows⟩:=h;refine ⟨r,fv,fbs,B,key _ _ _ (by decide) (by decide) henv,key _ _ _ (by decide) (by decide) hcls,?_,hlen,fun i hi=>key _ _ _ (by decide) (by decide) (hrows i hi)⟩;obtain ⟨css,a1,a2,a3,a4⟩:=hown;refine ⟨css,a1,a2,a3,a4.1,?_⟩;rcases a4.2 with hn | ⟨q,cap,cur,e,hb,hq,rest⟩
 ·exact .inl hn
 ·exact .inr ⟨q,cap,cur,e,hb,key _ _ _ (by decide) (by decide) hq,rest⟩
end
section
open Go.RowKit Go.Proofs Go.Shelf
end
section
open Go.RowKit Go.Proofs Go.Shelf
end
end Go.Proofs.YtjffkeoajkhbmaaGreat
