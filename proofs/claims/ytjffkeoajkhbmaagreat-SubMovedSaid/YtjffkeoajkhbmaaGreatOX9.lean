/- types.classes, walked. -/
import Derived.Deep.LoopGhost
import Derived.Test.YtjffkeoajkhbmaaGreatOX8
namespace Go.Proofs.YtjffkeoajkhbmaaGreat
set_option linter.unusedSimpArgs false
set_option linter.unusedVariables false
set_option maxRecDepth 100000
set_option maxHeartbeats 8000000
open Go.RowKit Go.Proofs
def upTo (k:Nat) (F:Nat->Nat) (i:Nat):Int:=if i<k then (F i:Int) else 0
structure CS (w wr:World) (gv:Value) (b1 b3 r n:Nat) (F:Nat->Int):Prop where
 ext:Ext w wr
 g1:wr.cell? ⟨b1,0,none⟩=some gv
 c3:wr.cell? ⟨b3,0,none⟩=some (.slice (some ⟨r,0,none⟩) n n)
 f3:wr.frozen? ⟨b3,0,none⟩=false
 row:RowI wr r n F
 n1:r≠b1
 n3:r≠b3
 n13:b1≠b3
 lo:w.heap.size<=r
 lo3:w.heap.size<=b3
theorem CS.mono {w wr w2:World} {gv:Value} {b1 b3 r n:Nat} {F:Nat->Int} (h:CS w wr gv b1 b3 r n F) (hE:Ext wr w2):CS w w2 gv b1 b3 r n F :=
 ⟨h.ext.trans hE,hE.cell h.g1,hE.cell h.c3,(Below.frozen hE (p:=⟨b3,0,none⟩) (cell_lt h.c3)).trans h.f3,h.row.ext hE,h.n1,h.n3,h.n13,h.lo,h.lo3⟩
theorem cell_setCell_other {w:World} {a p:Addr} {v u:Value} (h:w.cell? a=some u) (hn:a.block≠p.block):(w.setCell p v).cell? a=some u:=by
 unfold World.cell? at h ⊢;rw [Below.heap_setCell w p v a.block (fun e=>hn e)];exact h
theorem frozen_setCell_other {w:World} {a p:Addr} {v:Value} {b:Bool} (h:w.frozen? a=b):(w.setCell p v).frozen? a=b:=by
 rw [World.frozen?_setCell]; exact h
theorem CS.store {w wr:World} {gv:Value} {b1 b3 r n:Nat} {F:Nat->Int} (h:CS w wr gv b1 b3 r n F) (i:Nat) (v:Int):CS w (wr.setCell ⟨r,i,none⟩ (.int .i64 v)) gv b1 b3 r n (fun j=>if j=i then v else F j) :=
 ⟨Below.setCell h.ext h.lo _,cell_setCell_other h.g1 (Ne.symm h.n1),cell_setCell_other h.c3 (Ne.symm h.n3),frozen_setCell_other h.f3,h.row.set i v,h.n1,h.n3,h.n13,h.lo,h.lo3⟩
theorem CS.congr {w wr:World} {gv:Value} {b1 b3 r n:Nat} {F G:Nat->Int} (h:CS w wr gv b1 b3 r n F) (hF:∀ i,i<n->F i=G i):CS w wr gv b1 b3 r n G :=
 ⟨h.ext,h.g1,h.c3,h.f3,h.row.congr hF,h.n1,h.n3,h.n13,h.lo,h.lo3⟩
theorem CS.other {w wr:World} {gv:Value} {b1 b3 r n:Nat} {F:Nat->Int} (h:CS w wr gv b1 b3 r n F) {p:Addr} (v:Value) (h1:p.block≠b1) (h3:p.block≠b3) (hr:p.block≠r) (lo:w.heap.size<=p.block):CS w (wr.setCell p v) gv b1 b3 r n F :=
 ⟨Below.setCell h.ext lo _,cell_setCell_other h.g1 (Ne.symm h1),cell_setCell_other h.c3 (Ne.symm h3),frozen_setCell_other h.f3,(Below.heap_setCell _ _ _ _ (Ne.symm hr)).trans h.row,h.n1,h.n3,h.n13,h.lo,h.lo3⟩
structure NS (w wr:World) (gv:Value) (b1 b3 r r2 n:Nat) (F F2:Nat->Int):Prop where
 cs:CS w wr gv b1 b3 r n F
 row2:RowI wr r2 n F2
 m1:r2≠b1
 m3:r2≠b3
 mr:r2≠r
 lo2:w.heap.size<=r2
theorem NS.mono {w wr w2:World} {gv:Value} {b1 b3 r r2 n:Nat} {F F2:Nat->Int} (h:NS w wr gv b1 b3 r r2 n F F2) (hE:Ext wr w2):NS w w2 gv b1 b3 r r2 n F F2 :=
 ⟨h.cs.mono hE,h.row2.ext hE,h.m1,h.m3,h.mr,h.lo2⟩
theorem NS.store {w wr:World} {gv:Value} {b1 b3 r r2 n:Nat} {F F2:Nat->Int} (h:NS w wr gv b1 b3 r r2 n F F2) (i:Nat) (v:Int):NS w (wr.setCell ⟨r2,i,none⟩ (.int .i64 v)) gv b1 b3 r r2 n F (fun j=>if j=i then v else F2 j) :=
 ⟨h.cs.other _ h.m1 h.m3 h.mr h.lo2,h.row2.set i v,h.m1,h.m3,h.mr,h.lo2⟩
theorem NS.congr {w wr:World} {gv:Value} {b1 b3 r r2 n:Nat} {F F2 G2:Nat->Int} (h:NS w wr gv b1 b3 r r2 n F F2) (hF:∀ i,i<n->F2 i=G2 i):NS w wr gv b1 b3 r r2 n F G2 :=
 ⟨h.cs,h.row2.congr hF,h.m1,h.m3,h.mr,h.lo2⟩
theorem NS.new {w wr:World} {gv:Value} {b1 b3 r n:Nat} {F:Nat->Int} (h:CS w wr gv b1 b3 r n F):NS w (wr.alloc (.cells (madeCells #[.int .i64 0] n) 3)) gv b1 b3 r wr.heap.size n F (fun _=>0) :=
 ⟨h.mono (Ext.alloc _ _),RowI.make _ _,by have:=cell_lt h.g1; simp at this; omega,by have:=cell_lt h.c3; simp at this; omega,by have:=h.row.lt; omega,h.ext.size⟩
theorem NS.swap {w wr:World} {gv:Value} {b1 b3 r r2 n:Nat} {F F2:Nat->Int} (h:NS w wr gv b1 b3 r r2 n F F2):CS w (wr.setCell ⟨b3,0,none⟩ (.slice (some ⟨r2,0,none⟩) n n)) gv b1 b3 r2 n F2 :=
 ⟨Below.setCell h.cs.ext h.cs.lo3 _,cell_setCell_other h.cs.g1 h.cs.n13,World.cell?_setCell_same' _ _ _ (by rw [h.cs.c3]; rfl),frozen_setCell_other h.cs.f3,(Below.heap_setCell _ _ _ _ h.m3).trans h.row2,h.m1,h.m3,h.cs.n13,h.lo2,h.cs.lo3⟩
theorem isFix_any (g:List Ty) (m:Nat):isFix g m=!((List.range g.length).any fun i=>classIter g (m+1) i != classIter g m i):=by
 unfold isFix;rw [List.not_any_eq_all_not];simp only [bne,Bool.not_not]
theorem any_succ (p:Nat->Bool) (i:Nat):(List.range (i+1)).any p=((List.range i).any p||p i):=by
 rw [List.range_succ,List.any_append,List.any_cons,List.any_nil,Bool.or_false]
theorem step_eq (g:List Ty) (m i:Nat):classIter g (m+1) i=lead i fun k=>classIter g (m+1) k==k&&(classIter g m k==classIter g m i&&stepQ g (classIter g m) i k):=leadF_eq _ i
theorem class0_eq (g:List Ty) (i:Nat):class0 g i=lead i fun k=>class0 g k==k&&agreeB (nth g i) (nth g k):=leadF_eq _ i
theorem turnedClass (F:FuncId) (hF:Enters Tryz.prog F) (b3 r n:Nat) (C:Nat->Nat) (hC:Leading C) (hn:n<=400)
  (hcl:∀ (i:Nat) (w:World),w.cell? ⟨b3,0,none⟩=some (.slice (some ⟨r,0,none⟩) n n)->Ints w (.slice (some ⟨r,0,none⟩) n n) ((List.range n).map fun i=>(C i:Int))->i<n ->
   Calls Tryz.prog F #[.int .i64 i,.pointer (some ⟨b3,0,none⟩)] w fun e w'=>e=.returned (.int .i64 (nth ((List.range n).map fun i=>(C i:Int)) i))/\Ext w w')
  (v:Value) (xs:List Int) (w:World) (hv:Ints w v xs) (hin:∀ y,y∈xs->0<=y/\y<n) (c3:w.cell? ⟨b3,0,none⟩=some (.slice (some ⟨r,0,none⟩) n n)) (row:RowI w r n (fun i=>(C i:Int))) :
  Calls Tryz.prog 78 #[v,.func (.func F) #[] #[.pointer (some ⟨b3,0,none⟩)]] w fun e w'=>∃ v',e=.returned v'/\Ints w' v' (xs.map fun y=>(C y.toNat:Int))/\Ext w w':=by
 have hci:Ints w (.slice (some ⟨r,0,none⟩) n n) ((List.range n).map fun i=>(C i:Int)):=row.ints (by unfold maxBytes; omega) (fun i hi=>by have:=(hC i).1; omega);have hv':=hv;obtain ⟨a,c,rfl,_,hbytes,_⟩:=hv;refine (turned78 F hF #[.pointer (some ⟨b3,0,none⟩)] a _ c xs (fun k=>(C (nth xs k).toNat:Int)) w hv' (fun k w1 hk hE=>?_)).mono ?_
 ·have hx:=hin _ (nth_mem hk);have hxk:nth xs k=(((nth xs k).toNat:Nat):Int):=(Int.toNat_of_nonneg hx.1).symm;rw [hxk];refine (hcl (nth xs k).toNat w1 (hE.cell c3) (Ints.mono hE hci) (by omega)).mono ?_;rintro e w2 ⟨rfl,hE2⟩;refine ⟨?_,hE2⟩;rw [nth_eq (by simp; omega)];simp [Int.max_eq_left hx.1]
 ·rintro e w2 ⟨v',rfl,hown,hE⟩;refine ⟨v',rfl,?_,hE⟩;have hm:((List.range xs.length).map fun k=>Value.int .i64 (C (nth xs k).toNat:Int))=(xs.map fun y=>(C y.toNat:Int)).map (Value.int .i64):=by
   conv=>rhs; rw [<- range_map_nth xs]
   simp [List.map_map,Function.comp_def]
  rw [hm] at hown;refine owns_ints hown (by simpa using hbytes) (fun y hy=>?_);rw [List.mem_map] at hy;obtain ⟨z,hz,rfl⟩:=hy;have h1:=hin z hz;have h2:=(hC z.toNat).1;omega
theorem classes70 (a:Option Addr) (n c:Nat) (g:List Ty) (w:World) (hg:Graph w (.slice a n c) g) (hr:∀ i,i<n->rightB g (nth g i)=true) (h400:n<=400) :
  Calls Tryz.prog 70 #[.agg #[.slice a n c]] w fun e w'=>∃ r,e=.returned (.slice (some ⟨r,0,none⟩) n n)/\RowI w' r n (fun i=>(classesOf g i:Int))/\Ext w w'/\w.heap.size<=r:=by
 have hb:=(SlW.bound hg).2;obtain rfl:=SlW.len hg;have hmk:=makeInts g.length (by omega);have Hg:=dh hg; clear hg;have Hr:=dh hr; clear hr
 go_enter Tryz.func70,Tryz.ntmps70
 go_upto_region 3 with (fail);have h0:CS w (((w.alloc (.cells #[.slice a g.length c] 118)).alloc (.cells (madeCells #[.int .i64 0] g.length) 3)).alloc (.cells #[.slice (some ⟨w.heap.size+1,0,none⟩) g.length g.length] 35))
   (.slice a g.length c) w.heap.size (w.heap.size+1+1) (w.heap.size+1) g.length (fun _=>0) :=
  ⟨by (repeat (first | exact Ext.refl _ | (refine Ext.trans ?_ (Hid.out (by assumption))) | (refine Ext.trans ?_ (Ext.alloc _ _)) | (refine Ext.trans ?_ (Ext.drew _)) | (refine below_drewN ?_ _))),(Ext.alloc _ _).cell ((Ext.alloc _ _).cell (cell_new1 _ _ _)),by have:=cell_new1 ((w.alloc (.cells #[.slice a g.length c] 118)).alloc (.cells (madeCells #[.int .i64 0] g.length) 3)) (.slice (some ⟨w.heap.size+1,0,none⟩) g.length g.length) 35; simpa using this,
   by have:=frozen_new ((w.alloc (.cells #[.slice a g.length c] 118)).alloc (.cells (madeCells #[.int .i64 0] g.length) 3)) #[.slice (some ⟨w.heap.size+1,0,none⟩) g.length g.length] 35 0; simpa using this,
   by have:=RowI.make (w.alloc (.cells #[.slice a g.length c] 118)) g.length; rw [World.size_alloc] at this; exact this.ext (Ext.alloc _ _),by omega,by omega,by omega,by omega,by omega⟩
 obtain ⟨W,hW⟩:∃ W:World,W=(((w.alloc (.cells #[.slice a g.length c] 118)).alloc (.cells (madeCells #[.int .i64 0] g.length) 3)).alloc (.cells #[.slice (some ⟨w.heap.size+1,0,none⟩) g.length g.length] 35)):=⟨_,rfl⟩;rw [<- hW] at h0 ⊢;clear hW;obtain ⟨b3,hb3⟩:∃ b,b=w.heap.size+1+1:=⟨_,rfl⟩;rw [<- hb3] at h0 ⊢;obtain ⟨r,hbr⟩:∃ b,b=w.heap.size+1:=⟨_,rfl⟩;rw [<- hbr] at h0 ⊢;obtain ⟨b1,hb1⟩:∃ b,b=w.heap.size:=⟨_,rfl⟩;have h1:CS w W (.slice a g.length c) b1 b3 r g.length (fun _=>0):=by rw [hb1]; exact h0
 rw [<- hb1];clear h0 hb1 hbr hb3;have Hmk:=dh hmk; clear hmk;have H1:=dh h1; clear h1;go_loopw [4,5,17] (fun _ _ i wr=>∃ k:Nat,k<=g.length/\i=.int .i64 k/\Hid (CS w wr (.slice a g.length c) b1 b3 r g.length (upTo k (class0 g)))) (fun _ _ i _=>g.length-(intOf i).toNat)
 case atStart=>exact ⟨0,Nat.zero_le _,rfl,H1.out.congr (fun i _=>by simp [upTo])⟩
 case round =>
  clear H1;obtain ⟨i,hi,rfl,H1⟩:=hrel;by_cases hlt:i<g.length
  ·have c3:=H1.out.c3;go_upto_region 6 with (fail);have hstep:=dh (show ∀ k,k<=i->class0 g i=k->∀ wx,CS w wx (.slice a g.length c) b1 b3 r g.length (upTo i (class0 g))->CS w (wx.setCell ⟨r,i,none⟩ (.int .i64 k)) (.slice a g.length c) b1 b3 r g.length (upTo (i+1) (class0 g)) from
    fun k _ he wx h=>(h.store i k).congr (fun j _=>by
     unfold upTo;by_cases hj:j=i
     ·subst hj; rw [if_pos rfl,if_pos (by omega),he]
     ·rw [if_neg hj];by_cases hj2:j<i
      ·rw [if_pos hj2,if_pos (by omega)]
      ·rw [if_neg hj2,if_neg (by omega)]))
   have hlead:=dh (class0_eq g i);go_loopw [5,22] (fun _ i2 wx=>∃ k:Nat,k<=i/\i2=.int .i64 k/\Hid (CS w wx (.slice a g.length c) b1 b3 r g.length (upTo i (class0 g))/\∀ j,j<k->(class0 g j==j&&agreeB (nth g i) (nth g j))=false)) (fun _ i2 _=>i+1-(intOf i2).toNat)
   case atStart=>exact ⟨0,Nat.zero_le _,rfl,H1.out,fun j hj=>absurd hj (Nat.not_lt_zero _)⟩
   case round =>
    clear H1 c3;obtain ⟨k,hk,rfl,hH⟩:=hrel;have H1:=dh hH.out.1;have Hno:=dh hH.out.2;clear hH;have c3:=H1.out.c3;have d1:=H1.out.g1;have di:wr.cell? ⟨r,i,none⟩=some (.int .i64 0):=by have:=H1.out.row.cell hlt; rw [this]; simp [upTo]
    have fi:=H1.out.row.free i;by_cases hki:k<i
    ·have hneb:((k:Int)==(i:Int))=false:=by rw [beq_eq_false_iff_ne]; omega
     have dk:wr.cell? ⟨r,k,none⟩=some (.int .i64 (class0 g k)):=by have:=H1.out.row.cell (show k<g.length by omega); rw [this]; simp [upTo,hki]
     have hCk:=leadF_le (fun i k=>agreeB (nth g i) (nth g k)) k;have hCk':class0 g k<=k:=hCk;clear hCk;by_cases hkk:class0 g k=k
     ·have hkb:((class0 g k:Int)==(k:Int))=true:=by rw [beq_iff_eq,hkk]
      have Hkk:=dh hkk; clear hkk;have hag:=dh (agree101 a g.length c g i k wr (Graph.mono H1.out.ext Hg.out) hlt (by omega));go_wp2_with fail;refine hag.out.mono ?_;rintro e w2 ⟨rfl,hE⟩;have H2:=dh (H1.out.mono hE);clear hE c3 d1 di fi dk hag;have c3:=H2.out.c3;have di:w2.cell? ⟨r,i,none⟩=some (.int .i64 0):=by have:=H2.out.row.cell hlt; rw [this]; simp [upTo]
      have fi:=H2.out.row.free i;cases hb:agreeB (nth g i) (nth g k)
      ·have hn:=dh (show (class0 g k==k&&agreeB (nth g i) (nth g k))=false by rw [hb,Bool.and_false]);clear hb;go_wp2_with fail;go_roundw
       case rel =>
        refine ⟨k+1,by omega,by go_num,H2.out,fun j hj=>?_⟩;by_cases hjk:j=k
        ·rw [hjk]; exact hn.out
        ·exact Hno.out j (by omega)
       case measure=>simp [intOf]; omega
      ·have H3:=dh (hstep.out k (by omega) (by rw [hlead.out]; exact lead_hit hki (by rw [Hkk.out,hb]; simp) Hno.out) w2 H2.out);clear hb;go_wp2_with fail;go_roundw
       case rel=>exact ⟨i+1,by omega,by go_num,H3.out⟩
       case measure=>simp [intOf]; omega
     ·have hkb:((class0 g k:Int)==(k:Int))=false:=by rw [beq_eq_false_iff_ne]; omega
      have hn:=dh (show (class0 g k==k&&agreeB (nth g i) (nth g k))=false by rw [beq_eq_false_iff_ne.2 hkk,Bool.false_and]);clear hkk;go_wp2_with fail;go_roundw
      case rel =>
       refine ⟨k+1,by omega,by go_num,H1.out,fun j hj=>?_⟩;by_cases hjk:j=k
       ·rw [hjk]; exact hn.out
       ·exact Hno.out j (by omega)
      case measure=>simp [intOf]; omega
    ·have hke:k=i:=by omega
     subst hke;have hki2:=dh hki; clear hki;have hself:=dh (show class0 g k=k by rw [hlead.out]; exact lead_self Hno.out);by_cases hk0:k=0
     ·subst hk0;have hag:=dh (agree101 a g.length c g 0 0 wr (Graph.mono H1.out.ext Hg.out) hlt hlt);go_wp2_with fail;refine hag.out.mono ?_;rintro e w2 ⟨rfl,hE⟩;have H2:=dh (H1.out.mono hE);have H3:=dh (hstep.out 0 (by omega) hself.out w2 H2.out);clear hE c3 d1 di fi hag;have c3:=H2.out.c3;have di:w2.cell? ⟨r,0,none⟩=some (.int .i64 0):=by have:=H2.out.row.cell hlt; rw [this]; simp [upTo]
      have fi:=H2.out.row.free 0;have h00:((0:Int)==0)=true:=rfl;cases hb:agreeB (nth g 0) (nth g 0)
      ·clear hb;go_wp2_with fail;go_roundw
       case rel=>exact ⟨1,by omega,by go_num,H3.out⟩
       case measure=>simp [intOf]; omega
      ·clear hb;go_wp2_with fail;go_roundw
       case rel=>exact ⟨1,by omega,by go_num,H3.out⟩
       case measure=>simp [intOf]; omega
     ·have hkb:((0:Int)==(k:Int))=false:=by rw [beq_eq_false_iff_ne]; omega
      have H3:=dh (hstep.out k (by omega) hself.out wr H1.out);go_wp2_with fail;go_roundw
      case rel=>exact ⟨k+1,by omega,by go_num,H3.out⟩
      case measure=>simp [intOf]; omega
  ·have:i=g.length:=by omega
   subst this;have H2:=dh (H1.out.congr (G:=fun i=>(class0 g i:Int)) (fun j hj=>by unfold upTo; rw [if_pos hj]));clear H1;have H3:Hid (∃ m,m<=leaders g.length (classIter g m)/\(∀ j,j<m->isFix g j=false)/\CS w wr (.slice a g.length c) b1 b3 r g.length (fun i=>(classIter g m i:Int))/\(if true then g.length-leaders g.length (classIter g m)<g.length+1 else isFix g m=true)) :=
    ⟨0,Nat.zero_le _,fun j hj=>absurd hj (Nat.not_lt_zero _),H2.out,by simp; omega⟩
   clear H2;go_upto_region 13 with (fail);go_loopg [6,7,8,9,10] (g.length+1) (fun gk v6 _ _ _ _ wr=>∃ (b:Bool) (r:Nat),v6=.bool b/\Hid (∃ m,m<=leaders g.length (classIter g m)/\(∀ j,j<m->isFix g j=false)/\CS w wr (.slice a g.length c) b1 b3 r g.length (fun i=>(classIter g m i:Int)) /\
    (if b then g.length-leaders g.length (classIter g m)<gk else isFix g m=true)))
   case atStart=>exact ⟨true,r,rfl,H3.out⟩
   case round =>
    clear H3;obtain ⟨b,r,rfl,hH⟩:=hrel;obtain ⟨m,hm,hmin,hcs,hgk⟩:=hH.out;clear hH;have hml:=leaders_le g.length (classIter g m);have Hmin:=dh hmin; clear hmin;have H1:=dh hcs; clear hcs;have c3:=H1.out.c3;cases b
    ·have Hfin:=dh (show CS w wr (.slice a g.length c) b1 b3 r g.length (fun i=>(classesOf g i:Int)) by
      rw [classesOf_eq (by omega) (by simpa using hgk) Hmin.out]; exact H1.out)
     clear hgk;go_wp2_with fail;go_ret;exact ⟨r,rfl,Hfin.out.row,Hfin.out.ext,Hfin.out.lo⟩
    ·simp only [if_true] at hgk;have hmk:=Hmk.out;have hl3:b3<wr.heap.size:=cell_lt c3;go_upto_region 17 with (fail);clear hmk;have H2:=dh (NS.new H1.out);obtain ⟨W2,hW2⟩:∃ W2:World,W2=wr.alloc (.cells (madeCells #[.int .i64 0] g.length) 3):=⟨_,rfl⟩;rw [<- hW2] at H2 ⊢;obtain ⟨r2,hr2⟩:∃ r2,r2=wr.heap.size:=⟨_,rfl⟩;rw [<- hr2] at H2 ⊢;clear hr2 hW2 hl3 c3 H1;go_loopw [6,8,9,10,54] (fun v6 _ _ _ i wx=>∃ k:Nat,k<=g.length/\i=.int .i64 k/\v6=.bool ((List.range k).any fun i=>classIter g (m+1) i != classIter g m i)/\Hid (NS w wx (.slice a g.length c) b1 b3 r r2 g.length (fun i=>(classIter g m i:Int)) (upTo k (classIter g (m+1))))) (fun _ _ _ _ i _=>g.length-(intOf i).toNat)
     case atStart=>exact ⟨0,Nat.zero_le _,rfl,rfl,H2.out.congr (fun i _=>by simp [upTo])⟩
     case round =>
      clear H2;obtain ⟨i,hi,rfl,rfl,H2⟩:=hrel;by_cases hlt:i<g.length
      ·have c3:=H2.out.cs.c3;have d1:=H2.out.cs.g1;obtain ⟨bi,hbi⟩:∃ b,b=((List.range i).any fun i=>classIter g (m+1) i != classIter g m i):=⟨_,rfl⟩;rw [<- hbi];have Hbi:=dh hbi; clear hbi;go_wp2_with fail;refine (list102 a g.length c g i wr (Graph.mono H2.out.cs.ext Hg.out) hlt (Hr.out i hlt)).mono ?_;rintro e w2 ⟨vl,rfl,hv,hE⟩;have H3:=dh (H2.out.mono hE); clear hE c3 d1 H2;have Hv:=dh hv; clear hv;go_wp2_with fail;refine (turnedClass 103 enters103 b3 r g.length (classIter g m) (leading_iter g m) h400 (fun i w h1 h2 h3=>class103 b3 _ _ _ _ i w h1 h2 h3) vl _ _ Hv.out (refs_in (Hr.out i hlt)) H3.out.cs.c3 H3.out.cs.row).mono ?_;rintro e w3 ⟨vm,rfl,hv,hE⟩;have H2:=dh (H3.out.mono hE); clear hE H3 Hv;have Hm:=dh (show Ints w3 vm (mineOf g (classIter g m) i) from hv); clear hv;go_upto_region 21 with (fail);have hstep:=dh (show ∀ k,k<=i->classIter g (m+1) i=k->∀ wx,NS w wx (.slice a g.length c) b1 b3 r r2 g.length (fun i=>(classIter g m i:Int)) (upTo i (classIter g (m+1)))->NS w (wx.setCell ⟨r2,i,none⟩ (.int .i64 k)) (.slice a g.length c) b1 b3 r r2 g.length (fun i=>(classIter g m i:Int)) (upTo (i+1) (classIter g (m+1))) from
        fun k _ he wx h=>(h.store i k).congr (fun j _=>by
         unfold upTo;by_cases hj:j=i
         ·subst hj; rw [if_pos rfl,if_pos (by omega),he]
         ·rw [if_neg hj];by_cases hj2:j<i
          ·rw [if_pos hj2,if_pos (by omega)]
          ·rw [if_neg hj2,if_neg (by omega)]))
       have hlead:=dh (step_eq g m i);have hCi:=(leading_iter g m i).1;go_loopw [10,64] (fun _ i2 wx=>∃ k:Nat,k<=i/\i2=.int .i64 k/\Hid (NS w wx (.slice a g.length c) b1 b3 r r2 g.length (fun i=>(classIter g m i:Int)) (upTo i (classIter g (m+1)))/\Ints wx vm (mineOf g (classIter g m) i) /\
        ∀ j,j<k->(classIter g (m+1) j==j&&(classIter g m j==classIter g m i&&stepQ g (classIter g m) i j))=false)) (fun _ i2 _=>i+1-(intOf i2).toNat)
       case atStart=>exact ⟨0,Nat.zero_le _,rfl,H2.out,Hm.out,fun j hj=>absurd hj (Nat.not_lt_zero _)⟩
       case round =>
        clear H2 Hm;obtain ⟨k,hk,rfl,hH⟩:=hrel;have H2:=dh hH.out.1;have Hm:=dh hH.out.2.1;have Hno:=dh hH.out.2.2;clear hH;have c3:=H2.out.cs.c3;have d1:=H2.out.cs.g1;have hkn:k<g.length:=by omega
        have di:wr.cell? ⟨r2,i,none⟩=some (.int .i64 0):=by have:=H2.out.row2.cell hlt; rw [this]; simp [upTo]
        have fi:=H2.out.row2.free i;by_cases hki:k<i
        ·have hneb:((k:Int)==(i:Int))=false:=by rw [beq_eq_false_iff_ne]; omega
         have dk:wr.cell? ⟨r2,k,none⟩=some (.int .i64 (classIter g (m+1) k)):=by have:=H2.out.row2.cell (show k<g.length by omega); rw [this]; simp [upTo,hki]
         have hCk:=(leading_iter g (m+1) k).1;have hCk2:=(leading_iter g m k).1;have ek:=H2.out.cs.row.cell (show k<g.length by omega);have ei:=H2.out.cs.row.cell hlt;by_cases hkk:classIter g (m+1) k=k
         ·have hkb:((classIter g (m+1) k:Int)==(k:Int))=true:=by rw [beq_iff_eq,hkk]
          have Hkk:=dh hkk; clear hkk;by_cases hcc:classIter g m k=classIter g m i
          ·have hcb:((classIter g m k:Int)==(classIter g m i:Int))=true:=by rw [beq_iff_eq,hcc]
           have Hcc:=dh hcc; clear hcc;go_upto_region 23 with (fail);have hgk:=Graph.mono H2.out.cs.ext Hg.out;refine Zr 99 ?_;change wpE _ _ _ _ _ _ _ _ (World.drew _);refine Zg 0 ?_;refine Zg 1 ?_;refine Zg 2 ?_;refine Zg 3 ?_;refine Zg 4 ?_;refine Zg 5 ?_;refine Zg 6 ?_;refine Zc 7 dk ?_;refine Zg 8 ?_;refine Zg 9 ?_;refine Zg 10 ?_;refine Zc 11 c3 ?_;refine Zg 12 ?_;refine Zg 13 ?_;refine Zc 14 ek ?_;refine Zc 15 c3 ?_;refine Zg 16 ?_;refine Zg 17 ?_;refine Zc 18 ei ?_;refine Zg 19 ?_;refine Zg 20 ?_;refine Zg 21 ?_;refine Zg 22 ?_;refine Zc 23 d1 ?_;refine Zg 24 ?_;refine Zg 26 ?_;refine Zo 25 fun K hK=>?_;go_simp;refine (list102 a g.length c g k _ (Graph.mono (Ext.drew _) hgk) (by omega) (Hr.out k (by omega))).mono ?_;rintro e w4 ⟨vl,rfl,hv,hE⟩;have Hn4:=dh (H2.out.mono ((Ext.drew _).trans hE));have Hm4:=dh (Ints.mono ((Ext.drew _).trans hE) Hm.out);have Hv:=dh hv; clear hv;refine hK _ _ (hE) ?_; clear hK K;clear hE hgk;refine Zo 27 fun K hK=>?_;go_simp;refine (turnedClass 105 enters105 b3 r g.length (classIter g m) (leading_iter g m) h400 (fun i w h1 h2 h3=>class105 b3 _ _ _ _ i w h1 h2 h3) vl _ _ Hv.out (refs_in (Hr.out k (by omega))) Hn4.out.cs.c3 Hn4.out.cs.row).mono ?_;rintro e w5 ⟨vk,rfl,hv,hE⟩;have Hn5:=dh (Hn4.out.mono hE);have Hm5:=dh (Ints.mono hE Hm4.out);have hvk:Ints w5 vk (mineOf g (classIter g m) k):=hv;clear hv;refine hK _ _ (hE) ?_; clear hK K;clear hE;obtain ⟨ka,kc,rfl,_⟩:=id hvk;obtain ⟨ia,ic,rfl,_⟩:=id Hm5.out;refine Zo 28 fun K hK=>?_;go_simp;refine (equal104 ia _ ic ka _ kc _ _ _ Hm5.out hvk).mono ?_;rintro e w6 ⟨rfl,hE⟩;have Hn6:=dh (Hn5.out.mono hE);have Hm6:=dh (Ints.mono hE Hm5.out);refine hK _ _ (hE) ?_; clear hK K;clear hE hvk;cases hst:sameB (fun (x y:Int)=>x==y) (mineOf g (classIter g m) i) (mineOf g (classIter g m) k)
           ·have hn:=dh (show (classIter g (m+1) k==k&&(classIter g m k==classIter g m i&&stepQ g (classIter g m) i k))=false by rw [show stepQ g (classIter g m) i k=false from hst,Bool.and_false,Bool.and_false]);clear hst;refine Zg 29 ?_;refine Zg 30 ?_;refine Zd ?_;go_wp2_with fail;go_roundw
            case rel =>
             refine ⟨k+1,by omega,by go_num,Hn6.out,Hm6.out,fun j hj=>?_⟩;by_cases hjk:j=k
             ·rw [hjk]; exact hn.out
             ·exact Hno.out j (by omega)
            case measure=>simp [intOf]; omega
           ·have hself:=dh (show classIter g (m+1) i=k by
             rw [hlead.out];exact lead_hit hki (by rw [Hkk.out,Hcc.out,show stepQ g (classIter g m) i k=true from hst]; simp) Hno.out)
            clear hst;have H3:=dh (hstep.out k (by omega) hself.out _ Hn6.out);have c3:=Hn6.out.cs.c3;have di:w6.cell? ⟨r2,i,none⟩=some (.int .i64 0):=by have:=Hn6.out.row2.cell hlt; rw [this]; simp [upTo]
            have fi:=Hn6.out.row2.free i;clear hkb hcb dk ek ei;refine Zg 29 ?_;refine Zg 30 ?_;refine Zd ?_;go_upto_region 26 with (fail);obtain ⟨X,hX⟩:∃ X:World,X=(w6.setCell ⟨r2,i,none⟩ (.int .i64 k)):=⟨_,rfl⟩;rw [<- hX] at H3 ⊢;clear hX c3 d1 di fi;have x3:=H3.out.cs.c3;have xi:=H3.out.row2.cell hlt;rw [show upTo (i+1) (classIter g (m+1)) i=(classIter g (m+1) i:Int) by unfold upTo; rw [if_pos (by omega)]] at xi;have yi:=H3.out.cs.row.cell hlt;have hany:=dh (any_succ (fun i=>classIter g (m+1) i != classIter g m i) i);cases bi
            ·by_cases hne:classIter g (m+1) i=classIter g m i
             ·have hnb:((classIter g (m+1) i:Int)==(classIter g m i:Int))=true:=by rw [beq_iff_eq,hne]
              have hv:=dh (show false=(List.range (i+1)).any fun i=>classIter g (m+1) i != classIter g m i by rw [hany.out,<- Hbi.out,hne]; simp);clear hne;refine Zr 99 ?_;change wpE _ _ _ _ _ _ _ _ (World.drew _);refine Zg 0 ?_;refine Zg 1 ?_;refine Zg 2 ?_;refine Zg 3 ?_;refine Zg 4 ?_;refine Zc 5 xi ?_;refine Zc 6 x3 ?_;refine Zg 7 ?_;refine Zg 8 ?_;refine Zc 9 yi ?_;refine Zg 10 ?_;refine Zg 11 ?_;refine Zg 12 ?_;refine Zd ?_;go_wp2_with fail;go_roundw
              case rel=>exact ⟨i+1,by omega,by go_num,by rw [<- hv.out]; try (first | rfl | (simp only [bne,hnb,Bool.not_true,Bool.not_false])),H3.out.mono (Ext.drew _)⟩
              case measure=>simp [intOf]; omega
             ·have hnb:((classIter g (m+1) i:Int)==(classIter g m i:Int))=false:=by rw [beq_eq_false_iff_ne]; omega
              have hv:=dh (show true=(List.range (i+1)).any fun i=>classIter g (m+1) i != classIter g m i by rw [hany.out,<- Hbi.out,bne_iff_ne.2 hne]; rfl);clear hne;refine Zr 99 ?_;change wpE _ _ _ _ _ _ _ _ (World.drew _);refine Zg 0 ?_;refine Zg 1 ?_;refine Zg 2 ?_;refine Zg 3 ?_;refine Zg 4 ?_;refine Zc 5 xi ?_;refine Zc 6 x3 ?_;refine Zg 7 ?_;refine Zg 8 ?_;refine Zc 9 yi ?_;refine Zg 10 ?_;refine Zg 11 ?_;refine Zg 12 ?_;refine Zd ?_;go_wp2_with fail;go_roundw
              case rel=>exact ⟨i+1,by omega,by go_num,by rw [<- hv.out]; try (first | rfl | (simp only [bne,hnb,Bool.not_true,Bool.not_false])),H3.out.mono (Ext.drew _)⟩
              case measure=>simp [intOf]; omega
            ·have hv:=dh (show true=(List.range (i+1)).any fun i=>classIter g (m+1) i != classIter g m i by rw [hany.out,<- Hbi.out]; rfl);clear xi yi x3;refine Zr 99 ?_;change wpE _ _ _ _ _ _ _ _ (World.drew _);refine Zg 0 ?_;refine Zg 1 ?_;refine Zs 2 ?_;refine Zs 3 ?_;refine Zs 4 ?_;refine Zs 5 ?_;refine Zs 6 ?_;refine Zs 7 ?_;refine Zs 8 ?_;refine Zs 9 ?_;refine Zs 10 ?_;refine Zg 11 ?_;refine Zg 12 ?_;refine Zd ?_;go_wp2_with fail;go_roundw
             case rel=>exact ⟨i+1,by omega,by go_num,by rw [<- hv.out]; try (first | rfl | (simp only [bne,hnb,Bool.not_true,Bool.not_false])),H3.out.mono (Ext.drew _)⟩
             case measure=>simp [intOf]; omega
          ·have hcb:((classIter g m k:Int)==(classIter g m i:Int))=false:=by rw [beq_eq_false_iff_ne]; omega
           have hn:=dh (show (classIter g (m+1) k==k&&(classIter g m k==classIter g m i&&stepQ g (classIter g m) i k))=false by rw [beq_eq_false_iff_ne.2 hcc,Bool.false_and,Bool.and_false]);clear hcc;go_upto_region 23 with (fail);refine Zr 99 ?_;change wpE _ _ _ _ _ _ _ _ (World.drew _);refine Zg 0 ?_;refine Zg 1 ?_;refine Zg 2 ?_;refine Zg 3 ?_;refine Zg 4 ?_;refine Zg 5 ?_;refine Zg 6 ?_;refine Zc 7 dk ?_;refine Zg 8 ?_;refine Zg 9 ?_;refine Zg 10 ?_;refine Zc 11 c3 ?_;refine Zg 12 ?_;refine Zg 13 ?_;refine Zc 14 ek ?_;refine Zc 15 c3 ?_;refine Zg 16 ?_;refine Zg 17 ?_;refine Zc 18 ei ?_;refine Zg 19 ?_;refine Zg 20 ?_;refine Zg 21 ?_;refine Zs 22 ?_;refine Zs 23 ?_;refine Zs 24 ?_;refine Zs 25 ?_;refine Zs 26 ?_;refine Zs 27 ?_;refine Zs 28 ?_;refine Zg 29 ?_;refine Zg 30 ?_;refine Zd ?_;go_wp2_with fail;go_roundw
           case rel =>
            refine ⟨k+1,by omega,by go_num,H2.out.mono (Ext.drew _),Ints.mono (Ext.drew _) Hm.out,fun j hj=>?_⟩;by_cases hjk:j=k
            ·rw [hjk]; exact hn.out
            ·exact Hno.out j (by omega)
           case measure=>simp [intOf]; omega
         ·have hkb:((classIter g (m+1) k:Int)==(k:Int))=false:=by rw [beq_eq_false_iff_ne]; omega
          have hn:=dh (show (classIter g (m+1) k==k&&(classIter g m k==classIter g m i&&stepQ g (classIter g m) i k))=false by rw [beq_eq_false_iff_ne.2 hkk,Bool.false_and]);clear hkk;go_upto_region 23 with (fail);refine Zr 99 ?_;change wpE _ _ _ _ _ _ _ _ (World.drew _);refine Zg 0 ?_;refine Zg 1 ?_;refine Zg 2 ?_;refine Zg 3 ?_;refine Zg 4 ?_;refine Zg 5 ?_;refine Zg 6 ?_;refine Zc 7 dk ?_;refine Zg 8 ?_;refine Zg 9 ?_;refine Zg 10 ?_;refine Zs 11 ?_;refine Zs 12 ?_;refine Zs 13 ?_;refine Zs 14 ?_;refine Zs 15 ?_;refine Zs 16 ?_;refine Zs 17 ?_;refine Zs 18 ?_;refine Zs 19 ?_;refine Zg 20 ?_;refine Zg 21 ?_;refine Zs 22 ?_;refine Zs 23 ?_;refine Zs 24 ?_;refine Zs 25 ?_;refine Zs 26 ?_;refine Zs 27 ?_;refine Zs 28 ?_;refine Zg 29 ?_;refine Zg 30 ?_;refine Zd ?_;go_wp2_with fail;go_roundw
          case rel =>
           refine ⟨k+1,by omega,by go_num,H2.out.mono (Ext.drew _),Ints.mono (Ext.drew _) Hm.out,fun j hj=>?_⟩;by_cases hjk:j=k
           ·rw [hjk]; exact hn.out
           ·exact Hno.out j (by omega)
          case measure=>simp [intOf]; omega
        ·have hke:k=i:=by omega
         subst hke;have hki2:=dh hki; clear hki;have hself:=dh (show classIter g (m+1) k=k by rw [hlead.out]; exact lead_self Hno.out);have H3:=dh ((hstep.out k (by omega) hself.out _ H2.out).mono (Ext.drew _));go_upto_region 23 with (fail);refine Zr 99 ?_;change wpE _ _ _ _ _ _ _ _ (World.drew _);refine Zg 0 ?_;refine Zg 1 ?_;refine Zg 2 ?_;refine Zg 3 ?_;refine Zs 4 ?_;refine Zs 5 ?_;refine Zs 6 ?_;refine Zs 7 ?_;refine Zs 8 ?_;refine Zs 9 ?_;refine Zs 10 ?_;refine Zs 11 ?_;refine Zs 12 ?_;refine Zs 13 ?_;refine Zs 14 ?_;refine Zs 15 ?_;refine Zs 16 ?_;refine Zs 17 ?_;refine Zs 18 ?_;refine Zs 19 ?_;refine Zs 20 ?_;refine Zs 21 ?_;refine Zs 22 ?_;refine Zs 23 ?_;refine Zs 24 ?_;refine Zs 25 ?_;refine Zs 26 ?_;refine Zs 27 ?_;refine Zs 28 ?_;refine Zs 29 ?_;refine Zg 30 ?_;refine Zd ?_;go_upto_region 26 with (fail);obtain ⟨X,hX⟩:∃ X:World,X=((wr.setCell ⟨r2,k,none⟩ (.int .i64 k)).drew):=⟨_,rfl⟩;rw [<- hX] at H3 ⊢;clear hX c3 d1 di fi;have x3:=H3.out.cs.c3;have xi:=H3.out.row2.cell hlt;rw [show upTo (k+1) (classIter g (m+1)) k=(classIter g (m+1) k:Int) by unfold upTo; rw [if_pos (by omega)]] at xi;have yi:=H3.out.cs.row.cell hlt;have hany:=dh (any_succ (fun i=>classIter g (m+1) i != classIter g m i) k);cases bi
         ·by_cases hne:classIter g (m+1) k=classIter g m k
          ·have hnb:((classIter g (m+1) k:Int)==(classIter g m k:Int))=true:=by rw [beq_iff_eq,hne]
           have hv:=dh (show false=(List.range (k+1)).any fun i=>classIter g (m+1) i != classIter g m i by rw [hany.out,<- Hbi.out,hne]; simp);clear hne;refine Zr 99 ?_;change wpE _ _ _ _ _ _ _ _ (World.drew _);refine Zg 0 ?_;refine Zg 1 ?_;refine Zg 2 ?_;refine Zg 3 ?_;refine Zg 4 ?_;refine Zc 5 xi ?_;refine Zc 6 x3 ?_;refine Zg 7 ?_;refine Zg 8 ?_;refine Zc 9 yi ?_;refine Zg 10 ?_;refine Zg 11 ?_;refine Zg 12 ?_;refine Zd ?_;go_wp2_with fail;go_roundw
           case rel=>exact ⟨k+1,by omega,by go_num,by rw [<- hv.out]; try (first | rfl | (simp only [bne,hnb,Bool.not_true,Bool.not_false])),H3.out.mono (Ext.drew _)⟩
           case measure=>simp [intOf]; omega
          ·have hnb:((classIter g (m+1) k:Int)==(classIter g m k:Int))=false:=by rw [beq_eq_false_iff_ne]; omega
           have hv:=dh (show true=(List.range (k+1)).any fun i=>classIter g (m+1) i != classIter g m i by rw [hany.out,<- Hbi.out,bne_iff_ne.2 hne]; rfl);clear hne;refine Zr 99 ?_;change wpE _ _ _ _ _ _ _ _ (World.drew _);refine Zg 0 ?_;refine Zg 1 ?_;refine Zg 2 ?_;refine Zg 3 ?_;refine Zg 4 ?_;refine Zc 5 xi ?_;refine Zc 6 x3 ?_;refine Zg 7 ?_;refine Zg 8 ?_;refine Zc 9 yi ?_;refine Zg 10 ?_;refine Zg 11 ?_;refine Zg 12 ?_;refine Zd ?_;go_wp2_with fail;go_roundw
           case rel=>exact ⟨k+1,by omega,by go_num,by rw [<- hv.out]; try (first | rfl | (simp only [bne,hnb,Bool.not_true,Bool.not_false])),H3.out.mono (Ext.drew _)⟩
           case measure=>simp [intOf]; omega
         ·have hv:=dh (show true=(List.range (k+1)).any fun i=>classIter g (m+1) i != classIter g m i by rw [hany.out,<- Hbi.out]; rfl);clear xi yi x3;refine Zr 99 ?_;change wpE _ _ _ _ _ _ _ _ (World.drew _);refine Zg 0 ?_;refine Zg 1 ?_;refine Zs 2 ?_;refine Zs 3 ?_;refine Zs 4 ?_;refine Zs 5 ?_;refine Zs 6 ?_;refine Zs 7 ?_;refine Zs 8 ?_;refine Zs 9 ?_;refine Zs 10 ?_;refine Zg 11 ?_;refine Zg 12 ?_;refine Zd ?_;go_wp2_with fail;go_roundw
          case rel=>exact ⟨k+1,by omega,by go_num,by rw [<- hv.out]; try (first | rfl | (simp only [bne,hnb,Bool.not_true,Bool.not_false])),H3.out.mono (Ext.drew _)⟩
          case measure=>simp [intOf]; omega
      ·have hin:i=g.length:=by omega
       subst hin;have H3:=dh (H2.out.congr (G2:=fun i=>(classIter g (m+1) i:Int)) (fun j hj=>by unfold upTo; rw [if_pos hj]));have c3:=H2.out.cs.c3;have f3:=H2.out.cs.f3;clear H2;have hfx:=isFix_any g m;cases hbb:((List.range g.length).any fun i=>classIter g (m+1) i != classIter g m i)
       ·rw [hbb] at hfx;have Hfx:=dh hfx; clear hfx hbb;have H4:=dh (H3.out.swap.congr (G:=fun i=>(classIter g m i:Int)) (fun j hj=>by
         have h1:=Hfx.out;unfold isFix at h1;rw [Bool.not_false,List.all_eq_true] at h1;have h2:=h1 j (List.mem_range.2 hj);rw [beq_iff_eq] at h2;rw [h2]))
        have Hm0:=dh hm; clear hm hml;go_wp2_with fail
        go_roundg 0
        case measure=>omega
        case rel=>exact ⟨false,r2,rfl,m,Hm0.out,Hmin.out,H4.out,by simpa using Hfx.out⟩
       ·rw [hbb] at hfx;have hlt2:=iter_grows (show isFix g m=false from hfx);have hml2:=leaders_le g.length (classIter g (m+1));have Hfx:=dh hfx; clear hfx hbb;have H4:=dh H3.out.swap;go_wp2_with fail
        go_roundg (g.length-leaders g.length (classIter g (m+1))+1)
        case measure=>omega
        case rel =>
         refine ⟨true,r2,rfl,m+1,by omega,fun j hj=>?_,H4.out,by simp⟩;by_cases hjm:j=m
         ·rw [hjm]; exact Hfx.out
         ·exact Hmin.out j (by omega)
end Go.Proofs.YtjffkeoajkhbmaaGreat
