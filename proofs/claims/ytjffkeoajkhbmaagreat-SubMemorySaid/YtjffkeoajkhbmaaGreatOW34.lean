/- The reference's classes. The reference's Classes, and its Check of an environment. -/
import Derived.Test.YtjffkeoajkhbmaaGreatOW9
import Derived.Test.YtjffkeoajkhbmaaGreatOW24
import Derived.Test.YtjffkeoajkhbmaaGreatOW30
import Derived.Test.YtjffkeoajkhbmaaGreatOW33
namespace Go.Proofs.YtjffkeoajkhbmaaGreat
set_option linter.unusedSimpArgs false
set_option linter.unusedVariables false
set_option maxRecDepth 100000
set_option maxHeartbeats 8000000
section
open Go.RowKit Go.Proofs
structure CR (w wr:World) (r n:Nat) (F:Nat->Int):Prop where
 ext:Ext w wr
 row:RowI wr r n F
 lo:w.heap.size<=r
theorem CR.mono {w wr w2:World} {r n:Nat} {F:Nat->Int} (h:CR w wr r n F) (hE:Ext wr w2):CR w w2 r n F:=⟨h.ext.trans hE,h.row.ext hE,h.lo⟩
theorem CR.set {w wr:World} {r n:Nat} {F:Nat->Int} (h:CR w wr r n F) (i:Nat) (v:Int):CR w (wr.setCell ⟨r,i,none⟩ (.int .i64 v)) r n (fun j=>if j=i then v else F j) :=
 ⟨Below.setCell h.ext h.lo _,h.row.set i v,h.lo⟩
theorem CR.congr {w wr:World} {r n:Nat} {F G:Nat->Int} (h:CR w wr r n F) (hF:∀ i,i<n->F i=G i):CR w wr r n G:=⟨h.ext,h.row.congr hF,h.lo⟩
structure NR (w wr:World) (r r2 n:Nat) (F F2:Nat->Int):Prop where
 cr:CR w wr r n F
 row2:RowI wr r2 n F2
 ne:r2≠r
 lo2:w.heap.size<=r2
theorem NR.mono {w wr w2:World} {r r2 n:Nat} {F F2:Nat->Int} (h:NR w wr r r2 n F F2) (hE:Ext wr w2):NR w w2 r r2 n F F2:=⟨h.cr.mono hE,h.row2.ext hE,h.ne,h.lo2⟩
theorem NR.set {w wr:World} {r r2 n:Nat} {F F2:Nat->Int} (h:NR w wr r r2 n F F2) (i:Nat) (v:Int):NR w (wr.setCell ⟨r2,i,none⟩ (.int .i64 v)) r r2 n F (fun j=>if j=i then v else F2 j) :=
 ⟨⟨Below.setCell h.cr.ext h.lo2 _,(Below.heap_setCell _ _ _ _ (fun e=>h.ne e.symm)).trans h.cr.row,h.cr.lo⟩,h.row2.set i v,h.ne,h.lo2⟩
theorem NR.congr {w wr:World} {r r2 n:Nat} {F F2 G2:Nat->Int} (h:NR w wr r r2 n F F2) (hF:∀ i,i<n->F2 i=G2 i):NR w wr r r2 n F G2:=⟨h.cr,h.row2.congr hF,h.ne,h.lo2⟩
theorem NR.new {w wr:World} {r n:Nat} {F:Nat->Int} (h:CR w wr r n F):NR w (wr.alloc (.cells (madeCells #[.int .i64 0] n) 3)) r wr.heap.size n F (fun _=>0) :=
 ⟨h.mono (Ext.alloc _ _),RowI.make _ _,by have:=h.row.lt; omega,h.ext.size⟩
theorem NR.swap {w wr:World} {r r2 n:Nat} {F F2:Nat->Int} (h:NR w wr r r2 n F F2):CR w wr r2 n F2:=⟨h.cr.ext,h.row2,h.lo2⟩
def upAt (i:Nat) (F:Nat->Nat) (v:Nat) (j:Nat):Int:=if j=i then (v:Int) else upTo i F j
theorem upAt_self (i:Nat) (F:Nat->Nat) (v:Nat):upAt i F v i=v:=if_pos rfl
theorem upAt_lt {i:Nat} {F:Nat->Nat} {v j:Nat} (h:j<i):upAt i F v j=F j:=by
 unfold upAt upTo; rw [if_neg (by omega),if_pos h]
theorem upAt_done {i:Nat} {F:Nat->Nat} {v:Nat} (h:F i=v) (j:Nat):upAt i F v j=upTo (i+1) F j:=by
 unfold upAt upTo;by_cases hj:j=i
 ·subst hj; rw [if_pos rfl,if_pos (by omega),h]
 ·rw [if_neg hj];by_cases hj2:j<i
  ·rw [if_pos hj2,if_pos (by omega)]
  ·rw [if_neg hj2,if_neg (by omega)]
theorem upAt_set (i:Nat) (F:Nat->Nat) (v v':Nat) (j:Nat):(if j=i then (v':Int) else upAt i F v j)=upAt i F v' j:=by
 unfold upAt;by_cases hj:j=i
 ·rw [if_pos hj,if_pos hj]
 ·rw [if_neg hj,if_neg hj,if_neg hj]
theorem step_none {g:List Ty} {m i:Nat} (h:∀ j,j<i->(classIter g (m+1) j==j&&(classIter g m j==classIter g m i&&stepQ g (classIter g m) i j))=false):classIter g (m+1) i=i:=by
 rw [step_eq]; exact lead_self h
theorem step_hit {g:List Ty} {m i k:Nat} (hk:k<i) (h1:(classIter g (m+1) k==k&&(classIter g m k==classIter g m i&&stepQ g (classIter g m) i k))=true)
  (h:∀ j,j<k->(classIter g (m+1) j==j&&(classIter g m j==classIter g m i&&stepQ g (classIter g m) i j))=false):classIter g (m+1) i=k:=by
 rw [step_eq]; exact lead_hit hk h1 h
theorem ty_args {w:World} {a:Option Addr} {n c:Nat} {g:List Ty} (hg:Graph w (.slice a n c) g) {i:Nat} (hi:i<n) :
  ∃ b off pa pl pc ma ml mc oa ol oc,a=some ⟨b,off,none⟩/\TyAt w b (off+i*10) (nth g i) pa pl pc ma ml mc oa ol oc:=by
 obtain ⟨b,off,pa,pl,pc,ma,ml,mc,oa,ol,oc,h1,_,h2⟩:=Graph.at hg hi;exact ⟨b,off,pa,pl,pc,ma,ml,mc,oa,ol,oc,h1,h2⟩
theorem classes93 (a:Option Addr) (n c:Nat) (g:List Ty) (w:World) (hg:Graph w (.slice a n c) g) (hr:∀ i,i<n->rightB g (nth g i)=true) (h400:n<=400) :
  Calls Tryz.prog 93 #[.slice a n c] w fun e w'=>∃ r,e=.returned (.slice (some ⟨r,0,none⟩) n n)/\RowI w' r n (fun i=>(classesOf g i:Int))/\Ext w w':=by
 have hb:=(SlW.bound hg).2;obtain rfl:=SlW.len hg;have hmk:=makeInts g.length (by omega);have Hg:=dh hg; clear hg;have Hr:=dh hr; clear hr
 go_enter Tryz.func93,Tryz.ntmps93
 go_upto_region 3 with (fail);have H1:=dh (show CR w (w.alloc (.cells (madeCells #[.int .i64 0] g.length) 3)) w.heap.size g.length (fun _=>0) from ⟨Ext.alloc _ _,RowI.make _ _,Nat.le_refl _⟩);obtain ⟨r,hr⟩:∃ r,r=w.heap.size:=⟨_,rfl⟩;rw [<- hr] at H1 ⊢;clear hr;have Hmk:=dh hmk; clear hmk;go_loopw [4,5] (fun i _ wr=>∃ k:Nat,k<=g.length/\i=.int .i64 k/\Hid (CR w wr r g.length (upTo k (class0 g)))) (fun i _ _=>g.length-(intOf i).toNat)
 case atStart=>exact ⟨0,Nat.zero_le _,rfl,dh (H1.out.congr (fun i _=>by simp [upTo]))⟩
 case round =>
  clear H1;obtain ⟨i,hi,rfl,H1⟩:=hrel;by_cases hlt:i<g.length
  ·have hci:=H1.out.row.cell hlt;have hfi:=H1.out.row.free i;have hw1:IntKind.i64.wrap ((i:Int)-1)=(i:Int)-1:=by rw [IntKind.wrap_i64]; omega
   go_upto_region 7 with (fail);have H2:=dh ((H1.out.set i i).congr (G:=upAt i (class0 g) i) (fun j _=>rfl));clear hci hfi hw1;go_loopw [5] (fun kv wx=>∃ d v:Nat,d<=i/\kv=.int .i64 ((d:Int)-1)/\Hid (CR w wx r g.length (upAt i (class0 g) v)/\(v=class0 g i\/v=i/\∀ j,d<=j->j<i->agreeB (nth g j) (nth g i)=false))) (fun kv _=>(intOf kv+1).toNat)
   case atStart=>exact ⟨i,i,Nat.le_refl _,rfl,dh ⟨H2.out,Or.inr ⟨rfl,fun j h1 h2=>absurd h1 (by omega)⟩⟩⟩
   case round =>
    clear H1 H2;obtain ⟨d,v,hd,rfl,hH⟩:=hrel;obtain ⟨hC,hv⟩:=hH.out;have H1:=dh hC;have Hv:=dh hv;clear hH hC hv;rcases Nat.eq_zero_or_pos d with h0 | h0
    ·subst h0;have hvi:class0 g i=v:=by
      rcases Hv.out with h | ⟨h,h2⟩
      ·exact h.symm
      ·rw [h]; exact class0_self (fun j hj=>h2 j (Nat.zero_le _) hj)
     have H2:=dh (H1.out.congr (fun j _=>upAt_done hvi j));clear hvi;have hz:((0:Nat):Int)-1=-1:=rfl;rw [hz];go_wp2_with fail;go_roundw
     case rel=>exact ⟨i+1,by omega,by go_num,H2⟩
     case measure=>simp [intOf]; omega
    ·obtain ⟨k,rfl⟩:∃ k,d=k+1:=⟨d-1,by omega⟩;have hz:((k+1:Nat):Int)-1=(k:Int):=by omega
     have hms:(intOf (.int .i64 (k:Int))+1).toNat=k+1:=by simp [intOf]
     rw [hz];clear hz;have hki:k<i:=by omega
     have hkg:k<g.length:=by omega
     obtain ⟨b,off,pa,pl,pc,ma,ml,mc,oa,ol,oc,hab,hT⟩:=ty_args (Graph.mono H1.out.ext Hg.out) hkg;cases hab;obtain ⟨b2,off2,qa,ql,qc,na,nl,nc,xa,xl,xc,hab2,hT2⟩:=ty_args (Graph.mono H1.out.ext Hg.out) hlt;cases hab2;obtain ⟨c0,c1,c2,c3,c4,c5,c6,c7,c8,c9,hps,hms1,hos,hok⟩:=hT;obtain ⟨d0,d1,d2,d3,d4,d5,d6,d7,d8,d9,hps2,hms2,hos2,hok2⟩:=hT2;go_upto_region 9 with (fail);refine Zr 99 ?_;change wpE _ _ _ _ _ _ _ _ (World.drew _);refine Zg 0 ?_;refine Zg 1 ?_;refine Zg 2 ?_;refine Zf 3 rfl (fun w9 hE=>by have c0E:=hE.cell c0; have c1E:=hE.cell c1; have c2E:=hE.cell c2; have c3E:=hE.cell c3; have c4E:=hE.cell c4; have c5E:=hE.cell c5; have c6E:=hE.cell c6; have c7E:=hE.cell c7; have c8E:=hE.cell c8; have c9E:=hE.cell c9; clear hE; first | (go_simp; done) | (go_simp; with_reducible rfl)) ?_;refine Zg 4 ?_;refine Zg 5 ?_;refine Zg 6 ?_;refine Zf 7 rfl (fun w9 hE=>by have d0E:=hE.cell d0; have d1E:=hE.cell d1; have d2E:=hE.cell d2; have d3E:=hE.cell d3; have d4E:=hE.cell d4; have d5E:=hE.cell d5; have d6E:=hE.cell d6; have d7E:=hE.cell d7; have d8E:=hE.cell d8; have d9E:=hE.cell d9; clear hE; first | (go_simp; done) | (go_simp; with_reducible rfl)) ?_;refine Zo 8 fun K hK=>?_;go_simp;refine (agreeR127 (nth g k) (nth g i) _ _ _ _ _ _ _ _ _ _ _ _ _ _ _ _ _ _ _ (Parts.mono (Ext.drew _) hps) (Meths.mono (Ext.drew _) hms1) (Overs.mono (Ext.drew _) hos) (Parts.mono (Ext.drew _) hps2) (Meths.mono (Ext.drew _) hms2) (Overs.mono (Ext.drew _) hos2)).mono ?_;rintro e w2 ⟨rfl,hE⟩;have H3:=dh (H1.out.mono ((Ext.drew _).trans hE));refine hK _ _ (hE) ?_; clear hK K;clear hE c0 c1 c2 c3 c4 c5 c6 c7 c8 c9 hps hms1 hos hok d0 d1 d2 d3 d4 d5 d6 d7 d8 d9 hps2 hms2 hos2 hok2;refine Zd ?_;cases hag:agreeB (nth g k) (nth g i)
     ·have HV:=dh (show v=class0 g i\/v=i/\∀ j,k<=j->j<i->agreeB (nth g j) (nth g i)=false from Hv.out.imp id fun ⟨h1,h2⟩=>⟨h1,fun j hj hji=>by
       by_cases hjk:j=k
       ·rw [hjk]; exact hag
       ·exact h2 j (by omega) hji⟩)
      clear hag;have hw1:IntKind.i64.wrap ((k:Int)-1)=(k:Int)-1:=by rw [IntKind.wrap_i64]; omega
      go_wp2_with fail;go_roundw
      case rel=>exact ⟨k,v,by omega,rfl,dh ⟨H3.out,HV.out⟩⟩
      case measure=>simp [intOf]
     ·have hcl:=class0_of (Nat.le_of_lt hki) hag;clear hag;have hck:=H3.out.row.cell hkg;rw [upAt_lt hki,<- hcl] at hck;have hci:=H3.out.row.cell hlt;have hfi:=H3.out.row.free i;have H4:=dh ((H3.out.set i (class0 g i)).congr (fun j _=>upAt_set i (class0 g) v (class0 g i) j));clear hcl;have hw1:IntKind.i64.wrap ((k:Int)-1)=(k:Int)-1:=by rw [IntKind.wrap_i64]; omega
      go_wp2_with fail;go_roundw
      case rel=>exact ⟨k,class0 g i,by omega,rfl,dh ⟨H4.out,Or.inl rfl⟩⟩
      case measure=>simp [intOf]
  ·have hin:i=g.length:=by omega
   subst hin;have H2:=dh (H1.out.congr (G:=fun i=>(classIter g 0 i:Int)) (fun j hj=>by unfold upTo; rw [if_pos hj]; rfl));clear H1;go_upto_region 12 with (fail);rename World=>W0;go_loopw [3,6,7,8,9] (fun out mv _ _ _ wr=>∃ m r:Nat,m<=g.length+1/\out=.slice (some ⟨r,0,none⟩) g.length g.length/\mv=.int .i64 m/\Hid (CR w wr r g.length (fun i=>(classIter g m i:Int)))) (fun _ mv _ _ _ _=>g.length+1-(intOf mv).toNat)
   case atStart=>exact ⟨0,r,Nat.zero_le _,rfl,rfl,H2⟩
   case round =>
    clear H2
    rename_i wr
    obtain ⟨m,r,hm,rfl,rfl,H1⟩:=hrel;by_cases hml:m<=g.length
    ·have hmk:=Hmk.out;go_upto_region 16 with (fail);clear hmk;have H2:=dh (NR.new H1.out);obtain ⟨r2,hr2⟩:∃ r2,r2=wr.heap.size:=⟨_,rfl⟩;rw [<- hr2] at H2 ⊢;clear hr2 H1;rename World=>WX;go_loopw [8,9] (fun iv _ wx=>∃ i:Nat,i<=g.length/\iv=.int .i64 i/\Hid (NR w wx r r2 g.length (fun i=>(classIter g m i:Int)) (upTo i (classIter g (m+1))))) (fun iv _ _=>g.length-(intOf iv).toNat)
     case atStart=>exact ⟨0,Nat.zero_le _,rfl,dh (H2.out.congr (fun i _=>by simp [upTo]))⟩
     case round =>
      clear H2;obtain ⟨i,hi,rfl,H1⟩:=hrel;by_cases hlt:i<g.length
      ·have hci:=H1.out.row2.cell hlt;have hfi:=H1.out.row2.free i;go_upto_region 20 with (fail);have H2:=dh ((H1.out.set i i).congr (G2:=upAt i (classIter g (m+1)) i) (fun j _=>rfl));clear hci hfi H1;go_loopw [9] (fun kv wx=>∃ k v:Nat,k<=i/\kv=.int .i64 k/\Hid (NR w wx r r2 g.length (fun i=>(classIter g m i:Int)) (upAt i (classIter g (m+1)) v) /\
        ((v=classIter g (m+1) i/\v<i)\/v=i/\∀ j,j<k->(classIter g (m+1) j==j&&(classIter g m j==classIter g m i&&stepQ g (classIter g m) i j))=false))) (fun kv _=>i-(intOf kv).toNat)
       case atStart=>exact ⟨0,i,Nat.zero_le _,rfl,dh ⟨H2.out,Or.inr ⟨rfl,fun j hj=>absurd hj (Nat.not_lt_zero _)⟩⟩⟩
       case round =>
        clear H2;obtain ⟨k,v,hk,rfl,hH⟩:=hrel;obtain ⟨hC,hv⟩:=hH.out;have H1:=dh hC;have Hv:=dh hv;clear hH hC hv;have hgo:=dh (show classIter g (m+1) i=v->∀ wx,NR w wx r r2 g.length (fun i=>(classIter g m i:Int)) (upAt i (classIter g (m+1)) v)->NR w wx r r2 g.length (fun i=>(classIter g m i:Int)) (upTo (i+1) (classIter g (m+1))) from fun h wx hN=>hN.congr (fun j _=>upAt_done h j));by_cases hki:k<i;rotate_left
        ·have hke:k=i:=by omega
         subst hke;have H2:=dh (hgo.out (by
          rcases Hv.out with h | ⟨h,h2⟩
          ·exact h.1.symm
          ·rw [h]; exact step_none h2) _ H1.out)
         clear Hv;go_wp2_with fail;go_roundw
         case rel=>exact ⟨k+1,by omega,by go_num,H2⟩
         case measure=>simp [intOf]; omega
        have hkg:k<g.length:=by omega
        have hci:=H1.out.row2.cell hlt;rw [upAt_self] at hci;rcases Hv.out with ⟨h1,h2⟩ | ⟨h1,h2⟩
        ·have H2:=dh (hgo.out h1.symm _ H1.out);have hne:((v:Int)==(i:Int))=false:=by rw [beq_eq_false_iff_ne]; omega
         clear h1 h2 Hv;go_wp2_with fail;go_roundw
         case rel=>exact ⟨i+1,by omega,by go_num,H2⟩
         case measure=>simp [intOf]; omega
        have Hno:=dh h2;subst h1;clear h2 Hv;have hvv:((v:Int)==(v:Int))=true:=by simp
        have Hnx:=dh (show (classIter g (m+1) k==k&&(classIter g m k==classIter g m v&&stepQ g (classIter g m) v k))=false->∀ j,j<k+1->(classIter g (m+1) j==j&&(classIter g m j==classIter g m v&&stepQ g (classIter g m) v j))=false from fun h j hj=>by
         by_cases hjk:j=k
         ·rw [hjk]; exact h
         ·exact Hno.out j (by omega))
        have ck:=H1.out.row2.cell hkg;rw [upAt_lt hki] at ck;have ek:=H1.out.cr.row.cell hkg;have ei:=H1.out.cr.row.cell hlt;by_cases hkk:classIter g (m+1) k=k;rotate_left
        ·have hb1:((classIter g (m+1) k:Int)==(k:Int))=false:=by rw [beq_eq_false_iff_ne]; omega
         have HJ:=dh (Hnx.out (by rw [beq_eq_false_iff_ne.2 hkk]; rfl));have H2:=dh (H1.out.mono (Ext.drew _));clear hkk;go_upto_region 22 with (fail);refine Zr 99 ?_;change wpE _ _ _ _ _ _ _ _ (World.drew _);refine Zg 0 ?_;refine Zg 1 ?_;refine Zg 2 ?_;refine Zc 3 ck ?_;refine Zg 4 ?_;refine Zg 5 ?_;refine Zg 6 ?_;refine Zs 7 ?_;refine Zs 8 ?_;refine Zs 9 ?_;refine Zs 10 ?_;refine Zs 11 ?_;refine Zs 12 ?_;refine Zs 13 ?_;refine Zs 14 ?_;refine Zs 15 ?_;refine Zg 16 ?_;refine Zg 17 ?_;refine Zs 18 ?_;refine Zs 19 ?_;refine Zs 20 ?_;refine Zs 21 ?_;refine Zs 22 ?_;refine Zs 23 ?_;refine Zs 24 ?_;refine Zs 25 ?_;refine Zs 26 ?_;refine Zs 27 ?_;refine Zs 28 ?_;refine Zs 29 ?_;refine Zg 30 ?_;refine Zd ?_;go_wp2_with fail;go_roundw
         case rel=>exact ⟨k+1,v,by omega,by go_num,dh ⟨H2.out,Or.inr ⟨rfl,HJ.out⟩⟩⟩
         case measure=>simp [intOf]; omega
        have hb1:((classIter g (m+1) k:Int)==(k:Int))=true:=by rw [beq_iff_eq,hkk]
        have Hkk:=dh hkk;clear hkk;by_cases hcc:classIter g m k=classIter g m v;rotate_left
        ·have hb2:((classIter g m k:Int)==(classIter g m v:Int))=false:=by rw [beq_eq_false_iff_ne]; omega
         have HJ:=dh (Hnx.out (by rw [beq_eq_false_iff_ne.2 hcc]; simp));have H2:=dh (H1.out.mono (Ext.drew _));clear hcc;go_upto_region 22 with (fail);refine Zr 99 ?_;change wpE _ _ _ _ _ _ _ _ (World.drew _);refine Zg 0 ?_;refine Zg 1 ?_;refine Zg 2 ?_;refine Zc 3 ck ?_;refine Zg 4 ?_;refine Zg 5 ?_;refine Zg 6 ?_;refine Zg 7 ?_;refine Zg 8 ?_;refine Zg 9 ?_;refine Zc 10 ek ?_;refine Zg 11 ?_;refine Zg 12 ?_;refine Zg 13 ?_;refine Zc 14 ei ?_;refine Zg 15 ?_;refine Zg 16 ?_;refine Zg 17 ?_;refine Zs 18 ?_;refine Zs 19 ?_;refine Zs 20 ?_;refine Zs 21 ?_;refine Zs 22 ?_;refine Zs 23 ?_;refine Zs 24 ?_;refine Zs 25 ?_;refine Zs 26 ?_;refine Zs 27 ?_;refine Zs 28 ?_;refine Zs 29 ?_;refine Zg 30 ?_;refine Zd ?_;go_wp2_with fail;go_roundw
         case rel=>exact ⟨k+1,v,by omega,by go_num,dh ⟨H2.out,Or.inr ⟨rfl,HJ.out⟩⟩⟩
         case measure=>simp [intOf]; omega
        have hb2:((classIter g m k:Int)==(classIter g m v:Int))=true:=by rw [beq_iff_eq,hcc]
        have Hcc:=dh hcc;clear hcc;obtain ⟨b,off,pa,pl,pc,ma,ml,mc,oa,ol,oc,hab,hT⟩:=ty_args (Graph.mono H1.out.cr.ext Hg.out) hkg;cases hab;obtain ⟨b2,off2,qa,ql,qc,na,nl,nc,xa,xl,xc,hab2,hT2⟩:=ty_args (Graph.mono H1.out.cr.ext Hg.out) hlt;cases hab2;obtain ⟨c0,c1,c2,c3,c4,c5,c6,c7,c8,c9,hps,hms1,hos,hok⟩:=hT;obtain ⟨d0,d1,d2,d3,d4,d5,d6,d7,d8,d9,hps2,hms2,hos2,hok2⟩:=hT2;go_upto_region 22 with (fail);refine Zr 99 ?_;change wpE _ _ _ _ _ _ _ _ (World.drew _);refine Zg 0 ?_;refine Zg 1 ?_;refine Zg 2 ?_;refine Zc 3 ck ?_;refine Zg 4 ?_;refine Zg 5 ?_;refine Zg 6 ?_;refine Zg 7 ?_;refine Zg 8 ?_;refine Zg 9 ?_;refine Zc 10 ek ?_;refine Zg 11 ?_;refine Zg 12 ?_;refine Zg 13 ?_;refine Zc 14 ei ?_;refine Zg 15 ?_;refine Zg 16 ?_;refine Zg 17 ?_;refine Zg 18 ?_;refine Zg 19 ?_;refine Zg 20 ?_;refine Zg 21 ?_;refine Zf 22 rfl (fun w9 hE=>by have c0E:=hE.cell c0; have c1E:=hE.cell c1; have c2E:=hE.cell c2; have c3E:=hE.cell c3; have c4E:=hE.cell c4; have c5E:=hE.cell c5; have c6E:=hE.cell c6; have c7E:=hE.cell c7; have c8E:=hE.cell c8; have c9E:=hE.cell c9; clear hE; first | (go_simp; done) | (go_simp; with_reducible rfl)) ?_;refine Zg 24 ?_;refine Zg 25 ?_;refine Zg 26 ?_;refine Zf 27 rfl (fun w9 hE=>by have d0E:=hE.cell d0; have d1E:=hE.cell d1; have d2E:=hE.cell d2; have d3E:=hE.cell d3; have d4E:=hE.cell d4; have d5E:=hE.cell d5; have d6E:=hE.cell d6; have d7E:=hE.cell d7; have d8E:=hE.cell d8; have d9E:=hE.cell d9; clear hE; first | (go_simp; done) | (go_simp; with_reducible rfl)) ?_;refine Zo 23 fun K hK=>?_;go_simp;refine (refs129 (nth g k) (refs_len (Hr.out k hkg)) _ _ _ _ _ _ _ _ _ _ (Parts.mono (Ext.drew _) hps) (Meths.mono (Ext.drew _) hms1) hok).mono ?_;rintro e w2 ⟨ra,rl,rc,rfl,hI,hE⟩;have H2:=dh (H1.out.mono ((Ext.drew _).trans hE));have hps2:=Parts.mono ((Ext.drew _).trans hE) hps2;have hms2:=Meths.mono ((Ext.drew _).trans hE) hms2;have HI:=dh hI;refine hK _ _ (hE) ?_; clear hK K;clear hE hI c0 c1 c2 c3 c4 c5 c6 c7 c8 c9 hps hms1 hos hok d0 d1 d2 d3 d4 d5 d6 d7 d8 d9 hos2 H1;refine Zo 28 fun K hK=>?_;go_simp;refine (refs129 (nth g v) (refs_len (Hr.out v hlt)) _ _ _ _ _ _ _ _ _ _ hps2 hms2 hok2).mono ?_;rintro e w3 ⟨sa,sl,sc,rfl,hI2,hE⟩;have H3:=dh (H2.out.mono hE);have HI:=dh (Ints.mono hE HI.out);have HI2:=dh hI2;refine hK _ _ (hE) ?_; clear hK K;clear hE hI2 hps2 hms2 hok2 H2;refine Zo 29 fun K hK=>?_;go_simp;have hci3:Ints w3 (.slice (some ⟨r,0,none⟩) g.length g.length) ((List.range g.length).map fun i=>(classIter g m i:Int)):=H3.out.cr.row.ints (by unfold maxBytes; omega) (fun i hi=>by have:=classIter_le g m i; omega);refine (alike128 _ _ _ (classIter g m) _ hci3 _ _ _ _ HI.out _ _ _ _ HI2.out (refs_in (Hr.out k hkg)) (refs_in (Hr.out v hlt))).mono ?_;rintro e w4 ⟨rfl,hE⟩;have H4:=dh (H3.out.mono hE);have hsq:sameB (fun (x y:Int)=>x==y) (List.map (fun r=>(classIter g m r.toNat:Int)) (refsOf (nth g k))) (List.map (fun r=>(classIter g m r.toNat:Int)) (refsOf (nth g v)))=stepQ g (classIter g m) v k :=
         sameB_symm (fun a b=>by rw [Bool.eq_iff_iff,beq_iff_eq,beq_iff_eq]; exact eq_comm) _ _
        rw [hsq];clear hsq;refine hK _ _ (hE) ?_; clear hK K;clear hE hci3 HI HI2 H3;refine Zg 30 ?_;refine Zd ?_;cases hst:stepQ g (classIter g m) v k
        ·have HJ:=dh (Hnx.out (by rw [hst]; simp));clear hst;go_wp2_with fail;go_roundw
         case rel=>exact ⟨k+1,v,by omega,by go_num,dh ⟨H4.out,Or.inr ⟨rfl,HJ.out⟩⟩⟩
         case measure=>simp [intOf]; omega
        ·have HJ:=dh (step_hit hki (by rw [hst,Hkk.out,Hcc.out]; simp) Hno.out);have H5:=dh ((H4.out.set v k).congr (fun j _=>upAt_set v (classIter g (m+1)) v k j));clear hst hci ck ek ei;have hcv:=H4.out.row2.cell hlt;have hfv:=H4.out.row2.free v;go_wp2_with fail;go_roundw
         case rel=>exact ⟨k+1,k,by omega,by go_num,dh ⟨H5.out,Or.inl ⟨HJ.out.symm,hki⟩⟩⟩
         case measure=>simp [intOf]; omega
      ·have hin:i=g.length:=by omega
       subst hin;have H2:=dh ((H1.out.congr (G2:=fun i=>(classIter g (m+1) i:Int)) (fun j hj=>by unfold upTo; rw [if_pos hj])).swap);go_wp2_with fail;go_roundw
       case rel=>exact ⟨m+1,r2,by omega,rfl,by go_num,H2⟩
       case measure=>simp [intOf]; omega
    ·have hmn:m=g.length+1:=by omega
     subst hmn;have H2:=dh (H1.out.congr (G:=fun i=>(classesOf g i:Int)) (fun j hj=>by rw [classes_last Hr.out hj]));go_wp2_with fail;go_ret;exact ⟨r,rfl,H2.out.row,H2.out.ext⟩
end
section
open Go.RowKit Go.Proofs
theorem checked92 (a:Option Addr) (n c:Nat) (g:List Ty) (w:World) (hg:Graph w (.slice a n c) g) :
  Calls Tryz.prog 92 #[.slice a n c,.slice none 0 0] w fun e w'=>e=.returned (.int .i64 (checkB g).2)/\Ext w w':=by
 have hcall:=dh (checkR89 a n c g w hg);clear hg
 go_enter Tryz.func92,Tryz.ntmps92
 go_wp2_with fail;refine hcall.out.mono ?_;rintro e w1 ⟨rfl,hE⟩;have HE:=dh hE;clear hE hcall;rcases checkB_cases g with ⟨h,_⟩ | h
 ·generalize (checkB g).1=k;have Hh:=dh h;rw [h];clear h;go_wp2_with fail;go_loopw [7] (fun i wr=>i=.int .i64 0/\wr=w1) (fun _ _=>0)
  case atStart=>exact ⟨rfl,rfl⟩
  case round =>
   obtain ⟨rfl,rfl⟩:=hrel;go_wp2_with fail;go_ret;exact ⟨by rw [Hh.out]; rfl,HE.out⟩
 ·generalize (checkB g).1=k;have Hh:=dh h;rw [h];clear h;go_wp2_with fail;go_ret;exact ⟨by rw [Hh.out]; rfl,HE.out⟩
theorem classesP57 (a:Option Addr) (n c:Nat) (g:List Ty) (w:World) (hg:Graph w (.slice a n c) g) (h0:(checkB g).2=0) (h400:n<=400) (hr:∀ i,i<n->rightB g (nth g i)=true) :
  Calls Tryz.prog 57 #[.slice a n c] w fun e w'=>∃ r,e=.returned (.tuple #[.slice (some ⟨r,0,none⟩) n n,.int .i64 0])/\RowI w' r n (fun i=>(classesOf g i:Int))/\Ext w w':=by
 have hcall:=checked92 a n c g w hg;rw [h0] at hcall;have Hcall:=dh hcall;have Hg:=dh hg;have Hr:=dh hr;clear hg hcall h0 hr
 go_enter Tryz.func57,Tryz.ntmps57
 go_wp2_with fail;refine Hcall.out.mono ?_;rintro e w1 ⟨rfl,hE⟩;have HE:=dh hE;clear hE Hcall;go_wp2_with fail;refine (classes93 a n c g w1 (Graph.mono HE.out Hg.out) Hr.out h400).mono ?_;rintro e w2 ⟨r,rfl,hR,hE⟩;have HR:=dh hR;have HE2:=dh (HE.out.trans hE);clear hE hR;go_wp2_with fail;go_ret2;exact ⟨r,rfl,HR.out,HE2.out⟩
theorem up_lt {g:List Ty} {rs:List Reveal} (hr:∀ i,i<g.length->rightB g (nth g i)=true) (hrt:∀ i,i<rs.length->0<=(nth rs i).type/\(nth rs i).type<g.length):∀ t,t<g.length->∀ u,u∈upsL g rs t->u<g.length:=fun t ht u hu=>by
 unfold upsL at hu;split at hu
 ·rename_i hs
  have h1:=right_super (hr t ht) hs;rcases List.mem_cons.1 hu with h | h
  ·omega
  ·split at h
   ·obtain ⟨k,hk,rfl⟩:=List.mem_map.1 h;have:=hrt k (byN_lt hk);omega
   ·cases h
 ·cases hu
theorem circ_iff {g:List Ty} {rs:List Reveal} (hr:∀ i,i<g.length->rightB g (nth g i)=true) (hrt:∀ i,i<rs.length->0<=(nth rs i).type/\(nth rs i).type<g.length) :
  circB (succC g (classesOf g) rs) g.length (classesOf g)=true↔∃ a,a<g.length/\Way (succC g (classesOf g) rs) a a:=by
 refine circB_iff (fun x hx u hu=>?_) (fun i hi=>Nat.lt_of_le_of_lt (classesOf_le g i) hi) (fun a ha hs=>?_)
 ·obtain ⟨t,b,ht,_,hb,rfl⟩:=mem_succC.1 hu;have:=up_lt hr hrt t ht b hb;have:=classesOf_le g b;omega
 ·obtain ⟨u,hu⟩:=List.exists_mem_of_ne_nil _ hs;obtain ⟨t,b,ht,hc,_⟩:=mem_succC.1 hu;exact ⟨t,ht,hc⟩
theorem checkR56 (ga:Option Addr) (n gc:Nat) (g:List Ty) (ra:Option Addr) (rn rc:Nat) (rs:List Reveal) (w:World) (hg:Graph w (.slice ga n gc) g) (hre:Reveals w (.slice ra rn rc) rs) :
  Calls Tryz.prog 56 #[.slice ga n gc,.slice ra rn rc] w fun e w'=>e=.returned (.int .i64 (openE g rs))/\Ext w w':=by
 have hgb:=(SlW.bound hg).2;have hrb:=(SlW.bound hre).2;obtain rfl:=SlW.len hg;obtain rfl:=SlW.len hre;have hcall:=dh (checkR89 ga g.length gc g w hg);have Hg:=dh hg;have Hre:=dh hre;clear hg hre
 go_enter Tryz.func56,Tryz.ntmps56
 go_wp2_with fail;refine hcall.out.mono ?_;rintro e w1 ⟨rfl,hE⟩;have HE:=dh hE;clear hE hcall;generalize hk1:(checkB g).1=k1;clear hk1;rcases checkB_cases g with ⟨h0,h400,hr⟩ | h0
 rotate_left
 ·have Hf:=dh (openE_graph (rs:=rs) h0);rw [h0];clear h0;go_wp2_with fail;go_ret;exact ⟨by rw [Hf.out]; rfl,HE.out⟩
 have H0:=dh h0;have Hr:=dh hr;rw [h0];clear h0 hr;by_cases h60:60<rs.length
 ·have Hf:=dh (openE_many H0.out h60);have h60i:(60:Int)<rs.length:=by omega
  go_wp2_with fail;go_ret;exact ⟨by rw [Hf.out]; rfl,HE.out⟩
 have h60i:¬ (60:Int)<rs.length:=by omega
 have Hbad:=dh (show ∀ k,k<rs.length->badRev g rs k=true->openE g rs=40 from fun k hk hb=>openE_bad H0.out h60 hk hb);go_upto_region 7 with (fail);go_loopw [7,8,9,10] (fun i _ _ _ wr=>∃ k:Nat,k<=rs.length/\i=.int .i64 k/\Hid (Ext w wr/\∀ j,j<k->badRev g rs j=false)) (fun i _ _ _ _=>rs.length-(intOf i).toNat)
 case atStart=>exact ⟨0,Nat.zero_le _,rfl,dh ⟨HE.out,fun j hj=>absurd hj (Nat.not_lt_zero _)⟩⟩
 case round =>
  clear HE;obtain ⟨k,hk,rfl,hH⟩:=hrel;have HE:=dh hH.out.1;have Hall:=dh hH.out.2;clear hH;by_cases hlt:k<rs.length
  ·obtain ⟨rb,rof,hab,hrl,r0,r1,r2,hsz,hlo,hhi⟩:=Reveals.at (Reveals.mono HE.out Hre.out) hlt;cases hab;obtain ⟨r,hrr⟩:∃ r,r=nth rs k:=⟨_,rfl⟩;have HB:=dh (show badRev g rs k=(!isSymbolB r.name||!hasI g.length r.type||isWordB (nth g r.type.toNat).kind||(nth g r.type.toNat).kind==5||(r.full&&(!(nth g r.type.toNat).branded||fullB rs k r.name))) by rw [hrr]; rfl);rw [<- hrr] at r0 r1 r2 hsz hlo hhi;have Hrr:=dh hrr;clear hrr;go_upto_region 10 with (fail);have HE2:=dh (Ext.alloc wr (.cells #[.string r.name,.bool r.full,.int .i64 r.type] 43));have hbx:(wr.alloc (.cells #[.string r.name,.bool r.full,.int .i64 r.type] 43)).heap[wr.heap.size]? = some (.cells #[.string r.name,.bool r.full,.int .i64 r.type] 43 (0,0)):=heap_alloc_new _ _;obtain ⟨W2,hW2⟩:∃ W2:World,W2=wr.alloc (.cells #[.string r.name,.bool r.full,.int .i64 r.type] 43):=⟨_,rfl⟩;rw [<- hW2] at HE2 hbx ⊢;clear r0 r1 r2 hW2;have r0:=row_cell hbx (j:=0) rfl;have r1:=row_cell hbx (j:=1) rfl;have r2:=row_cell hbx (j:=2) rfl;have HE2:=dh (HE.out.trans HE2.out);have Hbx:=dh hbx;have hbl:=row_lt hbx;clear HE hbx;generalize wr.heap.size=bx at r0 r1 r2 Hbx hbl ⊢;rename World=>W2;cases hsy:isSymbolB r.name
   ·have Hf:=dh (Hbad.out k hlt (by rw [HB.out,hsy]; rfl));have hsyc:=isSymbol90 r.name hsz;rw [hsy] at hsyc;clear hsy;go_wp2_with (go_at_call 90; refine (hsyc _).mono ?_; rintro e w' ⟨rfl,rfl⟩);go_ret;exact ⟨by rw [Hf.out]; rfl,HE2.out⟩
   have HB:=dh (show badRev g rs k=(!hasI g.length r.type||isWordB (nth g r.type.toNat).kind||(nth g r.type.toNat).kind==5||(r.full&&(!(nth g r.type.toNat).branded||fullB rs k r.name))) by rw [HB.out,hsy]; rfl);have hsyc:=isSymbol90 r.name hsz;rw [hsy] at hsyc;clear hsy;cases hin:hasI g.length r.type
   ·have Hf:=dh (Hbad.out k hlt (by rw [HB.out,hin]; rfl));rcases Int.lt_or_le r.type 0 with hn0 | hn0
    ·clear hin;go_wp2_with (go_at_call 90; refine (hsyc _).mono ?_; rintro e w' ⟨rfl,rfl⟩);go_ret;exact ⟨by rw [Hf.out]; rfl,HE2.out⟩
    ·have hge:=hasI_no hin hn0;clear hin;go_wp2_with (go_at_call 90; refine (hsyc _).mono ?_; rintro e w' ⟨rfl,rfl⟩);go_ret;exact ⟨by rw [Hf.out]; rfl,HE2.out⟩
   have hin2:=hasI_iff.1 hin;obtain ⟨ty,hty⟩:∃ ty:Nat,r.type=ty:=⟨r.type.toNat,(Int.toNat_of_nonneg hin2.1).symm⟩;have HB:=dh (show badRev g rs k=(isWordB (nth g ty).kind||(nth g ty).kind==5||(r.full&&(!(nth g ty).branded||fullB rs k r.name))) by rw [HB.out,hin,hty]; rfl);rw [hty] at r2 hin2;have htl:ty<g.length:=by omega
   clear hin hty hin2 hlo hhi;obtain ⟨tb,tof,pa,pl,pc,ma,ml,mc,oa,ol,oc,hab,hT⟩:=ty_args (Graph.mono HE2.out Hg.out) htl;cases hab;obtain ⟨c0,c1,c2,c3,c4,c5,c6,c7,c8,c9,_,_,_,_⟩:=hT;obtain ⟨t,ht⟩:∃ t,t=nth g ty:=⟨_,rfl⟩;rw [<- ht] at c0 c1 c2 c3 c4 c5 c6 HB;clear ht;go_upto_region 13 with (go_at_call 90; refine (hsyc _).mono ?_; rintro e w' ⟨rfl,rfl⟩);have HE3:=dh (Ext.alloc W2 (.cells (tyArr t pa pl pc ma ml mc oa ol oc) 50));have htx:(W2.alloc (.cells (tyArr t pa pl pc ma ml mc oa ol oc) 50)).heap[W2.heap.size]? = some (.cells (tyArr t pa pl pc ma ml mc oa ol oc) 50 (0,0)):=heap_alloc_new _ _;obtain ⟨W3,hW3⟩:∃ W3:World,W3=W2.alloc (.cells (tyArr t pa pl pc ma ml mc oa ol oc) 50):=⟨_,rfl⟩;rw [<- hW3] at HE3 htx;unfold tyArr at hW3;rw [<- hW3];have Hbx:=dh ((HE3.out.block _ hbl).trans Hbx.out);have HE3:=dh (HE2.out.trans HE3.out);have Htx:=dh htx;clear r0 r1 r2 c0 c1 c2 c3 c4 c5 c6 c7 c8 c9 hW3 HE2 htx hsyc;generalize W2.heap.size=tx at Htx ⊢;rename World=>W3;have r1:=row_cell Hbx.out (j:=1) rfl;obtain ⟨b0,b1,b2,b3,b4,b5,b6,b7,b8,b9⟩:=tyBox_of Htx.out;cases hfl:r.full
   ·rw [hfl] at r1 Hbx;have HB:=dh (show badRev g rs k=(isWordB t.kind||t.kind==5||false) by rw [HB.out,hfl]; rfl);clear hfl;go_wp2_with fail;refine (word66 t pa pl pc ma ml mc oa ol oc W3).mono ?_;rintro e w4 ⟨rfl,hE⟩;have HE4:=dh (HE3.out.trans hE);have Hbx:=dh ((hE.block _ (row_lt Hbx.out)).trans Hbx.out);have b0:=hE.cell b0;clear hE r1 b1 b2 b3 b4 b5 b6 b7 b8 b9 Htx;cases hwd:isWordB t.kind;rotate_left
    ·have Hf:=dh (Hbad.out k hlt (by rw [HB.out,hwd]; rfl));clear hwd;go_wp2_with fail;go_ret;exact ⟨by rw [Hf.out]; rfl,HE4.out⟩
    have HB:=dh (show badRev g rs k=(t.kind==5||false) by rw [HB.out,hwd]; rfl);clear hwd;cases hk5:(t.kind==5);rotate_left
    ·have Hf:=dh (Hbad.out k hlt (by rw [HB.out,hk5]; rfl));go_wp2_with fail;go_ret;exact ⟨by rw [Hf.out]; rfl,HE4.out⟩
    have HB:=dh (show badRev g rs k=false by rw [HB.out,hk5]; rfl);go_upto_region 16 with (fail);clear hk5 b0;go_loopw [10] (fun dv wx=>∃ d:Nat,d<=k/\dv=.int .i64 d/\Hid (Ext w4 wx)/\Hid (Ext w wx/\d<=k)) (fun dv _=>k-(intOf dv).toNat)
    case atStart=>exact ⟨0,Nat.zero_le _,rfl,dh (Ext.refl _),dh ⟨HE4.out,Nat.zero_le _⟩⟩
    case round =>
     obtain ⟨d,hd,rfl,hX,hJ⟩:=hrel;by_cases hdk:d<k
     ·have hEw:=hJ.out.1;have hbx2:=(hX.out.block _ (row_lt Hbx.out)).trans Hbx.out;have r0:=row_cell hbx2 (j:=0) rfl;have r1:=row_cell hbx2 (j:=1) rfl;clear hEw hbx2;go_upto_region 18 with (fail)
      go_quiet (fail)
      go_wp2_with fail;go_roundw
      case rel=>exact ⟨d+1,by omega,by go_num,dh (below_drewN hX.out _),dh ⟨below_drewN hJ.out.1 _,by omega⟩⟩
      case measure=>simp [intOf]; omega
     ·have HJ2:=dh (show ∀ j,j<k+1->badRev g rs j=false from fun j hj=>by
       by_cases hjk:j=k
       ·rw [hjk,HB.out]
       ·exact Hall.out j (by omega))
      go_wp2_with fail;go_roundw
      case rel=>exact ⟨k+1,by omega,by go_num,dh ⟨hJ.out.1,HJ2.out⟩⟩
      case measure=>simp [intOf]; omega
   rw [hfl] at r1 Hbx;cases hbr:t.branded
   ·have Hf:=dh (Hbad.out k hlt (by rw [HB.out,hfl,hbr]; simp));rw [hbr] at b3;clear hfl hbr;go_wp2_with fail;go_ret;exact ⟨by rw [Hf.out]; rfl,HE3.out⟩
   have HB:=dh (show badRev g rs k=(isWordB t.kind||t.kind==5||fullB rs k r.name) by rw [HB.out,hfl,hbr]; rfl);rw [hbr] at b3;have Hbr:=dh hbr;clear hfl hbr;have hcall:=word66 t pa pl pc ma ml mc oa ol oc W3;unfold tyArr at hcall;rw [Hbr.out] at hcall;go_wp2_with fail;refine hcall.mono ?_;rintro e w4 ⟨rfl,hE⟩;have HE4:=dh (HE3.out.trans hE);have Hbx:=dh ((hE.block _ (row_lt Hbx.out)).trans Hbx.out);have b0:=hE.cell b0;clear hE r1 b1 b2 b3 b4 b5 b6 b7 b8 b9 Htx;cases hwd:isWordB t.kind;rotate_left
   ·have Hf:=dh (Hbad.out k hlt (by rw [HB.out,hwd]; rfl));clear hwd;go_wp2_with fail;go_ret;exact ⟨by rw [Hf.out]; rfl,HE4.out⟩
   have HB:=dh (show badRev g rs k=(t.kind==5||fullB rs k r.name) by rw [HB.out,hwd]; rfl);clear hwd;cases hk5:(t.kind==5);rotate_left
   ·have Hf:=dh (Hbad.out k hlt (by rw [HB.out,hk5]; rfl));go_wp2_with fail;go_ret;exact ⟨by rw [Hf.out]; rfl,HE4.out⟩
   have HB:=dh (show badRev g rs k=fullB rs k r.name by rw [HB.out,hk5]; rfl);go_upto_region 16 with (fail);clear hk5 b0;go_loopw [10] (fun dv wx=>∃ d:Nat,d<=k/\dv=.int .i64 d/\Hid (Ext w4 wx)/\Hid (Ext w wx/\∀ j,j<d->((nth rs j).full&&(nth rs j).name==r.name)=false)) (fun dv _=>k-(intOf dv).toNat)
   case atStart=>exact ⟨0,Nat.zero_le _,rfl,dh (Ext.refl _),dh ⟨HE4.out,fun j hj=>absurd hj (Nat.not_lt_zero _)⟩⟩
   case round =>
    obtain ⟨d,hd,rfl,hX,hJ⟩:=hrel;by_cases hdk:d<k
    ·have hEw:=hJ.out.1;have hbx2:=(hX.out.block _ (row_lt Hbx.out)).trans Hbx.out;have r0:=row_cell hbx2 (j:=0) rfl;have r1:=row_cell hbx2 (j:=1) rfl;clear hEw hbx2;obtain ⟨qb,qof,hab,_,q0,q1,q2,_,_,_⟩:=Reveals.at (Reveals.mono hJ.out.1 Hre.out) (show d<rs.length by omega);cases hab;obtain ⟨q,hqq⟩:∃ q,q=nth rs d:=⟨_,rfl⟩;rw [<- hqq] at q0 q1 q2;have Hqq:=dh hqq;clear hqq;have Hn2:=dh (show (q.full&&q.name==r.name)=false->∀ j,j<d+1->((nth rs j).full&&(nth rs j).name==r.name)=false from fun h j hj=>by
      by_cases hjd:j=d
      ·rw [hjd,<- Hqq.out]; exact h
      ·exact hJ.out.2 j (by omega))
     cases hqf:q.full
     ·rw [hqf] at q1;have HJ2:=dh (Hn2.out (by rw [hqf]; rfl));clear hqf;go_upto_region 18 with (fail)
      go_quiet (fail)
      go_wp2_with fail;go_roundw
      case rel=>exact ⟨d+1,by omega,by go_num,dh (below_drewN hX.out _),dh ⟨below_drewN hJ.out.1 _,HJ2.out⟩⟩
      case measure=>simp [intOf]; omega
     ·rw [hqf] at q1;cases hqn:(q.name==r.name)
      ·have HJ2:=dh (Hn2.out (by rw [hqf,hqn]; rfl));rw [beq_toListBytes] at hqn;clear hqf;go_upto_region 18 with (fail)
       go_quiet (fail)
       go_wp2_with fail;go_roundw
       case rel=>exact ⟨d+1,by omega,by go_num,dh (below_drewN hX.out _),dh ⟨below_drewN hJ.out.1 _,HJ2.out⟩⟩
       case measure=>simp [intOf]; omega
      ·have Hf:=dh (Hbad.out k hlt (by
        rw [HB.out];have:fullB rs k r.name=true:=by
         unfold fullB;rw [List.any_eq_true];exact ⟨d,List.mem_range.2 hdk,by rw [<- Hqq.out,hqf,hqn]; rfl⟩
        rw [this]))
       rw [beq_toListBytes] at hqn;clear hqf;go_upto_region 18 with (fail)
       go_quiet (fail)
       go_wp2_with fail;go_ret;exact ⟨by rw [Hf.out]; rfl,below_drewN hJ.out.1 _⟩
    ·have HJ2:=dh (show ∀ j,j<k+1->badRev g rs j=false from fun j hj=>by
      by_cases hjk:j=k
      ·rw [hjk,HB.out];unfold fullB;rw [List.any_eq_false];exact fun j hj=>by rw [hJ.out.2 j (by have:=List.mem_range.1 hj; omega)]; decide
      ·exact Hall.out j (by omega))
     go_wp2_with fail;go_roundw
     case rel=>exact ⟨k+1,by omega,by go_num,dh ⟨hJ.out.1,HJ2.out⟩⟩
     case measure=>simp [intOf]; omega
  ·have hkl:k=rs.length:=by omega
   subst hkl;have Hrt:=dh (show ∀ i,i<rs.length->0<=(nth rs i).type/\(nth rs i).type<g.length from fun i hi=>rev_in (Hall.out i hi));have Hci:=dh (openE_circ H0.out h60 Hall.out);go_wp2_with fail;refine (classesP57 _ _ _ g _ (Graph.mono HE.out Hg.out) H0.out h400 Hr.out).mono ?_;rintro e w2 ⟨r,rfl,hR,hE⟩;have HR:=dh (hR.ints (by unfold maxBytes; omega) (fun i hi=>by have:=classesOf_le g i; omega));have HE2:=dh (HE.out.trans hE);clear hE hR HE;go_wp2_with fail;refine (circle91 _ _ _ g _ _ _ rs _ _ (classesOf g) _ (Graph.mono HE2.out Hg.out) (Reveals.mono HE2.out Hre.out) HR.out h400 (classesOf_le g) (fun a ha hs=>(right_super (Hr.out a ha) hs).1) (up_lt Hr.out Hrt.out) (fun i hi=>(Hrt.out i hi).1)).mono ?_;rintro e w3 ⟨res,rfl,hres,hE⟩;have hcir:circB (succC g (classesOf g) rs) g.length (classesOf g)=res:=by
    rw [Bool.eq_iff_iff,circ_iff Hr.out Hrt.out,hres]
   have Ho:=dh (show openE g rs=if res then 40 else 0 by rw [Hci.out,hcir]);have HE3:=dh (HE2.out.trans hE);clear hE hres hcir HE2 HR;cases res
   ·go_wp2_with fail;go_ret;exact ⟨by rw [Ho.out]; rfl,HE3.out⟩
   ·go_wp2_with fail;go_ret;exact ⟨by rw [Ho.out]; rfl,HE3.out⟩
end
end Go.Proofs.YtjffkeoajkhbmaaGreat
