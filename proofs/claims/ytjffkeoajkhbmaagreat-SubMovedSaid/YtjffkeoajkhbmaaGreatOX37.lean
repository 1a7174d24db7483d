/- Merge, for a graph that is right. Rows that are written in place, element by element. -/
import Derived.Test.YtjffkeoajkhbmaaGreatOX10
import Derived.Test.YtjffkeoajkhbmaaGreatOX29
import Derived.Test.YtjffkeoajkhbmaaGreatOX31
import Derived.Test.YtjffkeoajkhbmaaGreatOX34
import Derived.Test.YtjffkeoajkhbmaaGreatOX36
namespace Go.Proofs.YtjffkeoajkhbmaaGreat
set_option linter.unusedSimpArgs false
set_option linter.unusedVariables false
set_option maxRecDepth 100000
set_option maxHeartbeats 8000000
section
open Go.RowKit Go.Proofs Go.Shelf
theorem enters76:Enters Tryz.prog 76:=enters_of Tryz.func76 (by kernel_rfl) rfl
theorem enters79:Enters Tryz.prog 79:=enters_of Tryz.func79 (by kernel_rfl) rfl
theorem place_snoc (C:Nat->Nat) (k:Nat):place9 C (k+1)=place9 C k+if C k=k then 1 else 0:=by
 unfold place9;rw [leads_snoc,List.length_append];by_cases h:C k=k
 ·rw [if_pos h,if_pos (by simpa using h)]; rfl
 ·rw [if_neg h,if_neg (by simpa using h)]; rfl
theorem place_le (C:Nat->Nat) (k:Nat):place9 C k<=k:=by
 unfold place9 leads9;have:=List.length_filter_le (fun i=>C i==i) (List.range k)
 rwa [List.length_range] at this
def placeF (C:Nat->Nat) (k i:Nat):Int:=if i<k/\C i=i then (place9 C i:Int) else 0
structure MergeI (w wr:World) (cb r pb pr n:Nat) (C:Nat->Nat) (k:Nat):Prop where
 ext:Ext w wr
 cbx:wr.heap[cb]? = some (.cells #[.slice (some ⟨r,0,none⟩) n n] 35 (0,0))
 cls:RowI wr r n fun i=>(C i:Int)
 pbx:wr.heap[pb]? = some (.cells #[.slice (some ⟨pr,0,none⟩) n n] 35 (0,0))
 plc:RowI wr pr n (placeF C k)
 lo:w.heap.size<=pr
 ne:pr≠r
theorem MergeI.mono {w wr w2:World} {cb r pb pr n:Nat} {C:Nat->Nat} {k:Nat} (h:MergeI w wr cb r pb pr n C k) (hE:Ext wr w2):MergeI w w2 cb r pb pr n C k :=
 ⟨h.ext.trans hE,(hE.block _ (row_lt h.cbx)).trans h.cbx,h.cls.ext hE,(hE.block _ (row_lt h.pbx)).trans h.pbx,h.plc.ext hE,h.lo,h.ne⟩
theorem MergeI.put {w wr:World} {cb r pb pr n:Nat} {C:Nat->Nat} {k:Nat} (h:MergeI w wr cb r pb pr n C k) (hl:C k=k):MergeI w (wr.setCell ⟨pr,k,none⟩ (.int .i64 (place9 C k))) cb r pb pr n C (k+1):=by
 have n1:cb≠pr:=(ne_type h.plc h.cbx (by decide)).symm;have n2:pb≠pr:=(ne_type h.plc h.pbx (by decide)).symm;refine ⟨Below.setCell h.ext h.lo _,(Below.heap_setCell _ _ _ _ n1).trans h.cbx,(Below.heap_setCell _ _ _ _ h.ne.symm).trans h.cls,(Below.heap_setCell _ _ _ _ n2).trans h.pbx,(h.plc.set k _).congr fun i hi=>?_,h.lo,h.ne⟩;unfold placeF;by_cases e:i=k
 ·subst e; rw [if_pos rfl,if_pos ⟨by omega,hl⟩]
 ·rw [if_neg e];by_cases h2:i<k/\C i=i
  ·rw [if_pos h2,if_pos ⟨by omega,h2.2⟩]
  ·rw [if_neg h2,if_neg (fun h3=>h2 ⟨by omega,h3.2⟩)]
theorem MergeI.skip {w wr:World} {cb r pb pr n:Nat} {C:Nat->Nat} {k:Nat} (h:MergeI w wr cb r pb pr n C k) (hl:¬ C k=k):MergeI w wr cb r pb pr n C (k+1) :=
 ⟨h.ext,h.cbx,h.cls,h.pbx,h.plc.congr fun i hi=>by
  unfold placeF;by_cases h2:i<k/\C i=i
  ·rw [if_pos h2,if_pos ⟨by omega,h2.2⟩]
  ·rw [if_neg h2,if_neg (fun h3=>h2 ⟨by
    by_cases e:i=k
    ·subst e; exact absurd h3.2 hl
    ·omega,h3.2⟩)],h.lo,h.ne⟩
def mergeL (g:List Ty) (k:Nat):List Ty:=(leads9 (classesOf g) k).map fun i=>relT (toM g) (nth g i)
theorem mergeL_le (g:List Ty) (k:Nat):(mergeL g k).length<=k:=by unfold mergeL; rw [List.length_map]; exact place_le (classesOf g) k
theorem mergeL_hit {g:List Ty} {k:Nat} (h:classesOf g k=k):mergeL g (k+1)=mergeL g k++[relT (toM g) (nth g k)]:=by
 unfold mergeL;rw [leads_snoc,if_pos (by simpa using h),List.map_append]; rfl
theorem mergeL_miss {g:List Ty} {k:Nat} (h:¬ classesOf g k=k):mergeL g (k+1)=mergeL g k:=by
 unfold mergeL;rw [leads_snoc,if_neg (by simpa using h),List.append_nil]
theorem rel_ok {f:Nat->Nat} {t:Ty} (h:TyOk t) (hf:hasSuperB t.kind=true->(f t.super.toNat:Int)<=9223372036854775807):TyOk (relT f t):=by
 refine ⟨h.k0,h.k1,h.l0,h.l1,h.h0,h.h1,?_,?_,h.b,h.o⟩
 ·rw [rel_super];split
  ·omega
  ·exact h.s0
 ·rw [rel_super];split
  ·rename_i hs; exact hf hs
  ·exact h.s1
theorem MergeI.to {w wr:World} {cb r pb pr:Nat} {g:List Ty} (h:MergeI w wr cb r pb pr g.length (classesOf g) g.length) {i:Int} (hi:0<=i/\i<g.length):Calls Tryz.prog 76 (#[.int .i64 i]++#[.pointer (some ⟨pb,0,none⟩),.pointer (some ⟨cb,0,none⟩)]) wr fun e w'=>e=.returned (.int .i64 (toM g i.toNat))/\Ext wr w':=by
 obtain ⟨j,rfl⟩:∃ j:Nat,i=j:=⟨i.toNat,by omega⟩;have hj:j<g.length:=by omega
 have hc:classesOf g j<g.length:=Nat.lt_of_le_of_lt (classesOf_le g j) hj;have h4:=h.plc.cell hc;unfold placeF at h4;rw [if_pos ⟨hc,(leading_classes g j).2⟩] at h4;exact place76 j _ _ _ pb cb pr r wr hj hc (row_cell h.pbx (j:=0) rfl) (row_cell h.cbx (j:=0) rfl) (h.cls.cell hj) h4
theorem MergeI.to2 {w wr:World} {cb r pb pr:Nat} {g:List Ty} (h:MergeI w wr cb r pb pr g.length (classesOf g) g.length) {j:Nat} (hj:j<g.length):Calls Tryz.prog 79 (#[.int .i64 (classesOf g j:Nat)]++#[.pointer (some ⟨pb,0,none⟩)]) wr fun e w'=>e=.returned (.int .i64 (toM g j))/\Ext wr w':=by
 have hc:classesOf g j<g.length:=Nat.lt_of_le_of_lt (classesOf_le g j) hj;have h4:=h.plc.cell hc;unfold placeF at h4;rw [if_pos ⟨hc,(leading_classes g j).2⟩] at h4;exact place79 _ _ _ pb pr wr hc (row_cell h.pbx (j:=0) rfl) h4
theorem nth_range {F:Nat->Int} {n k:Nat} (hk:k<n):nth ((List.range n).map F) k=F k:=by
 rw [nth_eq (by simpa using hk)]; simp
def MergePost (w:World) (g:List Ty) (e:Ending) (w':World):Prop:=∃ oa on oc ta tc,e=.returned (.tuple #[.slice oa on oc,.slice ta g.length tc,.int .i64 0])/\Graph w' (.slice oa on oc) (mergeG g) /\
 Ints w' (.slice ta g.length tc) ((List.range g.length).map fun i=>(toM g i:Int))/\Ext w w'
theorem merge42 (a:Option Addr) (n c:Nat) (g:List Ty) (w:World) (hg:Graph w (.slice a n c) g) (h0:(checkB g).2=0):Calls Tryz.prog 42 #[.slice a n c] w (MergePost w g):=by
 have Hop:=dh (opened63 a n c g none 0 0 [] w hg (SlW.nil _ _ _));obtain rfl:=SlW.len hg;obtain ⟨h400,hr,_⟩:=check_ok h0;have hE0:=openedE_ok (l:=[]) h0 (fun i hi=>by cases hi);rw [hE0] at Hop;have Hg:=dh hg;have Hr:=dh hr;have hmk:=makeInts g.length (by omega);have hle:∀ i,classesOf g i<=i:=classesOf_le g;have HC:=dh hle;clear hg hr hE0 h0 hle
 go_enter Tryz.func42,Tryz.ntmps42
 go_wp2_with fail;refine Hop.out.mono ?_;rintro e w1 ⟨rfl,hE⟩;have hE2:Ext w (w1.alloc (.cells #[.slice a g.length c] 118)):=hE.trans (Ext.alloc _ _);have HE:=dh hE2; clear hE hE2 Hop;go_wp2_with fail;refine (classes70 a _ c g _ (Graph.mono HE.out Hg.out) Hr.out h400).mono ?_;rintro e w2 ⟨r,rfl,hrow,hE,-⟩;have Hrow:=dh hrow;have HE:=dh (HE.out.trans hE);clear hrow hE;go_wp2_with fail;obtain ⟨A,hA⟩:∃ A:World,A=w2.alloc (.cells #[.slice (some ⟨r,0,none⟩) g.length g.length] 35):=⟨_,rfl⟩;obtain ⟨B,hB⟩:∃ B:World,B=A.alloc (.cells (madeCells #[.int .i64 0] g.length) 3):=⟨_,rfl⟩;obtain ⟨W0,hW0⟩:∃ W0:World,W0=B.alloc (.cells #[.slice (some ⟨w2.heap.size+1,0,none⟩) g.length g.length] 35):=⟨_,rfl⟩;have sA:A.heap.size=w2.heap.size+1:=by rw [hA]; exact World.size_alloc _ _
 have sB:B.heap.size=w2.heap.size+1+1:=by rw [hB,World.size_alloc,sA]
 have hI:MergeI w W0 w2.heap.size r (w2.heap.size+1+1) (w2.heap.size+1) g.length (classesOf g) 0:=by
  have hEA:Ext w2 W0:=by rw [hW0,hB,hA]; exact ((Ext.alloc _ _).trans (Ext.alloc _ _)).trans (Ext.alloc _ _)
  have h1:A.heap[w2.heap.size]? = some (.cells #[.slice (some ⟨r,0,none⟩) g.length g.length] 35 (0,0)):=by rw [hA]; exact heap_alloc_new _ _
  have h2:RowI B (w2.heap.size+1) g.length (fun _=>0):=by rw [hB,<- sA]; exact RowI.make _ _
  refine ⟨HE.out.trans hEA,?_,Hrow.out.ext hEA,?_,?_,by have:=HE.out.size; omega,by have:=Hrow.out.lt; omega⟩
  ·rw [hW0,hB];exact (((Ext.alloc _ _).trans (Ext.alloc _ _)).block _ (by omega)).trans h1
  ·rw [hW0,<- sB]; exact heap_alloc_new _ _
  ·rw [hW0];exact (h2.ext (Ext.alloc _ _)).congr fun i hi=>by unfold placeF; rw [if_neg (by omega)]
 have HI:=dh hI;rw [<- hA,<- hB,<- hW0];have HE1:=HE;clear hI hA hB hW0 sA sB HE HE1 Hrow hmk;generalize w2.heap.size+1+1=pb at HI ⊢;generalize w2.heap.size+1=pr at HI ⊢;generalize w2.heap.size=cb at HI ⊢;have hC0:place9 (classesOf g) 0=0:=rfl;go_loopw [9,10,11,31] (fun v9 _ _ v31 wr=>∃ k:Nat,k<=g.length/\v31=.int .i64 k/\v9=.int .i64 (place9 (classesOf g) k)/\Hid (MergeI w wr cb r pb pr g.length (classesOf g) k)) (fun _ _ _ i _=>g.length-(intOf i).toNat)
 case atStart=>exact ⟨0,Nat.zero_le _,rfl,rfl,HI⟩
 case round =>
  clear HI hC0;obtain ⟨k,hk,rfl,rfl,HI⟩:=hrel;by_cases hkn:k<g.length
  ·have hko:(k:Int)<g.length:=by omega
   have dc:=HI.out.cls.cell hkn;have Hps:=dh (place_snoc (classesOf g) k);have hpl:=place_le (classesOf g) k;obtain ⟨q,hq⟩:∃ q,q=place9 (classesOf g) k:=⟨_,rfl⟩;rw [<- hq] at hpl ⊢;have Hq:=dh hq;clear hq;by_cases hck:classesOf g k=k
   ·have hcb:((classesOf g k:Int)==(k:Int))=true:=by rw [beq_iff_eq,hck]
    have e1:=row_cell HI.out.pbx (j:=0) rfl;have e2:=HI.out.plc.cell hkn;have f2:=HI.out.plc.free k;have HJ:=dh (HI.out.put hck);rw [<- Hq.out] at HJ;have Hp2:=dh (show place9 (classesOf g) (k+1)=q+1 by rw [Hps.out,if_pos hck,Hq.out]);clear HI Hps hck;go_wp2_with fail;go_roundw
    case rel=>exact ⟨k+1,by omega,by go_num,by rw [Hp2.out]; go_num,HJ⟩
    case measure=>simp [intOf]; omega
   ·have hcb:((classesOf g k:Int)==(k:Int))=false:=by rw [beq_eq_false_iff_ne]; omega
    have HJ:=dh (HI.out.skip hck);have Hp2:=dh (show place9 (classesOf g) (k+1)=q by rw [Hps.out,if_neg hck,Hq.out]; rfl);clear HI Hps hck;go_wp2_with fail;go_roundw
    case rel=>exact ⟨k+1,by omega,by go_num,by rw [Hp2.out],HJ⟩
    case measure=>simp [intOf]; omega
  ·have hkn:k=g.length:=by omega
   subst hkn;rename World=>V;go_wp2_with fail;have HN:=dh (show NewL IsTy 50 10 V V (.slice none 0 0) (mergeL g 0) from NewL.nil V);obtain ⟨i0,hi,hz0,hz1,hz2⟩:=info_parts info50c;go_loopw [13,14,15,49] (fun v13 _ _ v49 wr=>∃ k:Nat,k<=g.length/\v49=.int .i64 k/\(∃ b m d,v13=.slice b m d)/\Hid (NewL IsTy 50 10 V wr v13 (mergeL g k))) (fun _ _ _ i _=>g.length-(intOf i).toNat)
   case atStart=>exact ⟨0,Nat.zero_le _,rfl,⟨_,_,_,rfl⟩,HN⟩
   case round =>
    clear HN;obtain ⟨k,hk,rfl,⟨vb,vm,vd,rfl⟩,HN⟩:=hrel;have HJ:=dh (HI.out.mono HN.out.1);by_cases hkn:k<g.length
    ·have hko:(k:Int)<g.length:=by omega
     obtain ⟨tb,tof,pa,pl,pc,ma,ml,mc,oa,ol,oc,hab,hbl,hT⟩:=Graph.at (Graph.mono HJ.out.ext Hg.out) hkn;obtain ⟨t,ht⟩:∃ t,t=nth g k:=⟨_,rfl⟩;rw [<- ht] at hT;obtain ⟨d0,d1,d2,d3,d4,d5,d6,d7,d8,d9,hps,hms,hos,hok⟩:=hT;have hrt:rightB g t=true:=by rw [ht]; exact Hr.out k hkn
     have dc:=HJ.out.cls.cell hkn;have e1:=row_cell HJ.out.cbx (j:=0) rfl;have l1:=cell_lt e1;have l2:=cell_lt dc;have Hps:=dh hps;have Hms:=dh hms;have Hos:=dh hos;have Hok:=dh hok;have Hrt:=dh hrt;have Ht:=dh ht;clear hps hms hos hok hrt ht;subst hab;by_cases hck:classesOf g k=k;rotate_left
     ·have hcb:((classesOf g k:Int)==(k:Int))=false:=by rw [beq_eq_false_iff_ne]; omega
      have HN2:=dh (fun w2 (hE:Ext wr w2)=>NewL.mono (R:=IsTy) (fun h=>IsTy.le h) HN.out hE);have Hms:=dh (mergeL_miss hck);clear hck HN;go_wp2_with fail;go_roundw
      case rel=>exact ⟨k+1,by omega,by go_num,⟨_,_,_,rfl⟩,dh (by rw [Hms.out]; exact HN2.out _ (Ext.alloc _ _))⟩
      case measure=>simp [intOf]; omega
     ·have hcb:((classesOf g k:Int)==(k:Int))=true:=by rw [beq_iff_eq,hck]
      have Hhit:=dh (mergeL_hit hck);clear hck;go_upto_region 20 with (fail);obtain ⟨W1,hW1⟩:∃ W1:World,W1=wr.alloc (.cells (tyArr t pa pl pc ma ml mc oa ol oc) 50):=⟨_,rfl⟩;have hE1:Ext wr W1:=by rw [hW1]; exact Ext.alloc _ _
      have hb1:W1.heap[wr.heap.size]? = some (.cells (tyArr t pa pl pc ma ml mc oa ol oc) 50 (0,0)):=by rw [hW1]; exact heap_alloc_new _ _
      unfold tyArr at hW1;rw [<- hW1];clear hW1 d0 d1 d2 d3 d4 d5 d6 d7 d8 d9 dc e1;have HE1:=dh hE1;obtain ⟨u,hu⟩:∃ u,u=relT (toM g) t:=⟨_,rfl⟩;have hin:∀ r,r∈refsOf t->0<=r/\r<g.length:=refs_in Hrt.out;have hto:∀ i,i<g.length->toM g i<g.length:=fun i hi=>by
       have:=(merge_morph Hr.out).lt i hi;have:=merge_le g;omega
      have hcall:=moved77 76 enters76 #[.pointer (some ⟨pb,0,none⟩),.pointer (some ⟨cb,0,none⟩)] t pa pl pc ma ml mc oa ol oc (toM g) W1 (Parts.mono hE1 Hps.out) (Meths.mono hE1 Hms.out) (Overs.mono hE1 Hos.out) Hok.out
       (by have:=right_parts Hrt.out; have:=SlW.len Hps.out; omega) (by have:=(right_methods Hrt.out).1; have:=SlW.len Hms.out; omega) (by have:=(right_methods Hrt.out).2.1; have:=SlW.len Hos.out; omega)
       (fun m hm=>by have:=(right_methods Hrt.out).2.2 m hm; omega) (fun r hr=>by have h1:=hin r hr; have:=hto r.toNat (by omega); omega)
       (fun r w2 hr hE=>(HJ.out.mono (hE1.trans hE)).to (hin r hr))
      have huo:TyOk u:=by rw [hu]; exact rel_ok Hok.out (fun hs=>by have h1:=hin _ (ref_super hs); have:=hto t.super.toNat (by omega); omega)
      rw [<- hu] at hcall;unfold tyArr at hcall;rw [<- Ht.out,<- hu] at Hhit;have Hcall:=dh hcall;have Huo:=dh huo;obtain ⟨b0,b1,b2,b3,b4,b5,b6,b7,b8,b9⟩:=tyBox_of hb1;clear hE1 hb1 hin hto hcall huo hu Hps Hms Hos Hok Hrt Ht;go_wp2_with fail;refine Hcall.out.mono ?_;rintro e W2 ⟨qa,ql,qc,ka,kl,kc,ja,jl,jc,he,hp,hm,ho,hE⟩;unfold tyArr at he;subst he;have HB:=dh (NewL.see (R:=IsTy) (fun h=>IsTy.le h) HN.out HE1.out (show IsTy (only W2 (fromB W1.heap.size)) u (tyCells u (.slice qa ql qc) (.slice ka kl kc) (.slice ja jl jc)) from ⟨_,_,_,rfl,hp,hm,ho,Huo.out⟩));have HN2:=dh (NewL.mono (R:=IsTy) (fun h=>IsTy.le h) HN.out (HE1.out.trans hE));clear b0 b1 b2 b3 b4 b5 b6 b7 b8 b9 hp hm ho hE Hcall HN HE1;have hO:=NewL.mono (R:=IsTy) (fun h=>IsTy.le h) HN2.out (Ext.alloc W2 (.cells #[.int .u8 u.kind,.int .i64 u.low,.int .i64 u.high,.bool u.branded,.string u.brand,.string u.opq,.int .i64 u.super,.slice qa ql qc,.slice ka kl kc,.slice ja jl jc] 50));have hone:SlW (fun _=>IsTy (only (W2.alloc (.cells #[.int .u8 u.kind,.int .i64 u.low,.int .i64 u.high,.bool u.branded,.string u.brand,.string u.opq,.int .i64 u.super,.slice qa ql qc,.slice ka kl kc,.slice ja jl jc] 50)) (ownP V.heap.size (.slice vb vm vd)))) 10 (W2.alloc (.cells #[.int .u8 u.kind,.int .i64 u.low,.int .i64 u.high,.bool u.branded,.string u.brand,.string u.opq,.int .i64 u.super,.slice qa ql qc,.slice ka kl kc,.slice ja jl jc] 50)) (.slice (some ⟨W2.heap.size,0,none⟩) 1 1) [u] :=
       slw_one (cs:=tyCells u (.slice qa ql qc) (.slice ka kl kc) (.slice ja jl jc)) (heap_alloc_new _ _) (IsTy.le ((Ext.alloc _ _).only _) HB.out) rfl (by unfold maxBytes; decide)
      have hsz:=hO.1.size;have hlm:=mergeL_le g k;go_wp2_with (at_builtin; refine wpList_append_list rfl (.tmp 60) (.tmp 64) 23 rfl V.heap.size 50 i0 (.agg #[.int .u8 0,.int .i64 0,.int .i64 0,.bool false,.string ⟨#[]⟩,.string ⟨#[]⟩,.int .i64 0,.slice none 0 0,.slice none 0 0,.slice none 0 0]) 10 144 Tryz.underlying23 hi hz0 hz1 hz2 rfl (by decide) _ _ rfl hO.2 rfl hone ty_cells ?c1 ?c2 ?c3 ?_)
      case c1=>unfold maxLen; simp; omega
      case c2=>simp; omega
      case c3=>exact hsz
      intro v' w3 hO3 hg3 hat3;have HN3:=dh (NewL.push (R:=IsTy) (fun h=>IsTy.le h) hO hO3 hg3 (by rw [World.size_alloc]; exact hat3));have hv':∃ b m d,v'=.slice b m d:=by
       obtain ⟨_,_,_,_,hrow⟩:=hO3;obtain ⟨x,y,e⟩:=owns_slice hrow;exact ⟨_,_,_,e⟩
      clear hO hone hO3 hg3 hat3 hsz HB;go_wp2_with fail;go_roundw
      case rel=>exact ⟨k+1,by omega,by go_num,hv',dh (by rw [Hhit.out]; exact HN3.out)⟩
      case measure=>simp [intOf]; omega
    ·have hkn:k=g.length:=by omega
     subst hkn;have hx:Ints wr (.slice (some ⟨r,0,none⟩) g.length g.length) ((List.range g.length).map fun i=>(classesOf g i:Int)):=HJ.out.cls.ints (by unfold maxBytes; omega) (fun i hi=>by have:=HC.out i; omega);have e1:=row_cell HJ.out.cbx (j:=0) rfl;have Hx:=dh hx;have hgr:Graph wr (.slice vb vm vd) (mergeG g):=Graph.le (only_le _ _) (NewL.fresh (R:=IsTy) (fun h=>IsTy.le h) HN.out (by have:=merge_le g; unfold maxBytes; omega));have Hgr:=dh hgr;have HE:=dh HJ.out.ext;clear hx hgr hi hz0 hz1 hz2 HN;go_wp2_with fail;refine (turned78 79 enters79 #[.pointer (some ⟨pb,0,none⟩)] _ _ _ ((List.range g.length).map fun i=>(classesOf g i:Int)) (fun k=>(toM g k:Int)) wr Hx.out (fun k w1 hk hE=>by
      rw [nth_range hk]; exact (HJ.out.mono hE).to2 hk)).mono ?_
     rintro e W3 ⟨v3,rfl,hown,hE⟩;obtain ⟨va,vc,rfl⟩:=owns_slice hown;have hI:Ints W3 (.slice va g.length vc) ((List.range g.length).map fun i=>(toM g i:Int)):=owns_ints (by rw [List.map_map]; exact hown) (by unfold maxBytes; omega) (fun x hx=>by
      obtain ⟨i,hi,rfl⟩:=List.mem_map.1 hx;have h1:=(merge_morph Hr.out).lt i (List.mem_range.1 hi);have:=merge_le g;omega)
     have HI3:=dh hI;have HE3:=dh hE;clear hown hI hE e1;go_wp2_with fail;go_ret3;exact ⟨_,_,_,_,_,rfl,Graph.mono HE3.out Hgr.out,HI3.out,HE.out.trans HE3.out⟩
end
section
open Go.RowKit Go.Proofs Go.Shelf
def RowF {α:Type} (R:α->List Value->Prop) (sz:Nat) (cur:Array Value) (n:Nat) (F:Nat->α):Prop :=
 ∀ i,i<n->∃ cs,R (F i) cs/\cs.length=sz/\∀ j u,cs[j]? = some u->cur[i*sz+j]? = some u
section
variable {α:Type} {R R':α->List Value->Prop} {sz:Nat} {cur cur':Array Value} {n:Nat} {F G:Nat->α}
theorem RowF.weak (h:RowF R sz cur n F) (hR:∀ x cs,R x cs->R' x cs):RowF R' sz cur n F:=fun i hi=>by
 obtain ⟨cs,h1,h2,h3⟩:=h i hi;exact ⟨cs,hR _ _ h1,h2,h3⟩
theorem RowF.congr (h:RowF R sz cur n F) (hF:∀ i,i<n->F i=G i):RowF R sz cur n G:=fun i hi=>by
 obtain ⟨cs,h1,h2,h3⟩:=h i hi;exact ⟨cs,by rw [<- hF i hi]; exact h1,h2,h3⟩
theorem RowF.put (h:RowF R sz cur n F) {k:Nat} {y:α} {cs':List Value} (hR:R y cs') (hl:cs'.length=sz) (hin:∀ j u,cs'[j]? = some u->cur'[k*sz+j]? = some u)
  (hout:∀ m,m<k*sz\/k*sz+sz<=m->cur'[m]? = cur[m]?):RowF R sz cur' n (fun i=>if i=k then y else F i):=fun i hi=>by
 show ∃ cs,R (if i=k then y else F i) cs/\_
 by_cases e:i=k
 ·subst e;rw [if_pos rfl];exact ⟨cs',hR,hl,hin⟩
 ·rw [if_neg e];obtain ⟨cs,h1,h2,h3⟩:=h i hi;refine ⟨cs,h1,h2,fun j u hu=>?_⟩;have hj:j<sz:=by have:=(List.getElem?_eq_some_iff.1 hu).1; omega
  rw [hout]
  ·exact h3 j u hu
  ·rcases Nat.lt_or_gt_of_ne e with h4 | h4
   ·left;have:=Nat.mul_le_mul_right sz (show i+1<=k by omega);rw [Nat.succ_mul] at this;omega
   ·right;have:=Nat.mul_le_mul_right sz (show k+1<=i by omega);rw [Nat.succ_mul] at this;omega
end
theorem RowF.slice {α:Type} [Inhabited α] {R:World->α->List Value->Prop} {sz:Nat} {w:World} {b:Nat} {T:TypeId} {cur:Array Value} {n c:Nat} {F:Nat->α} {xs:List α} (h:RowF (R w) sz cur n F) (hb:w.heap[b]? = some (.cells cur T (0,0))) (hc:n<=c)
  (hm:n*(8*sz)<=maxBytes) (hn:xs.length=n) (hF:∀ i,i<n->F i=nth xs i):SlW R sz w (.slice (some ⟨b,0,none⟩) n c) xs:=by
 subst hn;refine RowOf.slice (fun i x hx=>?_) hb hc hm;have hi:=(List.getElem?_eq_some_iff.1 hx).1;obtain ⟨cs,h1,h2,h3⟩:=h i hi;have:F i=x:=by
  rw [hF i hi,nth_eq hi];exact (List.getElem?_eq_some_iff.1 hx).2
 rw [this] at h1;exact ⟨cs,h1,h2,h3⟩
theorem OwnL.rowF {α:Type} [Inhabited α] {R:α->List Value->Prop} {e:TypeId} {sz:Nat} {w:World} {base b:Nat} {v:Value} {xs:List α} (h:OwnL R e sz w base v xs) (hb:v.ownBlock=some b) (hm:xs.length*(8*sz)<=maxBytes) :
  ∃ cap cur,v=.slice (some ⟨b,0,none⟩) xs.length cap/\base<=b/\xs.length<=cap/\w.heap[b]? = some (.cells cur e (0,0))/\xs.length*sz<=cur.size/\RowF R sz cur xs.length (nth xs):=by
 have hs:=h.slw hm;obtain ⟨css,_,_,_,hrow⟩:=h;rcases hrow.2 with ⟨rfl,_⟩ | ⟨q,cap,cur,rfl,hlo,hg,hn,_,hsz,_⟩
 ·cases hb
 ·cases hb;refine ⟨cap,cur,rfl,hlo,hn,hg,by rw [hsz]; exact Nat.mul_le_mul_right _ hn,fun i hi=>?_⟩;obtain ⟨a,c,e,_,_,hx⟩:=hs;cases e;obtain ⟨b2,off,cs,ha,h1,h2,h3⟩:=hx i _ (get_of_lt hi);cases ha;refine ⟨cs,h1,h2,fun j u hu=>?_⟩;have:=h3 j u hu;rw [cell_of_row w q _ cur e (0,0) hg,show 0+i*sz+j=i*sz+j by omega] at this;exact this
theorem set_in {cur:Array Value} {i:Nat} {v:Value} (h:i<cur.size):(cur.setIfInBounds i v)[i]? = some v:=by simp [h]
theorem set_out {cur:Array Value} {i m:Nat} {v:Value} (h:m≠i):(cur.setIfInBounds i v)[m]? = cur[m]? := by
 rw [Array.getElem?_setIfInBounds,if_neg (fun e=>h e.symm)]
theorem only_grow {A A':World} {b:Nat} {q:Nat->Bool} (hg:A.grownBy A' (some b)) (hq:q b=false):CellLe (only A q) (only A' q):=only_grown hg (fun k e=>by cases e; exact hq)
theorem grown_set {A A':World} {b j:Nat} {v:Value} (hg:A.grownBy A' (some b)):A.grownBy (A'.setCell ⟨b,j,none⟩ v) (some b) :=
 ⟨hg.os,hg.tape,hg.output,by simpa using hg.size,fun k hk hn=>(Below.heap_setCell _ _ _ _ (fun e=>hn (by rw [e]))).trans (hg.block k hk hn)⟩
def setL (W:World) (b:Nat):Nat->List Value->World
 | _,[]=>W
 | o,v :: vs=>setL (W.setCell ⟨b,o,none⟩ v) b (o+1) vs
def setA (cur:Array Value):Nat->List Value->Array Value
 | _,[]=>cur
 | o,v :: vs=>setA (cur.setIfInBounds o v) (o+1) vs
theorem setL_grown {A:World} {b:Nat}:∀ (vs:List Value) (W:World) (o:Nat),A.grownBy W (some b)->A.grownBy (setL W b o vs) (some b)
 | [],_,_,h=>h
 | _ :: vs,_,o,h=>setL_grown vs _ (o+1) (grown_set h)
theorem setL_row {b:Nat} {T:TypeId}:∀ (vs:List Value) (W:World) (cur:Array Value) (o:Nat),W.heap[b]? = some (.cells cur T (0,0))->(setL W b o vs).heap[b]? = some (.cells (setA cur o vs) T (0,0))
 | [],_,_,_,h=>h
 | _ :: vs,_,_,o,h=>setL_row vs _ _ (o+1) (row_set h)
theorem setA_size:∀ (vs:List Value) (cur:Array Value) (o:Nat),(setA cur o vs).size=cur.size
 | [],_,_=>rfl
 | _ :: vs,_,o=>by rw [setA,setA_size vs,Array.size_setIfInBounds]
theorem setA_out {m:Nat}:∀ (vs:List Value) (cur:Array Value) (o:Nat),m<o\/o+vs.length<=m->(setA cur o vs)[m]? = cur[m]?
 | [],_,_,_=>rfl
 | _ :: vs,_,o,h=>by
  simp only [List.length_cons] at h;rw [setA,setA_out vs _ (o+1) (by omega),set_out (by omega)]
theorem setA_in:∀ (vs:List Value) (cur:Array Value) (o j:Nat) (u:Value),o+vs.length<=cur.size->vs[j]? = some u->(setA cur o vs)[o+j]? = some u
 | [],_,_,_,_,_,h=>by simp at h
 | v :: vs,cur,o,0,u,hs,h=>by
  simp only [List.length_cons] at hs;cases h;rw [setA,setA_out vs _ (o+1) (by omega)];exact set_in (by omega)
 | v :: vs,cur,o,j+1,u,hs,h=>by
  simp only [List.length_cons] at hs;rw [setA,show o+(j+1)=o+1+j by omega];exact setA_in vs _ (o+1) j u (by rw [Array.size_setIfInBounds]; omega) (by simpa using h)
theorem onto_of {n:Nat} {f:Nat->Nat} (hlt:∀ i,i<n->f i<n) (hf:∀ i j,i<n->j<n->f i=f j->i=j) {j:Nat} (hj:j<n):∃ i,i<n/\f i=j:=by
 by_cases h:∃ i,i<n/\f i=j
 ·exact h
 ·exfalso;have hnd:(j :: (List.range n).map f).Nodup:=by
   refine List.nodup_cons.2 ⟨fun hm=>?_,?_⟩
   ·obtain ⟨i,hi,e⟩:=List.mem_map.1 hm;exact h ⟨i,List.mem_range.1 hi,e⟩
   ·rw [List.nodup_iff_pairwise_ne,List.pairwise_map];refine List.pairwise_lt_range.imp_of_mem (fun {a b} ha hb hab he=>?_);have:=hf a b (List.mem_range.1 ha) (List.mem_range.1 hb) he;omega
  have hle:=nodup_le (n:=n) hnd (fun x hx=>by
   rcases List.mem_cons.1 hx with rfl | hx
   ·exact hj
   ·obtain ⟨i,hi,rfl⟩:=List.mem_map.1 hx;exact hlt i (List.mem_range.1 hi))
  simp only [List.length_cons,List.length_map,List.length_range] at hle;omega
theorem drew_set (A:World) (a:Addr) (v:Value):(A.setCell a v).drew=A.drew.setCell a v:=rfl
end
end Go.Proofs.YtjffkeoajkhbmaaGreat
