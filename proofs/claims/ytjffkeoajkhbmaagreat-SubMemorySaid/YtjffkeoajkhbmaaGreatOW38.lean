/- The law's example: its graph. The law's bound on revelations. The reference's comparison of numbers. The law's example holds: ordered answers true. The law's bound on graphs. The law SubNil, walked. The law SubOrders. -/
import Derived.Test.YtjffkeoajkhbmaaGreatOW10
import Derived.Test.YtjffkeoajkhbmaaGreatOW12
import Derived.Test.YtjffkeoajkhbmaaGreatOW14
import Derived.Test.YtjffkeoajkhbmaaGreatOW32
import Derived.Test.YtjffkeoajkhbmaaGreatOW37
namespace Go.Proofs.YtjffkeoajkhbmaaGreat
set_option linter.unusedSimpArgs false
set_option linter.unusedVariables false
set_option maxRecDepth 100000
set_option maxHeartbeats 8000000
section
open Go.RowKit Go.Proofs Go.Shelf
def tyG (k lo hi:Int) (br:Bool) (brand opq:BA) (sup:Int) (ps:List Part):Ty:=⟨k,lo,hi,br,brand,opq,sup,ps,[],[]⟩
def graphG:List Ty:=[tyG 1 0 0 false ⟨#[]⟩ ⟨#[]⟩ 0 [],tyG 3 0 9 false ⟨#[]⟩ ⟨#[]⟩ 0 [],tyG 3 5 20 false ⟨#[]⟩ ⟨#[]⟩ 0 [],tyG 4 0 0 false ⟨#[]⟩ ⟨#[]⟩ 0 [],tyG 6 0 0 false ⟨#[]⟩ ⟨#[]⟩ 0 [],
 tyG 13 0 0 false ⟨#[]⟩ ⟨#[73,46,84]⟩ 4 [],tyG 12 0 0 true ⟨#[98]⟩ ⟨#[]⟩ 4 [⟨⟨#[110]⟩,0⟩],tyG 12 0 0 false ⟨#[]⟩ ⟨#[]⟩ 5 [⟨⟨#[109]⟩,1⟩],tyG 5 0 0 false ⟨#[]⟩ ⟨#[]⟩ 0 [],tyG 9 0 0 false ⟨#[]⟩ ⟨#[]⟩ 0 [⟨⟨#[]⟩,0⟩],tyG 3 3 4 false ⟨#[]⟩ ⟨#[]⟩ 0 []]
def partG (n:Nat) (i:Nat):Value:=match i with
 | 6=>.slice (some ⟨n,0,none⟩) 1 1
 | 7=>.slice (some ⟨n+1,0,none⟩) 1 1
 | 9=>.slice (some ⟨n+1+1,0,none⟩) 1 1
 | _=>.slice none 0 0
def cellsG (n i:Nat):List Value:=tyCells (nth graphG i) (partG n i) (.slice none 0 0) (.slice none 0 0)
theorem parts_one {W:World} {b:Nat} {p:Part} (h:W.heap[b]? = some (.cells #[.string p.name,.int .i64 p.type] 83 (0,0))) (hp:p.name.size<=maxBytes/\-9223372036854775808<=p.type/\p.type<=9223372036854775807):Parts W (.slice (some ⟨b,0,none⟩) 1 1) [p]:=by
 refine ⟨_,1,rfl,by simp,by simp [maxBytes],fun i x hx=>?_⟩
 match i,hx with
 | 0,hx =>
  simp at hx;subst hx;refine ⟨b,0,[.string p.name,.int .i64 p.type],rfl,⟨rfl,hp⟩,rfl,fun j u hj=>?_⟩;rw [show 0+0*2+j=j by omega];exact row_cell h (by simpa using hj)
theorem graph44 (w:World):Calls Tryz.prog 44 #[] w fun e w'=>∃ a,e=.returned (.slice (some a) 11 11)/\Ext w w'/\Graph w' (.slice (some a) 11 11) graphG:=by
 go_enter Tryz.func44,Tryz.ntmps44
 go_wp2;go_ret;refine ⟨⟨w.heap.size+1+1+1,0,none⟩,rfl,((((Ext.alloc _ _).trans (Ext.alloc _ _)).trans (Ext.alloc _ _)).trans (Ext.alloc _ _)),?_⟩;obtain ⟨A,hA⟩:∃ A:World,A=w.alloc (.cells #[.string ⟨#[110]⟩,.int .i64 0] 83):=⟨_,rfl⟩;obtain ⟨B,hB⟩:∃ B:World,B=A.alloc (.cells #[.string ⟨#[109]⟩,.int .i64 1] 83):=⟨_,rfl⟩;obtain ⟨C,hC⟩:∃ C:World,C=B.alloc (.cells #[.string ⟨#[]⟩,.int .i64 0] 83):=⟨_,rfl⟩;obtain ⟨D,hD⟩:∃ D:World,D=C.alloc (.cells (((List.range 11).map (cellsG w.heap.size)).flatten).toArray 50):=⟨_,rfl⟩;have a1:A.heap[w.heap.size]? = some (.cells #[.string ⟨#[110]⟩,.int .i64 0] 83 (0,0)):=by rw [hA]; exact heap_alloc_new _ _
 have a2:B.heap[w.heap.size+1]? = some (.cells #[.string ⟨#[109]⟩,.int .i64 1] 83 (0,0)):=by
  rw [hB];have:=heap_alloc_new A (.cells #[.string ⟨#[109]⟩,.int .i64 1] 83)
  rwa [show A.heap.size=w.heap.size+1 by rw [hA,World.size_alloc]] at this
 have a3:C.heap[w.heap.size+1+1]? = some (.cells #[.string ⟨#[]⟩,.int .i64 0] 83 (0,0)):=by
  rw [hC];have:=heap_alloc_new B (.cells #[.string ⟨#[]⟩,.int .i64 0] 83)
  rwa [show B.heap.size=w.heap.size+1+1 by rw [hB,World.size_alloc,hA,World.size_alloc]] at this
 have a4:D.heap[w.heap.size+1+1+1]? = some (.cells (((List.range 11).map (cellsG w.heap.size)).flatten).toArray 50 (0,0)):=by
  rw [hD];have:=heap_alloc_new C (.cells (((List.range 11).map (cellsG w.heap.size)).flatten).toArray 50)
  rwa [show C.heap.size=w.heap.size+1+1+1 by rw [hC,World.size_alloc,hB,World.size_alloc,hA,World.size_alloc]] at this
 have eAB:Ext A B:=by rw [hB]; exact Ext.alloc _ _
 have eBC:Ext B C:=by rw [hC]; exact Ext.alloc _ _
 have eCD:Ext C D:=by rw [hD]; exact Ext.alloc _ _
 have p1:Parts D (.slice (some ⟨w.heap.size,0,none⟩) 1 1) [⟨⟨#[110]⟩,0⟩]:=Parts.mono ((eAB.trans eBC).trans eCD) (parts_one (p:=⟨⟨#[110]⟩,0⟩) a1 (by decide));have p2:Parts D (.slice (some ⟨w.heap.size+1,0,none⟩) 1 1) [⟨⟨#[109]⟩,1⟩]:=Parts.mono (eBC.trans eCD) (parts_one (p:=⟨⟨#[109]⟩,1⟩) a2 (by decide));have p3:Parts D (.slice (some ⟨w.heap.size+1+1,0,none⟩) 1 1) [⟨⟨#[]⟩,0⟩]:=Parts.mono eCD (parts_one (p:=⟨⟨#[]⟩,0⟩) a3 (by decide));have p0:Parts D (.slice none 0 0) []:=⟨none,0,rfl,by simp,by simp,fun i x hx=>by simp at hx⟩;have m0:Meths D (.slice none 0 0) []:=⟨none,0,rfl,by simp,by simp,fun i x hx=>by simp at hx⟩;have o0:Overs D (.slice none 0 0) []:=⟨none,0,rfl,by simp,by simp,fun i x hx=>by simp at hx⟩
 suffices h:Graph D (.slice (some ⟨w.heap.size+1+1+1,0,none⟩) 11 11) graphG by
  rw [hD,hC,hB,hA] at h;exact h
 have hfl:=flat_get (cellsG w.heap.size) 10 11 (fun i _=>rfl);refine ⟨_,11,rfl,by decide,by decide,fun i x hx=>?_⟩;have hi:i<11:=by have:=(List.getElem?_eq_some_iff.1 hx).1; simpa [graphG] using this
 have hxe:x=nth graphG i:=by rw [nth_eq (by simpa [graphG] using hi)]; exact (List.getElem?_eq_some_iff.1 hx).2.symm
 refine ⟨w.heap.size+1+1+1,0,cellsG w.heap.size i,rfl,⟨partG w.heap.size i,_,_,by rw [hxe]; rfl,?_,?_,?_,?_⟩,rfl,fun j u hj=>?_⟩;rotate_left 4
 ·have hj10:j<10:=by have:=(List.getElem?_eq_some_iff.1 hj).1; simpa [cellsG,tyCells] using this
  rw [Nat.zero_add];exact row_cell a4 (by rw [List.getElem?_toArray,hfl i j hi hj10]; exact hj)
 all_goals subst hxe
 all_goals rcases (show i=0\/i=1\/i=2\/i=3\/i=4\/i=5\/i=6\/i=7\/i=8\/i=9\/i=10 by omega) with rfl | rfl | rfl | rfl | rfl | rfl | rfl | rfl | rfl | rfl | rfl
 all_goals first | exact p0 | exact p1 | exact p2 | exact p3 | exact m0 | exact o0 | (constructor <;> decide)
end
section
open Go.RowKit Go.Proofs Go.Shelf
def FewPost (w:World) (rs:List Reveal) (e:Ending) (w':World):Prop:=∃ b,e=.returned (.bool b)/\Ext w w'/\(b=true->(∀ i,i<rs.length->(nth rs i).name.size<=40)/\rs.length<=63)
theorem few14 (ra:Option Addr) (n c:Nat) (rs:List Reveal) (w:World) (hre:Reveals w (.slice ra n c) rs) :
  Calls Tryz.prog 14 #[.slice ra n c] w (FewPost w rs):=by
 have hb:=(SlW.bound hre).2;obtain rfl:=SlW.len hre;have Hre:=dh hre;clear hre
 go_enter Tryz.func14,Tryz.ntmps14
 go_upto_region 2 with (fail);go_loopw [3] (fun i wr=>∃ k:Nat,k<=rs.length/\i=.int .i64 k/\Hid (Ext w wr/\∀ j,j<k->(nth rs j).name.size<=40)) (fun i _=>rs.length-(intOf i).toNat)
 case atStart=>exact ⟨0,Nat.zero_le _,rfl,dh ⟨Ext.refl _,fun j hj=>by omega⟩⟩
 case round =>
  obtain ⟨k,hk,rfl,hH⟩:=hrel;obtain ⟨hE,hs⟩:=hH.out;clear hH;by_cases hlt:k<rs.length
  ·obtain ⟨b,off,rfl,hbl,d0,d1,d2,hsz,-⟩:=Reveals.at (Reveals.mono hE Hre.out) hlt;have HE:=dh hE;have HS:=dh hs;clear hE hs;by_cases h40:(nth rs k).name.size<=40
   ·go_wp2_with fail;go_roundw
    case rel=>exact ⟨k+1,by omega,by go_num,dh ⟨HE.out,fun j hj=>by
     by_cases hjk:j=k
     ·rw [hjk]; exact h40
     ·exact HS.out j (by omega)⟩⟩
    case measure=>simp [intOf]; omega
   ·go_wp2_with fail;go_ret;exact ⟨false,rfl,HE.out,fun h=>by cases h⟩
  ·have hkl:k=rs.length:=by omega
   subst hkl;have HE:=dh hE;have HS:=dh hs;clear hE hs;by_cases h10:rs.length<=10
   ·go_wp2_with fail;go_ret;exact ⟨_,rfl,HE.out,fun _=>⟨HS.out,by omega⟩⟩
   ·by_cases h60:rs.length<=63
    ·go_wp2_with fail
     all_goals go_ret
     all_goals exact ⟨_,rfl,HE.out,fun _=>⟨HS.out,h60⟩⟩
    ·go_wp2_with fail
     all_goals go_ret
     all_goals exact ⟨_,rfl,HE.out,fun h=>⟨HS.out,by simp at h; omega⟩⟩
end
section
open Go.RowKit Go.Proofs Go.Shelf
def SamePost (w:World) (xs ys:List Int) (e:Ending) (w':World):Prop:=e=.returned (.bool (decide (xs=ys)))/\Ext w w'
theorem sameInts23 (a:Option Addr) (n c:Nat) (b:Option Addr) (m d:Nat) (xs ys:List Int) (w:World) (hx:Ints w (.slice a n c) xs) (hy:Ints w (.slice b m d) ys) :
  Calls Tryz.prog 23 #[.slice a n c,.slice b m d] w (SamePost w xs ys):=by
 have hb1:=(SlW.bound hx).2;have hb2:=(SlW.bound hy).2;obtain rfl:=SlW.len hx;obtain rfl:=SlW.len hy;have Hx:=dh hx;have Hy:=dh hy;clear hx hy;by_cases hl:xs.length=ys.length
 ·have hne:((xs.length:Int) != (ys.length:Int))=false:=by rw [hl]; simp
  go_enter Tryz.func23,Tryz.ntmps23
  go_upto_region 4 with (fail);go_loopw [5] (fun i wr=>∃ k:Nat,k<=xs.length/\i=.int .i64 k/\Hid (Ext w wr/\∀ j,j<k->nth xs j=nth ys j)) (fun i _=>xs.length-(intOf i).toNat)
  case atStart=>exact ⟨0,Nat.zero_le _,rfl,dh ⟨Ext.refl _,fun j hj=>by omega⟩⟩
  case round =>
   obtain ⟨k,hk,rfl,hH⟩:=hrel;obtain ⟨hE,hs⟩:=hH.out;clear hH;have HS:=dh hs;have HE:=dh hE;clear hs;by_cases hlt:k<xs.length
   ·have hlt2:k<ys.length:=by omega
    obtain ⟨xb,xo,rfl,_,dx,-⟩:=Ints.at (Ints.mono hE Hx.out) hlt;obtain ⟨yb,yo,rfl,_,dy,-⟩:=Ints.at (Ints.mono hE Hy.out) hlt2;clear hE;cases he:(nth xs k != nth ys k)
    ·have hk2:nth xs k=nth ys k:=by simpa using he
     have Hk2:=dh hk2;clear hk2;go_upto_region 6 with (fail);refine Zr 99 ?_;change wpE _ _ _ _ _ _ _ _ (World.drew _);refine Zg 0 ?_;refine Zg 1 ?_;refine Zg 2 ?_;refine Zc 3 dx ?_;refine Zg 4 ?_;refine Zg 5 ?_;refine Zg 6 ?_;refine Zc 7 dy ?_;refine Zg 8 ?_;refine Zd ?_;clear dx dy;go_wp2_with fail;go_roundw
     case rel=>exact ⟨k+1,by omega,by go_num,dh ⟨by first | exact HE.out | exact HE.out.trans (Ext.drew _),fun j hj=>by
      by_cases hjk:j=k
      ·rw [hjk]; exact Hk2.out
      ·exact HS.out j (by omega)⟩⟩
     case measure=>simp [intOf]; omega
    ·have hd:=dh (show decide (xs=ys)=false by
      simp only [decide_eq_false_iff_not];intro h;rw [h] at he;simp at he)
     go_upto_region 6 with (fail);refine Zr 99 ?_;change wpE _ _ _ _ _ _ _ _ (World.drew _);refine Zg 0 ?_;refine Zg 1 ?_;refine Zg 2 ?_;refine Zc 3 dx ?_;refine Zg 4 ?_;refine Zg 5 ?_;refine Zg 6 ?_;refine Zc 7 dy ?_;refine Zg 8 ?_;refine Zd ?_;clear dx dy;go_wp2_with fail;go_ret;exact ⟨by rw [hd.out]; rfl,by first | exact HE.out | exact HE.out.trans (Ext.drew _)⟩
   ·have hd:=dh (show decide (xs=ys)=true by
     simp only [decide_eq_true_eq];refine List.ext_getElem hl (fun i h1 h2=>?_);have:=HS.out i (by omega)
     rwa [nth_eq h1,nth_eq h2] at this)
    clear hE;go_wp2_with fail;go_ret;exact ⟨by rw [hd.out]; rfl,HE.out⟩
 ·have hne:((xs.length:Int) != (ys.length:Int))=true:=by simp; omega
  have hd:=dh (show decide (xs=ys)=false by
   simp only [decide_eq_false_iff_not];intro h;rw [h] at hl;exact hl rfl)
  go_enter Tryz.func23,Tryz.ntmps23
  go_wp2_with fail;go_ret;exact ⟨by rw [hd.out]; rfl,Ext.refl _⟩
end
section
open Go.RowKit Go.Proofs Go.Shelf
section
variable {W:World} {vb:Nat} {g:List Ty} {rs:List Reveal}
theorem belowV (h:EnvA W vb g rs) (a b:Int) (hx:I64 a) (hy:I64 b) (r:Bool) (n:Int) (hq:belowQ g rs a b=(r,n)):Calls Tryz.prog 17 #[.pointer (some ⟨vb,0,none⟩),.int .i64 a,.int .i64 b] W fun e w' =>
  e=.returned (.tuple #[.bool r,.int .i64 n])/\Ext W w':=by have:=belowA h a b hx hy; rw [hq] at this; exact this
theorem joinV (h:EnvA W vb g rs) (a b:Int) (hx:I64 a) (hy:I64 b) (m:Int) (r:Bool) (n:Int) (hq:joinQ g rs a b=(m,r,n)):Calls Tryz.prog 21 #[.pointer (some ⟨vb,0,none⟩),.int .i64 a,.int .i64 b] W fun e w' =>
  e=.returned (.tuple #[.int .i64 m,.bool r,.int .i64 n])/\Ext W w':=by have:=joinA h a b hx hy; rw [hq] at this; exact this
theorem assignV (h:EnvA W vb g rs) (a b:Int) (hx:I64 a) (hy:I64 b) (k l m n:Int) (hq:assignQ g rs a b=(k,l,m,n)):Calls Tryz.prog 28 #[.pointer (some ⟨vb,0,none⟩),.int .i64 a,.int .i64 b] W fun e w' =>
  e=.returned (.tuple #[.agg #[.int .u8 k,.int .i64 l,.int .i64 m],.int .i64 n])/\Ext W w':=by have:=assignA h a b hx hy; rw [hq] at this; exact this
theorem fieldV (h:EnvA W vb g rs) (a:Int) (hx:I64 a) (s:BA) (hs:s.size<=140737488351232) (k l m:Int) (hq:fieldQ g rs a s=(k,l,m)):Calls Tryz.prog 31 #[.pointer (some ⟨vb,0,none⟩),.int .i64 a,.string s] W fun e w' =>
  e=.returned (.tuple #[.int .i64 k,.int .i64 l,.int .i64 m])/\Ext W w':=by have:=fieldA h a hx s hs; rw [hq] at this; exact this
end
theorem q_in1:openE graphG fullG=0:=by kernel_rfl
theorem q_in2:openE graphG []=0:=by kernel_rfl
theorem q_in3:openE graphG (fullG++fullG)=40:=by kernel_rfl
theorem q_a:belowQ graphG fullG 7 6=(true,0):=by kernel_rfl
theorem q_b:belowQ graphG fullG 5 6=(true,0):=by kernel_rfl
theorem q_c:belowQ graphG [] 7 6=(false,0):=by kernel_rfl
theorem q_d:belowQ graphG fullG 9 4=(false,0):=by kernel_rfl
theorem q_l:deriveQ graphG fullG 7 6=(true,[⟨4,5,0⟩,⟨5,6,0⟩]):=by kernel_rfl
theorem q_j:joinQ graphG fullG 7 6=(5,true,0):=by kernel_rfl
theorem q_n:assignQ graphG fullG 1 2=(2,0,9,0):=by kernel_rfl
theorem q_p:assignQ graphG fullG 9 4=(0,0,0,41):=by kernel_rfl
theorem q_line:lineQ graphG fullG 7=[7,5,6,4]:=by kernel_rfl
theorem q_f:fieldQ graphG fullG 7 ⟨#[110]⟩=(6,0,0):=by kernel_rfl
theorem q_s:fieldQ graphG [] 7 ⟨#[110]⟩=(0,0,5):=by kernel_rfl
theorem q_above:(aboveQ graphG fullG 8).length=7:=by kernel_rfl
theorem q_as7:askedR graphG.length [7]=0:=by kernel_rfl
theorem q_as8:askedR graphG.length [8]=0:=by kernel_rfl
theorem q_as76:askedR graphG.length [7,6]=0:=by kernel_rfl
theorem full45b (w:World):Calls Tryz.prog 45 #[] w fun e w'=>e=.returned (.slice (some ⟨w.heap.size,0,none⟩) 1 1)/\w'=w.alloc (.cells #[.string ⟨#[73,46,84]⟩,.bool true,.int .i64 6] 43):=by
 go_enter Tryz.func45,Tryz.ntmps45
 go_wp2;go_ret;exact ⟨rfl,rfl⟩
theorem info43:(Tryz.prog.info? 43).map (fun i=>(i.zero,i.size,i.bytes))=some (some (.agg #[.string ⟨#[]⟩,.bool false,.int .i64 0]),3,32):=by kernel_rfl
theorem reveals_new (W:World) {b:Nat} {cur:Array Value} (h:W.heap[b]? = some (.cells cur 43 (0,0))) (n cap:Nat) (rs:List Reveal) (hl:rs.length=n) (hn:n<=cap) (hm:n<=1000) (hc:∀ i x,rs[i]? = some x->cur[i*3]? = some (.string x.name)/\cur[i*3+1]? = some (.bool x.full)/\cur[i*3+2]? = some (.int .i64 x.type))
  (hok:∀ x,x∈rs->x.name.size<=maxBytes/\-9223372036854775808<=x.type/\x.type<=9223372036854775807):Reveals W (.slice (some ⟨b,0,none⟩) n cap) rs:=by
 subst hl;refine ⟨_,cap,rfl,hn,by unfold maxBytes; omega,fun i x hx=>⟨b,0,[.string x.name,.bool x.full,.int .i64 x.type],rfl,⟨rfl,hok x (List.mem_of_getElem? hx)⟩,rfl,fun j u hu=>?_⟩⟩;obtain ⟨e0,e1,e2⟩:=hc i x hx;rw [Nat.zero_add]
 match j,hu with
 | 0,hu=>cases hu; exact row_cell h e0
 | 1,hu=>cases hu; exact row_cell h e1
 | 2,hu=>cases hu; exact row_cell h e2
theorem ints_new (w:World) (l:List Int) (hl:l.length<=1000000) (hb:∀ x,x∈l->-9223372036854775808<=x/\x<=9223372036854775807):Ints (w.alloc (.cells (l.map (Value.int .i64)).toArray 3)) (.slice (some ⟨w.heap.size,0,none⟩) l.length l.length) l:=by
 refine ⟨_,_,rfl,Nat.le_refl _,by unfold maxBytes; omega,fun i x hx=>⟨w.heap.size,0,[.int .i64 x],rfl,⟨rfl,hb x (List.mem_of_getElem? hx)⟩,rfl,fun j u hu=>?_⟩⟩
 match j,hu with
 | 0,hu =>
  cases hu;exact row_cell (heap_alloc_new w _) (by simpa using hx)
theorem ordered15 (w:World):Calls Tryz.prog 15 #[] w fun e w'=>e=.returned (.bool true)/\Ext w w':=by
 obtain ⟨i0,hi,hz0,hz1,hz2⟩:=info_parts info43
 go_enter Tryz.func15,Tryz.ntmps15
 go_wp2_with fail;refine (graph44 w).mono ?_;rintro e w1 ⟨a1,rfl,hE,hg⟩;have HE:=dh hE;have Hg:=dh hg;clear hE hg;go_wp2_with fail;refine (full45 w1).mono ?_;rintro e w2 ⟨a2,rfl,hE,hf,-⟩;have hIn:=dh (inA _ _ _ _ _ _ _ _ w2 (Graph.mono hE Hg.out) hf);have HE:=dh (HE.out.trans hE);clear hE hf Hg;go_wp2_with fail;refine hIn.out.mono ?_;rintro e w3 ⟨hE,(⟨-,vb,rfl,hA⟩ | ⟨hc,-⟩)⟩;rotate_left
 ·exact absurd q_in1 hc
 have HA:=dh hA;have HE:=dh (HE.out.trans hE);clear hE hA hIn;go_wp2_with fail;refine (graph44 w3).mono ?_;rintro e w4 ⟨a4,rfl,hE,hg⟩;have hIn:=dh (inA _ _ _ _ none 0 0 [] w4 hg (SlW.nil _ _ _));have HE:=dh (HE.out.trans hE);have HA:=dh (HA.out.mono hE);clear hE hg;go_wp2_with fail;refine hIn.out.mono ?_;rintro e w5 ⟨hE,(⟨-,vc,rfl,hA⟩ | ⟨hc,-⟩)⟩;rotate_left
 ·exact absurd q_in2 hc
 have HA2:=dh hA;have HA:=dh (HA.out.mono hE);have HE:=dh (HE.out.trans hE);clear hE hA hIn;go_wp2_with fail;refine (graph44 w5).mono ?_;rintro e w6 ⟨a6,rfl,hE,hg⟩;have Hg:=dh hg;have HE:=dh (HE.out.trans hE);have HA:=dh (HA.out.mono hE);have HA2:=dh (HA2.out.mono hE);clear hE hg;go_wp2_with fail;refine (full45b w6).mono ?_;rintro e w7 ⟨rfl,hw7⟩;have hb7:w7.heap[w6.heap.size]? = some (.cells #[.string ⟨#[73,46,84]⟩,.bool true,.int .i64 6] 43 (0,0)):=by rw [hw7]; exact heap_alloc_new _ _
 have hE:Ext w6 w7:=by rw [hw7]; exact Ext.alloc _ _
 have Hb7:=dh hb7;have Hg:=dh (Graph.mono hE Hg.out);have HE:=dh (HE.out.trans hE);have HA:=dh (HA.out.mono hE);have HA2:=dh (HA2.out.mono hE);have hs7:w7.heap.size=w6.heap.size+1:=by rw [hw7,World.size_alloc]
 have Hs7:=dh hs7;clear hE hb7 hw7 hs7;go_wp2_with fail;refine (full45b w7).mono ?_;rintro e w8 ⟨rfl,hw8⟩;have hb8:w8.heap[w7.heap.size]? = some (.cells #[.string ⟨#[73,46,84]⟩,.bool true,.int .i64 6] 43 (0,0)):=by rw [hw8]; exact heap_alloc_new _ _
 have hE:Ext w7 w8:=by rw [hw8]; exact Ext.alloc _ _
 have hb7:=(hE.block _ (row_lt Hb7.out)).trans Hb7.out;have HE78:=dh hE;have Hg:=dh (Graph.mono hE Hg.out);have HA:=dh (HA.out.mono hE);have HA2:=dh (HA2.out.mono hE);have hs8:w8.heap.size=w7.heap.size+1:=by rw [hw8,World.size_alloc]
 have c70:=row_cell hb7 (j:=0) rfl;have c71:=row_cell hb7 (j:=1) rfl;have c72:=row_cell hb7 (j:=2) rfl;have c80:=row_cell hb8 (j:=0) rfl;have c81:=row_cell hb8 (j:=1) rfl;have c82:=row_cell hb8 (j:=2) rfl;clear hE hb7 hb8 hw8 hs8;go_wp2_with fail;generalize w8.tape w8.drawn (Question.appendCap 2 1 43) % 9223372036854775806=q;obtain ⟨w9,hw9⟩:∃ w9:World,w9=(w8.alloc (.cells (#[.string ⟨#[73,46,84]⟩,.bool true,.int .i64 6]++(#[.string ⟨#[73,46,84]⟩,.bool true,.int .i64 6]++Builtin.zeroCells #[.string ⟨#[]⟩,.bool false,.int .i64 0] q)) 43)).drew:=⟨_,rfl⟩;rw [<- hw9];have hE9:Ext w8 w9:=by rw [hw9]; exact Below.drew (Ext.alloc _ _)
 have hf9:Reveals w9 (.slice (some ⟨w8.heap.size,0,none⟩) 2 (2+q)) (fullG++fullG):=by
  refine reveals_new w9 (b:=w8.heap.size) (cur:=#[.string ⟨#[73,46,84]⟩,.bool true,.int .i64 6]++(#[.string ⟨#[73,46,84]⟩,.bool true,.int .i64 6]++Builtin.zeroCells #[.string ⟨#[]⟩,.bool false,.int .i64 0] q)) (by rw [hw9]; exact heap_alloc_new _ _) 2 _ _ rfl (by omega) (by decide) (fun i x hx=>?_) (fun x hx=>?_)
  ·match i,hx with
   | 0,hx =>
    cases hx;refine ⟨?_,?_,?_⟩ <;> (rw [Array.getElem?_append_left (by simp)]; rfl)
   | 1,hx =>
    cases hx;refine ⟨?_,?_,?_⟩ <;> (rw [Array.getElem?_append_right (by simp),Array.getElem?_append_left (by simp)]; rfl)
  ·have:x=⟨⟨#[73,46,84]⟩,true,6⟩:=by
    simp only [fullG,List.cons_append,List.nil_append,List.mem_cons,List.not_mem_nil,or_false,or_self] at hx;exact hx
   subst this
   decide
 have hck:=dh (check46 _ _ _ _ _ _ _ _ w9 (Graph.mono hE9 Hg.out) hf9);rw [q_in3] at hck;have HE:=dh ((HE.out.trans HE78.out).trans hE9);have HA:=dh (HA.out.mono hE9);have HA2:=dh (HA2.out.mono hE9);clear hw9 hE9 hf9 Hg Hb7 Hs7 HE78 hi hz0 hz1 hz2 c70 c71 c72 c80 c81 c82;refine hck.out.mono ?_;rintro e w10 ⟨rfl,hE⟩;have HE:=dh (HE.out.trans hE);have HA:=dh (HA.out.mono hE);have HA2:=dh (HA2.out.mono hE);clear hE hck;go_wp2_with fail;refine (belowV HA.out 7 6 ⟨by decide,by decide⟩ ⟨by decide,by decide⟩ _ _ q_a).mono ?_;rintro e w11 ⟨rfl,hE⟩;have HE:=dh (HE.out.trans hE);have HA:=dh (HA.out.mono hE);have HA2:=dh (HA2.out.mono hE);clear hE;go_wp2_with fail;refine (belowV HA.out 5 6 ⟨by decide,by decide⟩ ⟨by decide,by decide⟩ _ _ q_b).mono ?_;rintro e w12 ⟨rfl,hE⟩;have HE:=dh (HE.out.trans hE);have HA:=dh (HA.out.mono hE);have HA2:=dh (HA2.out.mono hE);clear hE;go_wp2_with fail;refine (belowV HA2.out 7 6 ⟨by decide,by decide⟩ ⟨by decide,by decide⟩ _ _ q_c).mono ?_;rintro e w13 ⟨rfl,hE⟩;have HE:=dh (HE.out.trans hE);have HA:=dh (HA.out.mono hE);have HA2:=dh (HA2.out.mono hE);clear hE;go_wp2_with fail;refine (belowV HA.out 9 4 ⟨by decide,by decide⟩ ⟨by decide,by decide⟩ _ _ q_d).mono ?_;rintro e w14 ⟨rfl,hE⟩;have HE:=dh (HE.out.trans hE);have HA:=dh (HA.out.mono hE);have HA2:=dh (HA2.out.mono hE);clear hE;have hder:=dh (deriveA HA.out 7 6 ⟨by decide,by decide⟩ ⟨by decide,by decide⟩);rw [q_l,q_as76] at hder;go_wp2_with fail;refine hder.out.mono ?_;rintro e w15 ⟨dx,dn,dc,rfl,hD,hE⟩;obtain rfl:2=dn:=(SlW.len hD).symm;have HD:=dh hD;have HE:=dh (HE.out.trans hE);have HA:=dh (HA.out.mono hE);have HA2:=dh (HA2.out.mono hE);clear hE hder hD;go_wp2_with fail;refine (joinV HA.out 7 6 ⟨by decide,by decide⟩ ⟨by decide,by decide⟩ _ _ _ q_j).mono ?_;rintro e w16 ⟨rfl,hE⟩;have HE:=dh (HE.out.trans hE);have HA:=dh (HA.out.mono hE);have HA2:=dh (HA2.out.mono hE);have HD:=dh (StepsW.mono hE HD.out);clear hE;go_wp2_with fail;refine (assignV HA.out 1 2 ⟨by decide,by decide⟩ ⟨by decide,by decide⟩ _ _ _ _ q_n).mono ?_;rintro e w17 ⟨rfl,hE⟩;have HE:=dh (HE.out.trans hE);have HA:=dh (HA.out.mono hE);have HA2:=dh (HA2.out.mono hE);have HD:=dh (StepsW.mono hE HD.out);clear hE;go_wp2_with fail;obtain ⟨w18,hw18⟩:∃ w18:World,w18=w17.alloc (.cells #[.int .u8 2,.int .i64 0,.int .i64 9] 56):=⟨_,rfl⟩;obtain ⟨k17,hk17⟩:∃ k17,k17=w17.heap.size:=⟨_,rfl⟩;rw [<- hw18,<- hk17];have hE:Ext w17 w18:=by rw [hw18]; exact Ext.alloc _ _
 have HK:=dh (show w18.heap[k17]? = some (.cells #[.int .u8 2,.int .i64 0,.int .i64 9] 56 (0,0)) from by rw [hw18,hk17]; exact heap_alloc_new _ _);have HE:=dh (HE.out.trans hE);have HA:=dh (HA.out.mono hE);have HA2:=dh (HA2.out.mono hE);have HD:=dh (StepsW.mono hE HD.out);clear hE hw18 hk17;refine (assignV HA.out 9 4 ⟨by decide,by decide⟩ ⟨by decide,by decide⟩ _ _ _ _ q_p).mono ?_;rintro e w19 ⟨rfl,hE⟩;have HE:=dh (HE.out.trans hE);have HA:=dh (HA.out.mono hE);have HA2:=dh (HA2.out.mono hE);have HD:=dh (StepsW.mono hE HD.out);have HK:=dh ((hE.block _ (row_lt HK.out)).trans HK.out);clear hE;go_wp2_with fail;obtain ⟨w20,hw20⟩:∃ w20:World,w20=w19.alloc (.cells #[.int .u8 0,.int .i64 0,.int .i64 0] 56):=⟨_,rfl⟩;obtain ⟨k19,hk19⟩:∃ k19,k19=w19.heap.size:=⟨_,rfl⟩;rw [<- hw20,<- hk19];have hE:Ext w19 w20:=by rw [hw20]; exact Ext.alloc _ _
 have HE:=dh (HE.out.trans hE);have HA:=dh (HA.out.mono hE);have HA2:=dh (HA2.out.mono hE);have HD:=dh (StepsW.mono hE HD.out);have HK:=dh ((hE.block _ (row_lt HK.out)).trans HK.out);clear hE hw20 hk19;have hl:=dh (lineA HA.out 7 ⟨by decide,by decide⟩);rw [q_line,q_as7] at hl;refine hl.out.mono ?_;rintro e w21 ⟨lx,ln,lc,rfl,hL,hE⟩;obtain rfl:4=ln:=(SlW.len hL).symm;have HL:=dh hL;have HE:=dh (HE.out.trans hE);have HA:=dh (HA.out.mono hE);have HA2:=dh (HA2.out.mono hE);have HD:=dh (StepsW.mono hE HD.out);have HK:=dh ((hE.block _ (row_lt HK.out)).trans HK.out);clear hE hL hl;go_wp2_with fail;refine (fieldV HA.out 7 ⟨by decide,by decide⟩ ⟨#[110]⟩ (by decide) _ _ _ q_f).mono ?_;rintro e w22 ⟨rfl,hE⟩;have HE:=dh (HE.out.trans hE);have HA:=dh (HA.out.mono hE);have HA2:=dh (HA2.out.mono hE);have HD:=dh (StepsW.mono hE HD.out);have HL:=dh (Ints.mono hE HL.out);have HK:=dh ((hE.block _ (row_lt HK.out)).trans HK.out);clear hE;go_wp2_with fail;refine (fieldV HA2.out 7 ⟨by decide,by decide⟩ ⟨#[110]⟩ (by decide) _ _ _ q_s).mono ?_;rintro e w23 ⟨rfl,hE⟩;have HE:=dh (HE.out.trans hE);have HA:=dh (HA.out.mono hE);have HD:=dh (StepsW.mono hE HD.out);have HL:=dh (Ints.mono hE HL.out);have HK:=dh ((hE.block _ (row_lt HK.out)).trans HK.out);clear hE HA2;have hab:=dh (aboveA HA.out 8 ⟨by decide,by decide⟩);rw [q_as8] at hab;go_wp2_with fail;refine hab.out.mono ?_;rintro e w24 ⟨ax,an,ac,rfl,hAb,hE⟩;obtain rfl:7=an:=by have:=SlW.len hAb; rw [q_above] at this; exact this.symm
 have HE:=dh (HE.out.trans hE);have hD:=StepsW.mono hE HD.out;have HL:=dh (Ints.mono hE HL.out);have hK0:=(hE.block _ (row_lt HK.out)).trans HK.out;clear hE hab hAb HA HD HK;obtain ⟨db,dof,rfl,ldb,d0,d1,d2,-⟩:=StepsW.at hD (i:=0) (by decide);obtain ⟨db',dof',hx,-,e0,e1,e2,-⟩:=StepsW.at hD (i:=1) (by decide);cases hx;have hz:dof+0*3=dof:=by omega
 rw [hz] at d0 d1 d2;have d0:w24.cell? ⟨db,dof,none⟩=some (.int .u8 4):=d0;have d1:w24.cell? ⟨db,dof+1,none⟩=some (.int .i64 5):=d1;have d2:w24.cell? ⟨db,dof+2,none⟩=some (.int .i64 0):=d2;have e0:w24.cell? ⟨db,dof+3,none⟩=some (.int .u8 5):=e0;have e1:w24.cell? ⟨db,dof+3+1,none⟩=some (.int .i64 6):=e1;have e2:w24.cell? ⟨db,dof+3+2,none⟩=some (.int .i64 0):=e2;clear hz;have k0:=row_cell hK0 (j:=0) rfl;have k1:=row_cell hK0 (j:=1) rfl;have k2:=row_cell hK0 (j:=2) rfl;have lk:=row_lt hK0;clear hD hK0;go_wp2_with fail;have hs:=dh (sameInts23 _ _ _ _ _ _ [7,5,6,4] [7,5,6,4] (w24.alloc (.cells #[.int .i64 7,.int .i64 5,.int .i64 6,.int .i64 4] 3)) (Ints.mono (Ext.alloc _ _) HL.out) (ints_new w24 [7,5,6,4] (by decide) (fun x hx=>by simp at hx; omega)));have HE:=dh (HE.out.trans (Ext.alloc w24 (.cells #[.int .i64 7,.int .i64 5,.int .i64 6,.int .i64 4] 3)));refine hs.out.mono ?_;rintro e w25 ⟨rfl,hE⟩;have HE:=dh (HE.out.trans hE);clear hE hs;go_wp2_with fail;go_ret;exact ⟨rfl,HE.out⟩
end
section
open Go.RowKit Go.Proofs Go.Shelf
def LittlePost (w:World) (g:List Ty) (e:Ending) (w':World):Prop:=∃ b,e=.returned (.bool b)/\Ext w w'/\(b=true->g.length<=404)
theorem little13 (a:Option Addr) (n c:Nat) (g:List Ty) (w:World) (hg:Graph w (.slice a n c) g):Calls Tryz.prog 13 #[.slice a n c] w (LittlePost w g):=by
 have hb:=(SlW.bound hg).2;obtain rfl:=SlW.len hg;have Hg:=dh hg;clear hg;rcases (show (24<g.length/\g.length<=400)\/404<g.length\/(g.length<=24\/(400<g.length/\g.length<=404)) by omega) with ⟨h1,h2⟩ | h1 | hok
 ·go_enter Tryz.func13,Tryz.ntmps13
  go_wp2_with fail;go_ret;exact ⟨false,rfl,Ext.refl _,fun h=>by cases h⟩
 ·have h2:¬ g.length<=400:=by omega
  have h3:24<g.length:=by omega
  go_enter Tryz.func13,Tryz.ntmps13
  go_wp2_with fail;go_ret;exact ⟨false,rfl,Ext.refl _,fun h=>by cases h⟩
 have h404:g.length<=404:=by omega
 go_enter Tryz.func13,Tryz.ntmps13
 rcases hok with h24 | ⟨h1,h2⟩
 all_goals
  go_wp2_with fail;go_loopw [3] (fun i wr=>∃ k:Nat,k<=g.length/\k<=24/\i=.int .i64 k/\Hid (Ext w wr)) (fun i _=>24-(intOf i).toNat)
  case atStart=>exact ⟨0,Nat.zero_le _,Nat.zero_le _,rfl,dh (Ext.refl _)⟩
  case round =>
   obtain ⟨k,hk,hk24,rfl,hE⟩:=hrel;by_cases hlt:k<g.length/\k<24
   ·obtain ⟨hlt1,hlt2⟩:=hlt;obtain ⟨b,off,pa,pl,pc,ma,ml,mc,oa,ol,oc,hgo,hlt3,hT⟩:=Graph.at (Graph.mono hE.out Hg.out) hlt1;cases hgo;have d0:=hT.c0;have d1:=hT.c1;have d2:=hT.c2;have d3:=hT.c3;have d4:=hT.c4;have d5:=hT.c5;have d6:=hT.c6;have d7:=hT.c7;have d8:=hT.c8;have d9:=hT.c9;have s4:=hT.ok.b;have s5:=hT.ok.o;unfold maxBytes at s4 s5;have bp:=(SlW.bound hT.ps).2;have bm:=(SlW.bound hT.ms).2;have bo:=(SlW.bound hT.os).2;have HT:=dh hT;clear hT;obtain ⟨wo,hwo⟩:∃ wo:World,wo=wr.alloc (.cells (tyCells (nth g k) (.slice pa pl pc) (.slice ma ml mc) (.slice oa ol oc)).toArray 50):=⟨_,rfl⟩;obtain ⟨b4,hb4⟩:∃ b4,b4=wr.heap.size:=⟨_,rfl⟩;have hEo:Ext wr wo:=by rw [hwo]; exact Ext.alloc _ _
    have hr4:wo.heap[b4]? = some (.cells (tyCells (nth g k) (.slice pa pl pc) (.slice ma ml mc) (.slice oa ol oc)).toArray 50 (0,0)):=by rw [hwo,hb4]; exact heap_alloc_new _ _
    have e4:wo.cell? ⟨b4,4,none⟩=some (.string (nth g k).brand):=row_cell hr4 rfl;have e5:wo.cell? ⟨b4,5,none⟩=some (.string (nth g k).opq):=row_cell hr4 rfl;have e7:wo.cell? ⟨b4,7,none⟩=some (.slice pa pl pc):=row_cell hr4 rfl;have e8:wo.cell? ⟨b4,8,none⟩=some (.slice ma ml mc):=row_cell hr4 rfl;have e9:wo.cell? ⟨b4,9,none⟩=some (.slice oa ol oc):=row_cell hr4 rfl;have l4:=row_lt hr4;have HEo:=dh (hE.out.trans hEo);have Hp:=dh (Parts.mono hEo HT.out.ps);have Hme:=dh (Meths.mono hEo HT.out.ms);have Hwo:=dh hwo;have Hb4:=dh hb4;have Hr4:=dh hr4;clear hwo hb4 hEo hr4;go_upto_region 7 with (fail);have hw0:Hid (wo=wr.alloc (.cells #[.int .u8 (nth g k).kind,.int .i64 (nth g k).low,.int .i64 (nth g k).high,.bool (nth g k).branded,.string (nth g k).brand,.string (nth g k).opq,.int .i64 (nth g k).super,.slice pa pl pc,.slice ma ml mc,.slice oa ol oc] 50)):=dh Hwo.out;rw [<- hw0.out,<- Hb4.out];clear d0 d1 d2 d3 d4 d5 d6 d7 d8 d9;rcases (show 10<pl\/(pl<=10/\10<ml)\/(pl<=10/\ml<=10/\10<ol)\/(pl<=10/\ml<=10/\ol<=10/\30<(nth g k).brand.size)\/(pl<=10/\ml<=10/\ol<=10/\(nth g k).brand.size<=30/\40<(nth g k).opq.size)\/(pl<=10/\ml<=10/\ol<=10/\(nth g k).brand.size<=30/\(nth g k).opq.size<=40) by omega) with h1 | ⟨h1,h2⟩ | ⟨h1,h2,h3⟩ | ⟨h1,h2,h3,h4⟩ | ⟨h1,h2,h3,h4,h5⟩ | ⟨h1,h2,h3,h4,h5⟩
    ·go_wp2_with fail;go_ret;exact ⟨false,rfl,HEo.out,fun h=>by cases h⟩
    ·go_wp2_with fail;go_ret;exact ⟨false,rfl,HEo.out,fun h=>by cases h⟩
    ·go_wp2_with fail;go_ret;exact ⟨false,rfl,HEo.out,fun h=>by cases h⟩
    ·go_wp2_with fail;go_ret;exact ⟨false,rfl,HEo.out,fun h=>by cases h⟩
    ·go_wp2_with fail;go_ret;exact ⟨false,rfl,HEo.out,fun h=>by cases h⟩
    ·go_wp2_with fail
     go_loop [5] (fun v=>∃ j:Nat,j<=pl/\v=.int .i64 j) (fun v=>pl-(intOf v).toNat)
     case atStart=>exact ⟨0,Nat.zero_le _,rfl⟩
     case round =>
      obtain ⟨j,hj,rfl⟩:=hrel;by_cases hjl:j<pl
      ·obtain ⟨pb,po,rfl,lpb,q0,q1,q2,-,-⟩:=Parts.at Hp.out hjl;by_cases hnm:(nth (nth g k).parts j).name.size<=20
       ·go_wp2_with fail;go_round
        case rel=>exact ⟨j+1,by omega,by go_num⟩
        case measure=>simp [intOf]; omega
       ·go_wp2_with fail;go_ret;exact ⟨false,rfl,HEo.out,fun h=>by cases h⟩
      ·clear e4 e5 e9;go_wp2_with fail;clear e7;go_loopw [6] (fun v w2=>∃ i:Nat,i<=ml/\v=.int .i64 i/\Hid (Ext wo w2)) (fun v _=>ml-(intOf v).toNat)
       case atStart=>exact ⟨0,Nat.zero_le _,rfl,dh (Ext.refl _)⟩
       case round =>
        obtain ⟨i,hi,rfl,hE2⟩:=hrel;have e8:wr.cell? ⟨b4,8,none⟩=some (.slice ma ml mc):=hE2.out.cell e8;by_cases hil:i<ml
        ·obtain ⟨mb,mo,aa,al,ac,ra,rl,rc,rfl,lmb,q0,q1,q2,q3,q4,q5,q6,-,-,q9,q10⟩:=Meths.at (Meths.mono hE2.out Hme.out) hil;have z5:=(SlW.bound q5).2;have z6:=(SlW.bound q6).2;have HEf:=dh (HEo.out.trans (hE2.out.trans (Ext.alloc _ (.cells #[.string (nth (nth g k).methods i).name,.slice aa al ac,.int .i64 (nth (nth g k).methods i).sig.result,.slice ra rl rc,.string (nth (nth g k).methods i).proc] 88))));have HEg:=dh (hE2.out.trans (Ext.alloc _ (.cells #[.string (nth (nth g k).methods i).name,.slice aa al ac,.int .i64 (nth (nth g k).methods i).sig.result,.slice ra rl rc,.string (nth (nth g k).methods i).proc] 88)));clear q5 q6;rcases (show 20<(nth (nth g k).methods i).name.size\/((nth (nth g k).methods i).name.size<=20/\40<(nth (nth g k).methods i).proc.size)\/((nth (nth g k).methods i).name.size<=20/\(nth (nth g k).methods i).proc.size<=40/\8<al)\/((nth (nth g k).methods i).name.size<=20/\(nth (nth g k).methods i).proc.size<=40/\al<=8/\8<rl)\/((nth (nth g k).methods i).name.size<=20/\(nth (nth g k).methods i).proc.size<=40/\al<=8/\rl<=8) by omega) with y1 | ⟨y1,y2⟩ | ⟨y1,y2,y3⟩ | ⟨y1,y2,y3,y4⟩ | ⟨y1,y2,y3,y4⟩
         ·go_wp2_with fail;go_ret;exact ⟨false,rfl,HEf.out,fun h=>by cases h⟩
         ·go_wp2_with fail;go_ret;exact ⟨false,rfl,HEf.out,fun h=>by cases h⟩
         ·go_wp2_with fail;go_ret;exact ⟨false,rfl,HEf.out,fun h=>by cases h⟩
         ·go_wp2_with fail;go_ret;exact ⟨false,rfl,HEf.out,fun h=>by cases h⟩
         ·go_wp2_with fail;go_roundw
          case rel=>exact ⟨i+1,by omega,by go_num,HEg⟩
          case measure=>simp [intOf]; omega
        ·have HEf:=dh (HEo.out.trans hE2.out);go_wp2_with fail;go_roundw
         case rel=>exact ⟨k+1,by omega,by omega,by go_num,HEf⟩
         case measure=>simp [intOf]; omega
   ·rcases (show k=g.length\/(k<g.length/\k=24) by omega) with rfl | ⟨hq1,rfl⟩
    ·first
     | (exfalso; omega)
     | (go_wp2_with fail; go_ret; exact ⟨true,rfl,hE.out,fun _=>h404⟩)
    ·first
     | (exfalso; omega)
     | (go_wp2_with fail; go_ret; exact ⟨true,rfl,hE.out,fun _=>h404⟩)
end
section
open Go.RowKit Go.Proofs Go.Shelf
def Holds (w:World) (e:Ending) (w':World):Prop:=e=.returned (.bool true)/\Ext w w'
end
section
open Go.RowKit Go.Proofs Go.Shelf
def EnvG (W:World) (vb:Nat) (g:List Ty) (rs:List Reveal):Prop :=
 openE g rs=0/\∃ D,EnvF W vb g rs (classesOf g) D/\∀ a,a<g.length->FarOk g.length (succF g (classesOf g) rs) a (D a)
theorem EnvG.mono {W W':World} {vb:Nat} {g:List Ty} {rs:List Reveal} (h:EnvG W vb g rs) (hE:Ext W W'):EnvG W' vb g rs:=by
 obtain ⟨h0,D,h1,h2⟩:=h;exact ⟨h0,D,h1.mono hE,h2⟩
theorem far_bit {g:List Ty} {rs:List Reveal} (h0:openE g rs=0) {D:Nat->Nat->Int} (hD:∀ a,a<g.length->FarOk g.length (succF g (classesOf g) rs) a (D a)):∀ a b,a<g.length->b<g.length->(0<=D a b↔(nth (reachL g rs g.length) a).testBit b=true):=fun a b ha hb=>by
 rw [bit_lies h0 ha];constructor
 ·intro h;exact ((hD a ha b hb).2.1 h).reach
 ·intro h;obtain ⟨k,hk⟩:=Path.of_reach h;exact ((hD a ha b hb).2.2 k hk).1
section
variable {W:World} {vb:Nat} {g:List Ty} {rs:List Reveal}
theorem belowG (h:EnvG W vb g rs) (a b:Int) (hx:I64 a) (hy:I64 b):Calls Tryz.prog 18 #[.pointer (some ⟨vb,0,none⟩),.int .i64 a,.int .i64 b] W fun e w' =>
  e=.returned (.tuple #[.bool (belowQ g rs a b).1,.int .i64 (belowQ g rs a b).2])/\Ext W w':=by
 obtain ⟨h0,D,h1,h2⟩:=h;exact belowR18 _ h1 (opens h0).2.1 (far_bit h0 h2) a b hx hy
theorem aboveG (h:EnvG W vb g rs) (a:Int) (hx:I64 a):Calls Tryz.prog 20 #[.pointer (some ⟨vb,0,none⟩),.int .i64 a] W (RowPost W (aboveQ g rs a) (askedR g.length [a])):=by
 obtain ⟨h0,D,h1,h2⟩:=h;exact aboveR20 _ h1 (opens h0).2.1 (far_bit h0 h2) a hx
theorem joinG (h:EnvG W vb g rs) (a b:Int) (hx:I64 a) (hy:I64 b):Calls Tryz.prog 22 #[.pointer (some ⟨vb,0,none⟩),.int .i64 a,.int .i64 b] W fun e w' =>
  e=.returned (.tuple #[.int .i64 (joinQ g rs a b).1,.bool (joinQ g rs a b).2.1,.int .i64 (joinQ g rs a b).2.2])/\Ext W w':=by
 obtain ⟨h0,D,h1,h2⟩:=h;exact joinR22 _ h1 (opens h0).2.1 (far_bit h0 h2) a b hx hy
end
def BothPost (w:World) (g:List Ty) (rs:List Reveal) (e:Ending) (w':World):Prop :=
 Ext w w'/\((openE g rs=0/\∃ vb vr,e=.returned (.tuple #[.pointer (some ⟨vb,0,none⟩),.pointer (some ⟨vr,0,none⟩),.bool true])/\EnvA w' vb g rs/\EnvG w' vr g rs) \/
  (openE g rs≠0/\e=.returned (.tuple #[.pointer none,.pointer none,.bool true])))
theorem both16 (a:Option Addr) (n c:Nat) (g:List Ty) (ra:Option Addr) (rn rc:Nat) (rs:List Reveal) (w:World) (hg:Graph w (.slice a n c) g) (hre:Reveals w (.slice ra rn rc) rs) :
  Calls Tryz.prog 16 #[.slice a n c,.slice ra rn rc] w (BothPost w g rs):=by
 have Hg:=dh hg;have Hre:=dh hre;clear hg hre
 go_enter Tryz.func16,Tryz.ntmps16
 go_wp2_with fail;refine (inA _ _ _ g _ _ _ rs w Hg.out Hre.out).mono ?_;rintro e w1 ⟨hE,(⟨h0,vb,rfl,hA⟩ | ⟨h0,rfl⟩)⟩
 ·have HE:=dh hE;have HA:=dh hA;have H0:=dh h0;clear hE hA h0;go_wp2_with fail;refine (inR25 _ _ _ g _ _ _ rs w1 (Graph.mono HE.out Hg.out) (Reveals.mono HE.out Hre.out)).mono ?_;rintro e w2 ⟨hE,(⟨_,vr,D,rfl,hF,hD⟩ | ⟨h0,rfl⟩)⟩;rotate_left
  ·exact absurd H0.out h0
  have HE:=dh (HE.out.trans hE);have HA:=dh (HA.out.mono hE);have HF:=dh (show EnvG w2 vr g rs from ⟨H0.out,D,hF,hD⟩);clear hE hF hD;go_wp2_with fail;have hck:=check46 a n c g ra rn rc rs w2 (Graph.mono HE.out Hg.out) (Reveals.mono HE.out Hre.out);rw [H0.out] at hck;refine hck.mono ?_;clear hck;rintro e w3 ⟨rfl,hE⟩;have HA:=dh (HA.out.mono hE);have HF:=dh (HF.out.mono hE);have HE:=dh (HE.out.trans hE);clear hE;go_wp2_with fail;go_ret3;exact ⟨HE.out,Or.inl ⟨H0.out,vb,vr,rfl,HA.out,HF.out⟩⟩
 ·have HE:=dh hE;have H0:=dh h0;obtain ⟨k,hk⟩:∃ k,k=openE g rs:=⟨_,rfl⟩;have hk0:(k != 0)=true:=by simp [hk,h0]
  have hkk:(k==k)=true:=by simp
  rw [<- hk];have Hk:=dh hk;clear hE h0 hk;go_wp2_with fail;refine (inR25 _ _ _ g _ _ _ rs w1 (Graph.mono HE.out Hg.out) (Reveals.mono HE.out Hre.out)).mono ?_;rintro e w2 ⟨hE,(⟨h0,_⟩ | ⟨_,rfl⟩)⟩
  ·exact absurd h0 H0.out
  have HE:=dh (HE.out.trans hE);rw [<- Hk.out];clear hE;go_wp2_with fail;have hck:=check46 a n c g ra rn rc rs w2 (Graph.mono HE.out Hg.out) (Reveals.mono HE.out Hre.out);rw [<- Hk.out] at hck;refine hck.mono ?_;clear hck;rintro e w3 ⟨rfl,hE⟩;have HE:=dh (HE.out.trans hE);clear hE;go_wp2_with fail;go_ret3;exact ⟨HE.out,Or.inr ⟨H0.out,rfl⟩⟩
end
end Go.Proofs.YtjffkeoajkhbmaaGreat
