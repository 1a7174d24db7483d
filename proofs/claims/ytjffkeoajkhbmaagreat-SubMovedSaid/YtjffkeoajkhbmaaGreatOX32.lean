/- The law's example holds: ordered answers true. The law SubNil, walked. The law SubJoins: in plain Lean, and walked. The law SubOrders. What joins a law to its row: the arguments opened. The law SubAssignable: in plain Lean, and walked. The answers of an environment whose types stand elsewhere: Below, Assign and Line. Plain Lean. The reference's line. An environment that In has made stands on new memory alone; so do the rows that Above and Line answer. The law SubMore: in plain Lean, and walked. The law SubOrders, walked. -/
import Derived.Test.YtjffkeoajkhbmaaGreatRows
import Derived.ProofKit
import Derived.OpenShut
import Derived.ShutString
import Derived.ChangeOld
import Derived.Below
import Derived.Carry
import Derived.Test.YtjffkeoajkhbmaaGreatOX1
import Derived.Test.YtjffkeoajkhbmaaGreatOX12
import Derived.Test.YtjffkeoajkhbmaaGreatOX23
import Derived.Test.YtjffkeoajkhbmaaGreatOX24
import Derived.Test.YtjffkeoajkhbmaaGreatOX29
import Derived.Test.YtjffkeoajkhbmaaGreatOX30
import Derived.Test.YtjffkeoajkhbmaaGreatOX31
namespace Go.Proofs.YtjffkeoajkhbmaaGreat
set_option linter.unusedSimpArgs false
set_option linter.unusedVariables false
set_option maxRecDepth 100000
set_option maxHeartbeats 8000000
section
open Go.RowKit Go.Proofs Go.Shelf
section
variable {W:World} {vb:Nat} {g:List Ty} {rs:List Reveal}
theorem belowV (h:EnvA W vb g rs) (a b:Int) (hx:I64 a) (hy:I64 b) (r:Bool) (n:Int) (hq:belowQ g rs a b=(r,n)):Calls Tryz.prog 17 #[.pointer (some ⟨vb,0,none⟩),.int .i64 a,.int .i64 b] W fun e w' =>
  e=.returned (.tuple #[.bool r,.int .i64 n])/\Ext W w':=by have:=belowA h a b hx hy; rw [hq] at this; exact this
theorem joinV (h:EnvA W vb g rs) (a b:Int) (hx:I64 a) (hy:I64 b) (m:Int) (r:Bool) (n:Int) (hq:joinQ g rs a b=(m,r,n)):Calls Tryz.prog 21 #[.pointer (some ⟨vb,0,none⟩),.int .i64 a,.int .i64 b] W fun e w' =>
  e=.returned (.tuple #[.int .i64 m,.bool r,.int .i64 n])/\Ext W w':=by have:=joinA h a b hx hy; rw [hq] at this; exact this
theorem assignV (h:EnvA W vb g rs) (a b:Int) (hx:I64 a) (hy:I64 b) (k l m n:Int) (hq:assignQ g rs a b=(k,l,m,n)):Calls Tryz.prog 28 #[.pointer (some ⟨vb,0,none⟩),.int .i64 a,.int .i64 b] W fun e w' =>
  e=.returned (.tuple #[.agg #[.int .u8 k,.int .i64 l,.int .i64 m],.int .i64 n])/\Ext W w':=by have:=assignA h a b hx hy; rw [hq] at this; exact this
theorem fieldV (h:EnvA W vb g rs) (a:Int) (hx:I64 a) (s:BA) (hs:s.size<=140737488351232) (k l m:Int) (hq:fieldQ g rs a s=(k,l,m)):Calls Tryz.prog 31 #[.pointer (some ⟨vb,0,none⟩),.int .i64 a,.string s] W fun e w' =>
  e=.returned (.tuple #[.int .i64 k,.int .i64 l,.int .i64 m])/\Ext W w':=by have:=fieldA h a hx s hs; rw [hq] at this; exact this
end
theorem q_in1:openE graphG fullG=0:=by kernel_rfl
theorem q_in2:openE graphG []=0:=by kernel_rfl
theorem q_in3:openE graphG (fullG++fullG)=40:=by kernel_rfl
theorem q_a:belowQ graphG fullG 7 6=(true,0):=by kernel_rfl
theorem q_b:belowQ graphG fullG 5 6=(true,0):=by kernel_rfl
theorem q_c:belowQ graphG [] 7 6=(false,0):=by kernel_rfl
theorem q_d:belowQ graphG fullG 9 4=(false,0):=by kernel_rfl
theorem q_l:deriveQ graphG fullG 7 6=(true,[⟨4,5,0⟩,⟨5,6,0⟩]):=by kernel_rfl
theorem q_j:joinQ graphG fullG 7 6=(5,true,0):=by kernel_rfl
theorem q_n:assignQ graphG fullG 1 2=(2,0,9,0):=by kernel_rfl
theorem q_p:assignQ graphG fullG 9 4=(0,0,0,41):=by kernel_rfl
theorem q_line:lineQ graphG fullG 7=[7,5,6,4]:=by kernel_rfl
theorem q_f:fieldQ graphG fullG 7 ⟨#[110]⟩=(6,0,0):=by kernel_rfl
theorem q_s:fieldQ graphG [] 7 ⟨#[110]⟩=(0,0,5):=by kernel_rfl
theorem q_above:(aboveQ graphG fullG 8).length=7:=by kernel_rfl
theorem q_as7:askedR graphG.length [7]=0:=by kernel_rfl
theorem q_as8:askedR graphG.length [8]=0:=by kernel_rfl
theorem q_as76:askedR graphG.length [7,6]=0:=by kernel_rfl
theorem full45b (w:World):Calls Tryz.prog 45 #[] w fun e w'=>e=.returned (.slice (some ⟨w.heap.size,0,none⟩) 1 1)/\w'=w.alloc (.cells #[.string ⟨#[73,46,84]⟩,.bool true,.int .i64 6] 43):=by
 go_enter Tryz.func45,Tryz.ntmps45
 go_wp2;go_ret;exact ⟨rfl,rfl⟩
theorem info43:(Tryz.prog.info? 43).map (fun i=>(i.zero,i.size,i.bytes))=some (some (.agg #[.string ⟨#[]⟩,.bool false,.int .i64 0]),3,32):=by kernel_rfl
theorem reveals_new (W:World) {b:Nat} {cur:Array Value} (h:W.heap[b]? = some (.cells cur 43 (0,0))) (n cap:Nat) (rs:List Reveal) (hl:rs.length=n) (hn:n<=cap) (hm:n<=1000) (hc:∀ i x,rs[i]? = some x->cur[i*3]? = some (.string x.name)/\cur[i*3+1]? = some (.bool x.full)/\cur[i*3+2]? = some (.int .i64 x.type))
  (hok:∀ x,x∈rs->x.name.size<=maxBytes/\-9223372036854775808<=x.type/\x.type<=9223372036854775807):Reveals W (.slice (some ⟨b,0,none⟩) n cap) rs:=by
 subst hl;refine ⟨_,cap,rfl,hn,by unfold maxBytes; omega,fun i x hx=>⟨b,0,[.string x.name,.bool x.full,.int .i64 x.type],rfl,⟨rfl,hok x (List.mem_of_getElem? hx)⟩,rfl,fun j u hu=>?_⟩⟩;obtain ⟨e0,e1,e2⟩:=hc i x hx;rw [Nat.zero_add]
 match j,hu with
 | 0,hu=>cases hu; exact row_cell h e0
 | 1,hu=>cases hu; exact row_cell h e1
 | 2,hu=>cases hu; exact row_cell h e2
theorem ints_new (w:World) (l:List Int) (hl:l.length<=1000000) (hb:∀ x,x∈l->-9223372036854775808<=x/\x<=9223372036854775807):Ints (w.alloc (.cells (l.map (Value.int .i64)).toArray 3)) (.slice (some ⟨w.heap.size,0,none⟩) l.length l.length) l:=by
 refine ⟨_,_,rfl,Nat.le_refl _,by unfold maxBytes; omega,fun i x hx=>⟨w.heap.size,0,[.int .i64 x],rfl,⟨rfl,hb x (List.mem_of_getElem? hx)⟩,rfl,fun j u hu=>?_⟩⟩
 match j,hu with
 | 0,hu =>
  cases hu;exact row_cell (heap_alloc_new w _) (by simpa using hx)
theorem ordered15 (w:World):Calls Tryz.prog 15 #[] w fun e w'=>e=.returned (.bool true)/\Ext w w':=by
 obtain ⟨i0,hi,hz0,hz1,hz2⟩:=info_parts info43
 go_enter Tryz.func15,Tryz.ntmps15
 go_wp2_with fail;refine (graph44 w).mono ?_;rintro e w1 ⟨a1,rfl,hE,hg⟩;have HE:=dh hE;have Hg:=dh hg;clear hE hg;go_wp2_with fail;refine (full45 w1).mono ?_;rintro e w2 ⟨a2,rfl,hE,hf,-⟩;have hIn:=dh (inA _ _ _ _ _ _ _ _ w2 (Graph.mono hE Hg.out) hf);have HE:=dh (HE.out.trans hE);clear hE hf Hg;go_wp2_with fail;refine hIn.out.mono ?_;rintro e w3 ⟨hE,(⟨-,vb,rfl,hA⟩ | ⟨hc,-⟩)⟩;rotate_left
 ·exact absurd q_in1 hc
 have HA:=dh hA;have HE:=dh (HE.out.trans hE);clear hE hA hIn;go_wp2_with fail;refine (graph44 w3).mono ?_;rintro e w4 ⟨a4,rfl,hE,hg⟩;have hIn:=dh (inA _ _ _ _ none 0 0 [] w4 hg (SlW.nil _ _ _));have HE:=dh (HE.out.trans hE);have HA:=dh (HA.out.mono hE);clear hE hg;go_wp2_with fail;refine hIn.out.mono ?_;rintro e w5 ⟨hE,(⟨-,vc,rfl,hA⟩ | ⟨hc,-⟩)⟩;rotate_left
 ·exact absurd q_in2 hc
 have HA2:=dh hA;have HA:=dh (HA.out.mono hE);have HE:=dh (HE.out.trans hE);clear hE hA hIn;go_wp2_with fail;refine (graph44 w5).mono ?_;rintro e w6 ⟨a6,rfl,hE,hg⟩;have Hg:=dh hg;have HE:=dh (HE.out.trans hE);have HA:=dh (HA.out.mono hE);have HA2:=dh (HA2.out.mono hE);clear hE hg;go_wp2_with fail;refine (full45b w6).mono ?_;rintro e w7 ⟨rfl,hw7⟩;have hb7:w7.heap[w6.heap.size]? = some (.cells #[.string ⟨#[73,46,84]⟩,.bool true,.int .i64 6] 43 (0,0)):=by rw [hw7]; exact heap_alloc_new _ _
 have hE:Ext w6 w7:=by rw [hw7]; exact Ext.alloc _ _
 have Hb7:=dh hb7;have Hg:=dh (Graph.mono hE Hg.out);have HE:=dh (HE.out.trans hE);have HA:=dh (HA.out.mono hE);have HA2:=dh (HA2.out.mono hE);have hs7:w7.heap.size=w6.heap.size+1:=by rw [hw7,World.size_alloc]
 have Hs7:=dh hs7;clear hE hb7 hw7 hs7;go_wp2_with fail;refine (full45b w7).mono ?_;rintro e w8 ⟨rfl,hw8⟩;have hb8:w8.heap[w7.heap.size]? = some (.cells #[.string ⟨#[73,46,84]⟩,.bool true,.int .i64 6] 43 (0,0)):=by rw [hw8]; exact heap_alloc_new _ _
 have hE:Ext w7 w8:=by rw [hw8]; exact Ext.alloc _ _
 have hb7:=(hE.block _ (row_lt Hb7.out)).trans Hb7.out;have HE78:=dh hE;have Hg:=dh (Graph.mono hE Hg.out);have HA:=dh (HA.out.mono hE);have HA2:=dh (HA2.out.mono hE);have hs8:w8.heap.size=w7.heap.size+1:=by rw [hw8,World.size_alloc]
 have c70:=row_cell hb7 (j:=0) rfl;have c71:=row_cell hb7 (j:=1) rfl;have c72:=row_cell hb7 (j:=2) rfl;have c80:=row_cell hb8 (j:=0) rfl;have c81:=row_cell hb8 (j:=1) rfl;have c82:=row_cell hb8 (j:=2) rfl;clear hE hb7 hb8 hw8 hs8;go_wp2_with fail;generalize w8.tape w8.drawn (Question.appendCap 2 1 43) % 9223372036854775806=q;obtain ⟨w9,hw9⟩:∃ w9:World,w9=(w8.alloc (.cells (#[.string ⟨#[73,46,84]⟩,.bool true,.int .i64 6]++(#[.string ⟨#[73,46,84]⟩,.bool true,.int .i64 6]++Builtin.zeroCells #[.string ⟨#[]⟩,.bool false,.int .i64 0] q)) 43)).drew:=⟨_,rfl⟩;rw [<- hw9];have hE9:Ext w8 w9:=by rw [hw9]; exact Below.drew (Ext.alloc _ _)
 have hf9:Reveals w9 (.slice (some ⟨w8.heap.size,0,none⟩) 2 (2+q)) (fullG++fullG):=by
  refine reveals_new w9 (b:=w8.heap.size) (cur:=#[.string ⟨#[73,46,84]⟩,.bool true,.int .i64 6]++(#[.string ⟨#[73,46,84]⟩,.bool true,.int .i64 6]++Builtin.zeroCells #[.string ⟨#[]⟩,.bool false,.int .i64 0] q)) (by rw [hw9]; exact heap_alloc_new _ _) 2 _ _ rfl (by omega) (by decide) (fun i x hx=>?_) (fun x hx=>?_)
  ·match i,hx with
   | 0,hx =>
    cases hx;refine ⟨?_,?_,?_⟩ <;> (rw [Array.getElem?_append_left (by simp)]; rfl)
   | 1,hx =>
    cases hx;refine ⟨?_,?_,?_⟩ <;> (rw [Array.getElem?_append_right (by simp),Array.getElem?_append_left (by simp)]; rfl)
  ·have:x=⟨⟨#[73,46,84]⟩,true,6⟩:=by
    simp only [fullG,List.cons_append,List.nil_append,List.mem_cons,List.not_mem_nil,or_false,or_self] at hx;exact hx
   subst this
   decide
 have hck:=dh (check46 _ _ _ _ _ _ _ _ w9 (Graph.mono hE9 Hg.out) hf9);rw [q_in3] at hck;have HE:=dh ((HE.out.trans HE78.out).trans hE9);have HA:=dh (HA.out.mono hE9);have HA2:=dh (HA2.out.mono hE9);clear hw9 hE9 hf9 Hg Hb7 Hs7 HE78 hi hz0 hz1 hz2 c70 c71 c72 c80 c81 c82;refine hck.out.mono ?_;rintro e w10 ⟨rfl,hE⟩;have HE:=dh (HE.out.trans hE);have HA:=dh (HA.out.mono hE);have HA2:=dh (HA2.out.mono hE);clear hE hck;go_wp2_with fail;refine (belowV HA.out 7 6 ⟨by decide,by decide⟩ ⟨by decide,by decide⟩ _ _ q_a).mono ?_;rintro e w11 ⟨rfl,hE⟩;have HE:=dh (HE.out.trans hE);have HA:=dh (HA.out.mono hE);have HA2:=dh (HA2.out.mono hE);clear hE;go_wp2_with fail;refine (belowV HA.out 5 6 ⟨by decide,by decide⟩ ⟨by decide,by decide⟩ _ _ q_b).mono ?_;rintro e w12 ⟨rfl,hE⟩;have HE:=dh (HE.out.trans hE);have HA:=dh (HA.out.mono hE);have HA2:=dh (HA2.out.mono hE);clear hE;go_wp2_with fail;refine (belowV HA2.out 7 6 ⟨by decide,by decide⟩ ⟨by decide,by decide⟩ _ _ q_c).mono ?_;rintro e w13 ⟨rfl,hE⟩;have HE:=dh (HE.out.trans hE);have HA:=dh (HA.out.mono hE);have HA2:=dh (HA2.out.mono hE);clear hE;go_wp2_with fail;refine (belowV HA.out 9 4 ⟨by decide,by decide⟩ ⟨by decide,by decide⟩ _ _ q_d).mono ?_;rintro e w14 ⟨rfl,hE⟩;have HE:=dh (HE.out.trans hE);have HA:=dh (HA.out.mono hE);have HA2:=dh (HA2.out.mono hE);clear hE;have hder:=dh (deriveA HA.out 7 6 ⟨by decide,by decide⟩ ⟨by decide,by decide⟩);rw [q_l,q_as76] at hder;go_wp2_with fail;refine hder.out.mono ?_;rintro e w15 ⟨dx,dn,dc,rfl,hD,hE⟩;obtain rfl:2=dn:=(SlW.len hD).symm;have HD:=dh hD;have HE:=dh (HE.out.trans hE);have HA:=dh (HA.out.mono hE);have HA2:=dh (HA2.out.mono hE);clear hE hder hD;go_wp2_with fail;refine (joinV HA.out 7 6 ⟨by decide,by decide⟩ ⟨by decide,by decide⟩ _ _ _ q_j).mono ?_;rintro e w16 ⟨rfl,hE⟩;have HE:=dh (HE.out.trans hE);have HA:=dh (HA.out.mono hE);have HA2:=dh (HA2.out.mono hE);have HD:=dh (StepsW.mono hE HD.out);clear hE;go_wp2_with fail;refine (assignV HA.out 1 2 ⟨by decide,by decide⟩ ⟨by decide,by decide⟩ _ _ _ _ q_n).mono ?_;rintro e w17 ⟨rfl,hE⟩;have HE:=dh (HE.out.trans hE);have HA:=dh (HA.out.mono hE);have HA2:=dh (HA2.out.mono hE);have HD:=dh (StepsW.mono hE HD.out);clear hE;go_wp2_with fail;obtain ⟨w18,hw18⟩:∃ w18:World,w18=w17.alloc (.cells #[.int .u8 2,.int .i64 0,.int .i64 9] 56):=⟨_,rfl⟩;obtain ⟨k17,hk17⟩:∃ k17,k17=w17.heap.size:=⟨_,rfl⟩;rw [<- hw18,<- hk17];have hE:Ext w17 w18:=by rw [hw18]; exact Ext.alloc _ _
 have HK:=dh (show w18.heap[k17]? = some (.cells #[.int .u8 2,.int .i64 0,.int .i64 9] 56 (0,0)) from by rw [hw18,hk17]; exact heap_alloc_new _ _);have HE:=dh (HE.out.trans hE);have HA:=dh (HA.out.mono hE);have HA2:=dh (HA2.out.mono hE);have HD:=dh (StepsW.mono hE HD.out);clear hE hw18 hk17;refine (assignV HA.out 9 4 ⟨by decide,by decide⟩ ⟨by decide,by decide⟩ _ _ _ _ q_p).mono ?_;rintro e w19 ⟨rfl,hE⟩;have HE:=dh (HE.out.trans hE);have HA:=dh (HA.out.mono hE);have HA2:=dh (HA2.out.mono hE);have HD:=dh (StepsW.mono hE HD.out);have HK:=dh ((hE.block _ (row_lt HK.out)).trans HK.out);clear hE;go_wp2_with fail;obtain ⟨w20,hw20⟩:∃ w20:World,w20=w19.alloc (.cells #[.int .u8 0,.int .i64 0,.int .i64 0] 56):=⟨_,rfl⟩;obtain ⟨k19,hk19⟩:∃ k19,k19=w19.heap.size:=⟨_,rfl⟩;rw [<- hw20,<- hk19];have hE:Ext w19 w20:=by rw [hw20]; exact Ext.alloc _ _
 have HE:=dh (HE.out.trans hE);have HA:=dh (HA.out.mono hE);have HA2:=dh (HA2.out.mono hE);have HD:=dh (StepsW.mono hE HD.out);have HK:=dh ((hE.block _ (row_lt HK.out)).trans HK.out);clear hE hw20 hk19;have hl:=dh (lineA HA.out 7 ⟨by decide,by decide⟩);rw [q_line,q_as7] at hl;refine hl.out.mono ?_;rintro e w21 ⟨lx,ln,lc,rfl,hL,hE⟩;obtain rfl:4=ln:=(SlW.len hL).symm;have HL:=dh hL;have HE:=dh (HE.out.trans hE);have HA:=dh (HA.out.mono hE);have HA2:=dh (HA2.out.mono hE);have HD:=dh (StepsW.mono hE HD.out);have HK:=dh ((hE.block _ (row_lt HK.out)).trans HK.out);clear hE hL hl;go_wp2_with fail;refine (fieldV HA.out 7 ⟨by decide,by decide⟩ ⟨#[110]⟩ (by decide) _ _ _ q_f).mono ?_;rintro e w22 ⟨rfl,hE⟩;have HE:=dh (HE.out.trans hE);have HA:=dh (HA.out.mono hE);have HA2:=dh (HA2.out.mono hE);have HD:=dh (StepsW.mono hE HD.out);have HL:=dh (Ints.mono hE HL.out);have HK:=dh ((hE.block _ (row_lt HK.out)).trans HK.out);clear hE;go_wp2_with fail;refine (fieldV HA2.out 7 ⟨by decide,by decide⟩ ⟨#[110]⟩ (by decide) _ _ _ q_s).mono ?_;rintro e w23 ⟨rfl,hE⟩;have HE:=dh (HE.out.trans hE);have HA:=dh (HA.out.mono hE);have HD:=dh (StepsW.mono hE HD.out);have HL:=dh (Ints.mono hE HL.out);have HK:=dh ((hE.block _ (row_lt HK.out)).trans HK.out);clear hE HA2;have hab:=dh (aboveA HA.out 8 ⟨by decide,by decide⟩);rw [q_as8] at hab;go_wp2_with fail;refine hab.out.mono ?_;rintro e w24 ⟨ax,an,ac,rfl,hAb,hE⟩;obtain rfl:7=an:=by have:=SlW.len hAb; rw [q_above] at this; exact this.symm
 have HE:=dh (HE.out.trans hE);have hD:=StepsW.mono hE HD.out;have HL:=dh (Ints.mono hE HL.out);have hK0:=(hE.block _ (row_lt HK.out)).trans HK.out;clear hE hab hAb HA HD HK;obtain ⟨db,dof,rfl,ldb,d0,d1,d2,-⟩:=StepsW.at hD (i:=0) (by decide);obtain ⟨db',dof',hx,-,e0,e1,e2,-⟩:=StepsW.at hD (i:=1) (by decide);cases hx;have hz:dof+0*3=dof:=by omega
 rw [hz] at d0 d1 d2;have d0:w24.cell? ⟨db,dof,none⟩=some (.int .u8 4):=d0;have d1:w24.cell? ⟨db,dof+1,none⟩=some (.int .i64 5):=d1;have d2:w24.cell? ⟨db,dof+2,none⟩=some (.int .i64 0):=d2;have e0:w24.cell? ⟨db,dof+3,none⟩=some (.int .u8 5):=e0;have e1:w24.cell? ⟨db,dof+3+1,none⟩=some (.int .i64 6):=e1;have e2:w24.cell? ⟨db,dof+3+2,none⟩=some (.int .i64 0):=e2;clear hz;have k0:=row_cell hK0 (j:=0) rfl;have k1:=row_cell hK0 (j:=1) rfl;have k2:=row_cell hK0 (j:=2) rfl;have lk:=row_lt hK0;clear hD hK0;go_wp2_with fail;have hs:=dh (sameInts23 _ _ _ _ _ _ [7,5,6,4] [7,5,6,4] (w24.alloc (.cells #[.int .i64 7,.int .i64 5,.int .i64 6,.int .i64 4] 3)) (Ints.mono (Ext.alloc _ _) HL.out) (ints_new w24 [7,5,6,4] (by decide) (fun x hx=>by simp at hx; omega)));have HE:=dh (HE.out.trans (Ext.alloc w24 (.cells #[.int .i64 7,.int .i64 5,.int .i64 6,.int .i64 4] 3)));refine hs.out.mono ?_;rintro e w25 ⟨rfl,hE⟩;have HE:=dh (HE.out.trans hE);clear hE hs;go_wp2_with fail;go_ret;exact ⟨rfl,HE.out⟩
end
section
open Go.RowKit Go.Proofs Go.Shelf
def Holds (w:World) (e:Ending) (w':World):Prop:=e=.returned (.bool true)/\Ext w w'
end
section
open Go.RowKit Go.Proofs Go.Shelf
theorem below_val {g:List Ty} {rs:List Reveal} (h:openE g rs=0) {a b:Nat} (ha:a<g.length) (hb:b<g.length):∃ p,belowQ g rs a b=(p,0)/\(p=true↔Lies g rs a b):=by
 obtain ⟨h1,h2⟩:=belowQ_iff h ha hb;exact ⟨_,Prod.ext rfl h1,h2⟩
theorem i64_nat {n k:Nat} (hk:k<n) (hn:n<=400):I64 (k:Int):=⟨by omega,by omega⟩
end
section
open Go.RowKit Go.Proofs Go.Shelf
def EnvG (W:World) (vb:Nat) (g:List Ty) (rs:List Reveal):Prop :=
 openE g rs=0/\∃ D,EnvF W vb g rs (classesOf g) D/\∀ a,a<g.length->FarOk g.length (succF g (classesOf g) rs) a (D a)
theorem EnvG.mono {W W':World} {vb:Nat} {g:List Ty} {rs:List Reveal} (h:EnvG W vb g rs) (hE:Ext W W'):EnvG W' vb g rs:=by
 obtain ⟨h0,D,h1,h2⟩:=h;exact ⟨h0,D,h1.mono hE,h2⟩
section
variable {W:World} {vb:Nat} {g:List Ty} {rs:List Reveal}
end
end
section
open Go.ChangeShapes Go.WideShapes Go.ChangeAt Go.RowKit Go.Proofs
theorem own:ownKnob Tryz.prog.godebug=none:=by kernel_rfl
theorem laidOut:laidOutB Tryz.prog=true:=by kernel_rfl
section
variable {H:Type} {enc:TypeId × Value->H} {W:World}
theorem arg_graph {base:Nat} {v:Value} {d:DataW H} {p:List MemPlace} (hv:Value.okWide Tryz.prog W .any base 23 v) (h:DataW.Trod enc Tryz.prog W 0 (fun _=>true) true 23 v d p) (hf:Fits Tryz.prog 23 d):∃ a n c g,v=.slice a n c/\Graph W (.slice a n c) g:=by
 obtain ⟨a,n,c,rfl⟩:=okWide_slice Tryz.underlying23 hv;obtain ⟨m,hm⟩:=h;obtain ⟨v',g,he,hg⟩:=open_graph hm hf;change [Value.slice a n c]=[v'] at he;injection he with he _
 subst he;exact ⟨a,n,c,g,rfl,hg⟩
theorem arg_reveals {base:Nat} {v:Value} {d:DataW H} {p:List MemPlace} (hv:Value.okWide Tryz.prog W .any base 24 v) (h:DataW.Trod enc Tryz.prog W 0 (fun _=>true) true 24 v d p) (hf:Fits Tryz.prog 24 d):∃ a n c rs,v=.slice a n c/\Reveals W (.slice a n c) rs:=by
 obtain ⟨a,n,c,rfl⟩:=okWide_slice Tryz.underlying24 hv;obtain ⟨m,hm⟩:=h;obtain ⟨v',g,he,hg⟩:=open_reveals hm hf;change [Value.slice a n c]=[v'] at he;injection he with he _
 subst he;exact ⟨a,n,c,g,rfl,hg⟩
theorem arg_below {t:TypeId} {v:Value} {d:DataW H} {p:List MemPlace} (hr:Tryz.prog.readableRec t=true) (hrow:t<Tryz.prog.types.size) {W':World} (h:DataW.Trod enc Tryz.prog W 0 (fun _=>true) true t v d p) (hb:Below W.heap.size W W') :
  DataW.Trod enc Tryz.prog W' 0 (fun b=>decide (b<W.heap.size)) true t v d p:=by
 obtain ⟨m,hm⟩:=h;exact Below.trod laidOut hr hrow ⟨m,hm⟩ hb (DataW.trod_lt _ _ _ _ hm)
end
end
section
open Go.RowKit Go.Proofs Go.Shelf
end
section
open Go.RowKit Go.Proofs
section
variable {f:Nat->Nat} {g h:List Ty} {rs:List Reveal}
theorem Morph.below (m:Morph f g h) (hg:openE g rs=0) (hh:openE h (rs.map (relR f))=0) {a b:Nat} (ha:a<g.length) (hb:b<g.length):belowQ h (rs.map (relR f)) (f a:Nat) (f b:Nat)=belowQ g rs a b:=by
 obtain ⟨p,e1,k1⟩:=below_val hg ha hb;obtain ⟨q,e2,k2⟩:=below_val hh (m.lt a ha) (m.lt b hb);rw [e1,e2];rw [m.lies hg hh ha hb,<- k1] at k2;rw [show q=p by rw [Bool.eq_iff_iff]; exact k2]
theorem Morph.assign (m:Morph f g h) (hg:openE g rs=0) (hh:openE h (rs.map (relR f))=0) {a b:Nat} (ha:a<g.length) (hb:b<g.length):assignQ h (rs.map (relR f)) (f a:Nat) (f b:Nat)=assignQ g rs a b:=by
 have hbit:∀ x y,x<g.length->y<g.length->(nth (reachL h (rs.map (relR f)) h.length) (f x)).testBit (f y)=(nth (reachL g rs g.length) x).testBit y:=fun x y hx hy=>by
  rw [Bool.eq_iff_iff,bit_lies hh (m.lt x hx),bit_lies hg hx];exact m.lies hg hh hx hy
 unfold assignQ assignR;rw [if_pos (asked_two (m.lt a ha) (m.lt b hb)),if_pos (asked_two ha hb)];simp only [Int.toNat_natCast];have h1:∀ x,x<g.length->spanR (nth h (f x))=spanR (nth g x):=fun x hx=>by rw [m.ty x hx]; rfl
 have h2:∀ x,x<g.length->(nth h (f x)).kind=(nth g x).kind:=fun x hx=>by rw [m.ty x hx]; rfl
 simp only [hbit b a hb ha,hbit a b ha hb,h1 a ha,h1 b hb,h2 a ha,h2 b hb]
theorem lineV_map {n:Nat} {S S':Nat->List Nat} (hS:∀ t,t<n->∀ u,u∈S t->u<n) (hS':∀ t,t<n->S' (f t)=(S t).map f) (hf:∀ i j,i<n->j<n->f i=f j->i=j) :
  ∀ (k:Nat) (out:List Nat) (t:Nat),OutOk n out->t<n->lineV S' k (out.map f) (f t)=(lineV S k out t).map f
 | 0,out,t,_,_=>rfl
 | k+1,out,t,ho,ht=>by
  by_cases hm:t∈out
  ·rw [lineV_met hm,lineV_met (List.mem_map.2 ⟨t,hm,rfl⟩)]
  ·have hm2:f t∉out.map f:=fun h=>by
    obtain ⟨x,hx,e⟩:=List.mem_map.1 h;rw [hf x t (ho.lt x hx) ht e] at hx;exact hm hx
   rw [lineV_new hm,lineV_new hm2,hS' t ht];have key:∀ (us:List Nat) (o:List Nat),OutOk n o->(∀ u,u∈us->u<n)->(us.map f).foldl (lineV S' k) (o.map f)=(us.foldl (lineV S k) o).map f:=fun us=>by
    induction us with
    | nil=>intro o _ _; rfl
    | cons u us ih =>
     intro o h1 h2;have hu:=h2 u (List.mem_cons_self ..);simp only [List.map_cons,List.foldl_cons];rw [lineV_map hS hS' hf k o u h1 hu];exact ih _ (lineV_keeps hS k o u h1 hu).1 (fun v hv=>h2 v (List.mem_cons_of_mem _ hv))
   have:=key (S t) (out++[t]) (ho.snoc ht hm) (hS t ht);rw [List.map_append] at this;exact this
theorem rel_fullAt {L:List Nat} (hL:∀ i,i∈L->i<rs.length):fullAt (rs.map (relR f)) L=fullAt rs L:=by
 unfold fullAt;have:∀ (l:List Nat) (p q:Nat->Bool),(∀ j,j∈l->p j=q j)->l.find? p=l.find? q:=fun l p q=>by
  induction l with
  | nil=>intro _; rfl
  | cons x l ih =>
   intro hl;rw [List.find?_cons,List.find?_cons,hl x (List.mem_cons_self ..),ih (fun j hj=>hl j (List.mem_cons_of_mem _ hj))]
 refine this _ _ _ (fun k hk=>?_);rw [rel_rev (hL _ (nth_mem (List.mem_range.1 hk)))]
 rfl
theorem Morph.goes (m:Morph f g h) {t:Nat} (ht:t<g.length):lineS h (rs.map (relR f)) (f t)=(lineS g rs t).map f:=by
 have hsup:supL9 h (f t)=(supL9 g t).map f:=by
  unfold supL9;rw [m.ty t ht,rel_kind,rel_super];cases hs:hasSuperB (nth g t).kind
  ·rfl
  ·simp only [if_true,Int.toNat_natCast,List.map_cons,List.map_nil]
 unfold lineS;rw [hsup,m.ty t ht,rel_kind];show (if (nth g t).kind=13 then (match fullAt (rs.map (relR f)) (byN (rs.map (relR f)) (rs.map (relR f)).length (nth g t).opq) with
  | some k=>[(nth (rs.map (relR f)) (nth (byN (rs.map (relR f)) (rs.map (relR f)).length (nth g t).opq) k)).type.toNat]
  | none=>((byN (rs.map (relR f)) (rs.map (relR f)).length (nth g t).opq).map fun i=>(nth (rs.map (relR f)) i).type.toNat)++(supL9 g t).map f) else (supL9 g t).map f)=_
 by_cases h13:(nth g t).kind=13
 ·rw [if_pos h13,if_pos h13,rel_byN,rel_fullAt (fun i hi=>byN_lt hi)];cases hfa:fullAt rs (byN rs rs.length (nth g t).opq) with
  | some k =>
   have hk:=List.mem_range.1 (List.mem_of_find?_eq_some hfa);simp only [List.map_cons,List.map_nil];rw [rel_rev (byN_lt (nth_mem hk))];show [(f (nth rs (nth (byN rs rs.length (nth g t).opq) k)).type.toNat:Int).toNat]=_
   rw [Int.toNat_natCast]
  | none =>
   simp only [List.map_append,List.map_map]
   congr 1
   refine List.map_congr_left (fun i hi=>?_);rw [rel_rev (byN_lt hi)];show (f (nth rs i).type.toNat:Int).toNat=f (nth rs i).type.toNat
   rw [Int.toNat_natCast]
 ·rw [if_neg h13,if_neg h13]
theorem Morph.line (m:Morph f g h) (hl:h.length=g.length) (hf:∀ i j,i<g.length->j<g.length->f i=f j->i=j) (hg:openE g rs=0) {t:Nat} (ht:t<g.length):lineL h (rs.map (relR f)) (f t)=(lineL g rs t).map f:=by
 obtain ⟨_,_,_,hr,hbad⟩:=opens hg;unfold lineL;rw [hl];exact lineV_map (lineS_lt hr (fun k hk=>rev_in (hbad k hk))) (fun t ht=>m.goes ht) hf (g.length+1) [] t ⟨List.nodup_nil,fun x hx=>by cases hx⟩ ht
end
end
section
open Go.RowKit Go.Proofs Go.Shelf
def Keep3 (w w':World):Prop:=∀ (b:Nat) (cs:Array Value) (T:TypeId),T≠3->w.heap[b]? = some (.cells cs T (0,0))->w'.heap[b]? = some (.cells cs T (0,0))
theorem Keep3.refl (w:World):Keep3 w w:=fun _ _ _ _ h=>h
theorem Keep3.trans {a b c:World} (h:Keep3 a b) (k:Keep3 b c):Keep3 a c:=fun x cs T hT hx=>k x cs T hT (h x cs T hT hx)
theorem Keep3.ext {w w':World} (h:Ext w w'):Keep3 w w':=fun b cs T _ hb=>(h.block b (Array.getElem?_eq_some_iff.1 hb).1).trans hb
theorem Keep3.grown {w w':World} {base:Nat} {v:Value} {xs:List Int} (hO:OwnL IntC 3 1 w base v xs) (hg:w.grownBy w' v.ownBlock):Keep3 w w':=fun b cs T hT hb=>by
 refine (hg.block b (Array.getElem?_eq_some_iff.1 hb).1 (fun e=>?_)).trans hb;obtain ⟨cur,hc⟩:=own_type hO e.symm;exact ne_type hb hc hT rfl
theorem RefI.mono {W0 w w':World} {v:Value} {l:List Int} (h:RefI W0 w v l) (hE:Ext w w'):RefI W0 w' v l:=⟨h.ext.trans hE,own_later h.own hE⟩
end
section
open Go.RowKit Go.Proofs Go.Shelf
def Agree (base:Nat) (W W':World):Prop:=∀ j,base<=j->j<W.heap.size->W'.heap[j]? = W.heap[j]?
theorem Agree.pre {base:Nat} {W W1 W':World} (hE:Ext W W1) (h:Agree base W1 W'):Agree base W W':=fun j hj hl =>
 (h j hj (Nat.lt_of_lt_of_le hl hE.size)).trans (hE.block j hl)
theorem EnvI.fresh {w w1 W W':World} {vb:Nat} {g:List Ty} {rs:List Reveal} {gv cv rv:Value} {mb:Nat} {m:List (BA × Value)} {av:Value} {k:Nat} (hO:EnvO w w1 vb g rs gv cv rv mb m) (h:EnvI w1 W vb g rs gv cv rv mb av k) (hk:k<=400)
  (hW:Agree w.heap.size W W'):EnvW W' vb g (classesOf g) rs (reachL g rs k) gv cv rv av/\ByAt W' vb rs mb m:=by
 have hf:∀ B:Nat,∀ j,some vb=some j->fromB1 B vb j=false:=fun B j e=>by cases e; simp [fromB1]
 have heq:CellLe (only W (fromB1 w.heap.size vb)) W':=fun a v hc=>by
  obtain ⟨h1,h2⟩:=only_cell hc;unfold fromB1 at h2;simp only [Bool.and_eq_true,decide_eq_true_eq] at h2;exact (World.cell?_of_block (w:=W) (w':=W') (hW a.block h2.1 (cell_lt h1))).trans h1
 have le1:CellLe (only w1 (fromB1 w.heap.size vb)) W':=(only_grown h.gr (hf _)).trans heq;have hs:w.heap.size<=w1.heap.size:=hO.ext.size;have hrow:W'.heap[vb]? = some (.cells #[gv,cv,rv,.map (some mb),av] 103 (0,0)):=(hW vb hO.base (row_lt h.row)).trans h.row;have hown:W'.ownsRow w1.heap.size 97 7 av k (reachC g rs k):=by
  refine ⟨h.own.1,?_⟩;rcases h.own.2 with hn | ⟨q,cap,cur,e,hb,hq,rest⟩
  ·exact .inl hn
  ·exact .inr ⟨q,cap,cur,e,hb,(hW q (Nat.le_trans hs hb) (Array.getElem?_eq_some_iff.1 hq).1).trans hq,rest⟩
 exact ⟨⟨row_cell hrow rfl,row_cell hrow rfl,row_cell hrow rfl,row_cell hrow rfl,Graph.le le1 hO.gr,Ints.le le1 hO.cl,Reveals.le le1 hO.re,bits_owns hown hk⟩,
  ⟨row_cell hrow rfl,hO.at_.same ((hW mb hO.mbase (Nat.lt_of_lt_of_le hO.at_.lt h.gr.size)).trans (h.gr.block mb hO.at_.lt (fun e=>hO.mne (Option.some.inj e)))),fun name=>Ints.le le1 (hO.rows name)⟩⟩
def EnvM (base:Nat) (W:World) (vb:Nat) (g:List Ty) (rs:List Reveal):Prop:=∀ W',Agree base W W'->EnvA W' vb g rs
theorem EnvM.env {base:Nat} {W:World} {vb:Nat} {g:List Ty} {rs:List Reveal} (h:EnvM base W vb g rs):EnvA W vb g rs:=h W fun _ _ _=>rfl
theorem EnvM.mono {base:Nat} {W W1:World} {vb:Nat} {g:List Ty} {rs:List Reveal} (h:EnvM base W vb g rs) (hE:Ext W W1):EnvM base W1 vb g rs:=fun W' hW=>h W' (hW.pre hE)
section
variable {W:World} {vb:Nat} {g:List Ty} {rs:List Reveal}
end
theorem EnvT.keep {W W':World} {vb:Nat} {g:List Ty} {rs:List Reveal} {C:Nat->Nat} {D:Nat->Nat->Int} {ga ra:Option Addr} {gc rc:Nat} {o l:Nat} (h:EnvT W vb g rs C D ga gc ra rc)
  (ho:∃ cur,W.heap[o]? = some (.cells cur 50 (0,0))) (hl:∃ cur,W.heap[l]? = some (.cells cur 43 (0,0))) (hW:∀ j,j≠o->j≠l->W'.heap[j]? = W.heap[j]?):EnvT W' vb g rs C D ga gc ra rc:=by
 obtain ⟨co,ho⟩:=ho;obtain ⟨cl,hl⟩:=hl;have key:∀ (j:Nat) (x:Array Value) (T:TypeId),T≠50->T≠43->W.heap[j]? = some (.cells x T (0,0))->W'.heap[j]? = some (.cells x T (0,0)):=fun j x T h1 h2 h=>(hW j (ne_type h ho h1) (ne_type h hl h2)).trans h;obtain ⟨r,fv,fbs,B,henv,hcls,hown,hlen,hrows⟩:=h;refine ⟨r,fv,fbs,B,key _ _ _ (by decide) (by decide) henv,key _ _ _ (by decide) (by decide) hcls,?_,hlen,fun i hi=>key _ _ _ (by decide) (by decide) (hrows i hi)⟩;obtain ⟨css,a1,a2,a3,a4⟩:=hown;refine ⟨css,a1,a2,a3,a4.1,?_⟩;rcases a4.2 with hn | ⟨q,cap,cur,e,hb,hq,rest⟩
 ·exact .inl hn
 ·exact .inr ⟨q,cap,cur,e,hb,key _ _ _ (by decide) (by decide) hq,rest⟩
end
section
open Go.RowKit Go.Proofs Go.Shelf
def InB (W:World) (g:List Ty) (rs:List Reveal) (e:Ending) (w':World):Prop:=∃ p,e=.returned (.tuple #[.pointer p,.int .i64 (openE g rs)])/\Ext W w'/\(openE g rs=0->∃ vb,p=some ⟨vb,0,none⟩/\EnvA w' vb g rs)
theorem inB {W:World} {g:List Ty} {rs:List Reveal} {v w:Value} (hg:Graph W v g) (hr:Reveals W w rs):Calls Tryz.prog 24 #[v,w] W (InB W g rs):=by
 obtain ⟨a,c,rfl,_⟩:=id hg;obtain ⟨b,d,rfl,_⟩:=id hr;refine (inA _ _ _ g _ _ _ rs W hg hr).mono ?_;rintro e w' ⟨hE,(⟨h0,vb,rfl,hA⟩ | ⟨h0,rfl⟩)⟩
 ·exact ⟨_,by rw [h0],hE,fun _=>⟨vb,rfl,hA⟩⟩
 ·exact ⟨_,rfl,hE,fun h=>absurd h h0⟩
def RevealC (x:Reveal) (cs:List Value):Prop:=cs=[.string x.name,.bool x.full,.int .i64 x.type]/\x.name.size<=maxBytes/\-9223372036854775808<=x.type/\x.type<=9223372036854775807
theorem reveal_cells:∀ y cs,RevealC y cs->∀ u,u∈cs->u.oneCell'=true:=fun y cs h u hu=>by
 obtain ⟨rfl,_⟩:=h;simp only [List.mem_cons,List.not_mem_nil,or_false] at hu;rcases hu with rfl | rfl | rfl <;> rfl
theorem one_reveal {W:World} {b:Nat} {r:Reveal} (h:W.heap[b]? = some (.cells #[.string r.name,.bool r.full,.int .i64 r.type] 43 (0,0))) (hok:r.name.size<=maxBytes/\-9223372036854775808<=r.type/\r.type<=9223372036854775807):SlW (fun _=>RevealC) 3 W (.slice (some ⟨b,0,none⟩) 1 1) [r] :=
 ⟨_,1,rfl,Nat.le_refl _,by show 1*(8*3)<=maxBytes; decide,fun i x hx=>by
  match i,hx with
  | 0,hx =>
   cases hx;refine ⟨b,0,_,rfl,⟨rfl,hok⟩,rfl,fun j u hu=>?_⟩;rw [show 0+0*3+j=j by omega];exact row_cell h (by simpa using hu)⟩
def HasBox (w:World) (b:Nat) (r:Reveal):Prop:=w.heap[b]? = some (.cells #[.string r.name,.bool r.full,.int .i64 r.type] 43 (0,0))
theorem HasBox.ext {w w':World} {b:Nat} {r:Reveal} (h:HasBox w b r) (hE:Ext w w'):HasBox w' b r:=(hE.block b (row_lt h)).trans h
section
variable {P:Program} {md:Region.Mode} {ops:Array Oper} {fin:Nat} {Q:Exit->Act->World->Prop} {S:World->Prop}
theorem tS {i:Nat} {oi:Oper} {v:Value} {fuel:Nat} {listed:Array Bool} {a:Act} {w:World} (hfin:finOk md ops fin=true) (hi:ops[i]? = some oi)
  (hs:Region.noSelect ops=true) (hf:Region.free md ops listed i=true) (hr:(Region.ready md ops listed).contains i=true)
  (hQ:∀ c a w,Q (.panic c) (a.put oi.dst v) w->Q (.panic c) a w) (hy:YieldsIf P ops S oi v a) (hS:S w)
  (h:wpX P md ops fin Q S fuel (listed.setIfInBounds i true) (a.put oi.dst v) w):wpX P md ops fin Q S (fuel+1) listed a w :=
 wpX_first hfin hi (Region.noSelect_spec hs) hQ fuel listed a w (Region.free_spec hi hf) (by simpa using hr) hy hS h
end
theorem OwnL.alloc {α:Type} {R:α->List Value->Prop} {e:TypeId} {sz:Nat} {w:World} {base:Nat} {v:Value} {xs:List α} (h:OwnL R e sz w base v xs) (o:Obj):OwnL R e sz (w.alloc o) base v xs:=by
 obtain ⟨css,hl,hR,hsz,hown⟩:=h;exact ⟨css,hl,hR,hsz,hown.alloc o⟩
theorem OwnL.ext {α:Type} {R:α->List Value->Prop} {e:TypeId} {sz:Nat} {w w' w0:World} {v:Value} {xs:List α} (h:OwnL R e sz w w0.heap.size v xs) (hE:Ext w0 w) (hg:w.grownBy w' v.ownBlock):Ext w0 w' :=
 hE.grown hg hE.size (fun q e=>(h.lt q e).1)
end
section
open Go.RowKit Go.Proofs Go.Shelf
end
end Go.Proofs.YtjffkeoajkhbmaaGreat
