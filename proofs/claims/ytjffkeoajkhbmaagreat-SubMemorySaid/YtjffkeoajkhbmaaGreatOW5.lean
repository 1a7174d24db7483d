/- Whether a type is as said in itself. types.Check. slices.AppendSeq over whatever yields numbers. -/
import Derived.RangeFuncBox
import Derived.RangeFuncNested
import Derived.RangeFuncCalls
import Derived.RangeFuncLeaves
import Derived.Shelf.RegionOpen
import Derived.OwnWalkIn
import Derived.TacticsInMore
import Derived.LoopNIn
import Derived.LoopIn
import Derived.Test.YtjffkeoajkhbmaaGreatOW4
namespace Go.Proofs.YtjffkeoajkhbmaaGreat
set_option linter.unusedSimpArgs false
set_option linter.unusedVariables false
set_option maxRecDepth 100000
set_option maxHeartbeats 8000000
section
open Go.RowKit Go.Proofs
theorem size0 (s:BA):(s.size==0)=decide (ByteArray.toList s=[]):=by
 rw [<- empty_iff];cases h:ByteArray.toList s <;> simp
def restB (t:Ty) (pl ml ol:Nat):Bool:=t.low==0&&t.high==0&&!t.branded&&t.brand.size==0&&t.opq.size==0&&t.super==0&&pl+ml+ol==0
theorem ruleTable_eq:ruleTable=#[.nilFunc,.func (.func 145) #[] #[],.func (.func 145) #[] #[],.func (.func 146) #[] #[],.func (.func 145) #[] #[],.func (.func 145) #[] #[],.func (.func 145) #[] #[],.func (.func 145) #[] #[],.func (.func 145) #[] #[],.func (.func 147) #[] #[],.func (.func 148) #[] #[],.func (.func 147) #[] #[],.func (.func 149) #[] #[],.func (.func 150) #[] #[]]:=by simp [ruleTable,ruleCell,ruleFn,List.range_succ]
theorem right_rule (F:FuncId) (k:Nat) (hk:k<14) (hF:ruleTable[k]? = some (.func (.func F) #[] #[])) (hn:Enters Tryz.prog F) (a:Option Addr) (n c:Nat) (x t':Ty) (hkx:x.kind=k) (hkt:t'.kind=k) (r:Bool)
  (pa:Option Addr) (pl pc:Nat) (ma:Option Addr) (ml mc:Nat) (oa:Option Addr) (ol oc:Nat) (pa':Option Addr) (pl' pc':Nat) (ma':Option Addr) (ml' mc':Nat) (oa':Option Addr) (ol' oc':Nat) (w:World)
  (hl:(pl':Int)+ml'+ol'<=9223372036854775807)
  (hcall:∀ W,Below (w.alloc (.cells #[.slice a n c] 118)).heap.size (w.alloc (.cells #[.slice a n c] 118)) W->Box W (w.heap.size+1) x (.slice pa pl pc) (.slice ma ml mc) (.slice oa ol oc) ->
   Calls Tryz.prog F #[.agg #[.slice a n c],.pointer (some ⟨w.heap.size+1,0,none⟩)] W (RulePost (w.alloc (.cells #[.slice a n c] 118)) W (w.heap.size+1) r t' (.slice pa' pl' pc') (.slice ma' ml' mc') (.slice oa' ol' oc'))) :
  Calls Tryz.prog 74 #[.agg #[.slice a n c],.agg (tyCells x (.slice pa pl pc) (.slice ma ml mc) (.slice oa ol oc)).toArray] w fun e w'=>e=.returned (.bool (r&&restB t' pl' ml' ol'))/\Ext w w':=by
 have hx0:Box ((w.alloc (.cells #[.slice a n c] 118)).alloc (.cells (tyCells x (.slice pa pl pc) (.slice ma ml mc) (.slice oa ol oc)).toArray 50)) (w.heap.size+1) x (.slice pa pl pc) (.slice ma ml mc) (.slice oa ol oc):=by
  have:=Box.new (w.alloc (.cells #[.slice a n c] 118)) x (.slice pa pl pc) (.slice ma ml mc) (.slice oa ol oc)
  simpa using this
 have hbx:=(Ext.alloc (w.alloc (.cells #[.slice a n c] 118)) (.cells (tyCells x (.slice pa pl pc) (.slice ma ml mc) (.slice oa ol oc)).toArray 50)).cell (cell_new1 w (.slice a n c) 118);have HE0:=dh (Ext.alloc (w.alloc (.cells #[.slice a n c] 118)) (.cells (tyCells x (.slice pa pl pc) (.slice ma ml mc) (.slice oa ol oc)).toArray 50));have Hkx:=dh hkx; clear hkx;have Hkt:=dh hkt; clear hkt;have Hcall:=dh hcall; clear hcall;have Hx0:=dh hx0; clear hx0;have HF:=dh hF; clear hF;unfold tyCells at *
 go_enter Tryz.func74,Tryz.ntmps74
 go_upto_region 1 with (fail);obtain ⟨W,hW⟩:∃ W:World,W=((w.alloc (.cells #[.slice a n c] 118)).alloc (.cells #[.int .u8 x.kind,.int .i64 x.low,.int .i64 x.high,.bool x.branded,.string x.brand,.string x.opq,.int .i64 x.super,.slice pa pl pc,.slice ma ml mc,.slice oa ol oc] 50)):=⟨_,rfl⟩;rw [<- hW] at hbx HE0 Hx0 ⊢;have hsz:W.heap.size=w.heap.size+2:=by rw [hW]; simp
 clear hW;go_wp2_with fail;refine (rules108 _).mono ?_;rintro e w1 ⟨rfl,hE⟩;rw [ruleTable_eq];have hbx1:=hE.cell hbx;have Hx1:=dh (Hx0.out.ext hE);have HE1:=dh (HE0.out.trans hE); clear hE;go_upto_region 2 with (fail);obtain ⟨V,hV⟩:∃ V:World,V=w1.alloc (.cells #[.nilFunc,.func (.func 145) #[] #[],.func (.func 145) #[] #[],.func (.func 146) #[] #[],.func (.func 145) #[] #[],.func (.func 145) #[] #[],.func (.func 145) #[] #[],.func (.func 145) #[] #[],.func (.func 145) #[] #[],.func (.func 147) #[] #[],.func (.func 148) #[] #[],.func (.func 147) #[] #[],.func (.func 149) #[] #[],.func (.func 150) #[] #[]] 156):=⟨_,rfl⟩;rw [<- hV];have hEV:Ext w1 V:=by rw [hV]; exact Ext.alloc _ _
 have htab:V.cell? ⟨w1.heap.size,k,none⟩=some (.func (.func F) #[] #[]):=by rw [hV,<- ruleTable_eq]; exact cell_new w1 ruleTable 156 k _ HF.out
 clear hV HF;have hbx2:=hEV.cell hbx1;have Hx2:=dh (Hx1.out.ext hEV);have c0:=Hx2.out.cell (j:=0) rfl;rw [Hkx.out] at c0;have HE2:=dh (HE1.out.trans hEV); clear hEV;have hwsz:w.heap.size<V.heap.size:=cell_lt hbx2;have hwr:IntKind.i64.wrap (k:Int)=k:=by rw [IntKind.wrap_i64]; omega
 have hk':(k:Int)<14:=by omega
 have hge:decide (14<=(k:Int))=false:=decide_eq_false (by omega);refine wp_region_M 99 (w.heap.size+1) (by kernel_rfl) ?_;change wpM _ _ _ _ _ _ _ _ _ (World.drew _);refine wpM_keep (i:=0) rfl (by kernel_rfl) (by kernel_rfl) (fun K hK=>?_);go_simp;refine hK _ _ (grownBy_refl _ _) ?_; clear hK K;try (simp only [Act.put,nm])
 refine wpM_keep (i:=1) rfl (by kernel_rfl) (by kernel_rfl) (fun K hK=>?_);go_simp;refine hK _ _ (grownBy_refl _ _) ?_; clear hK K;try (simp only [Act.put,nm])
 refine wpM_keep (i:=2) rfl (by kernel_rfl) (by kernel_rfl) (fun K hK=>?_);go_simp;refine hK _ _ (grownBy_refl _ _) ?_; clear hK K;try (simp only [Act.put,nm])
 refine wpM_keep (i:=3) rfl (by kernel_rfl) (by kernel_rfl) (fun K hK=>?_);go_simp;refine hK _ _ (grownBy_refl _ _) ?_; clear hK K;try (simp only [Act.put,nm])
 refine wpM_keep (i:=4) rfl (by kernel_rfl) (by kernel_rfl) (fun K hK=>?_);go_simp;refine hK _ _ (grownBy_refl _ _) ?_; clear hK K;try (simp only [Act.put,nm])
 refine wpM_keep (i:=5) rfl (by kernel_rfl) (by kernel_rfl) (fun K hK=>?_);go_simp;refine hK _ _ (grownBy_refl _ _) ?_; clear hK K;try (simp only [Act.put,nm])
 refine wpM_keep (i:=6) rfl (by kernel_rfl) (by kernel_rfl) (fun K hK=>?_);go_simp;refine hK _ _ (grownBy_refl _ _) ?_; clear hK K;try (simp only [Act.put,nm])
 refine wpM_keep (i:=7) rfl (by kernel_rfl) (by kernel_rfl) (fun K hK=>?_);go_simp;refine hK _ _ (grownBy_refl _ _) ?_; clear hK K;try (simp only [Act.put,nm])
 refine wpM_keep (i:=8) rfl (by kernel_rfl) (by kernel_rfl) (fun K hK=>?_);go_simp;refine hK _ _ (grownBy_refl _ _) ?_; clear hK K;try (simp only [Act.put,nm])
 refine wpM_keep (i:=9) rfl (by kernel_rfl) (by kernel_rfl) (fun K hK=>?_);go_simp;refine hK _ _ (grownBy_refl _ _) ?_; clear hK K;try (simp only [Act.put,nm])
 refine wpM_keep (i:=10) rfl (by kernel_rfl) (by kernel_rfl) (fun K hK=>?_);go_simp;refine hK _ _ (grownBy_refl _ _) ?_; clear hK K;try (simp only [Act.put,nm])
 refine wpM_keep (i:=11) rfl (by kernel_rfl) (by kernel_rfl) (fun K hK=>?_);go_simp;refine hK _ _ (grownBy_refl _ _) ?_; clear hK K;try (simp only [Act.put,nm])
 refine wpM_take (i:=16) (v:=?_) rfl (by kernel_rfl) (by kernel_rfl) (by kernel_rfl) (fun _ _ _ h=>h) (Or.inl ⟨by kernel_rfl,fun w9 hE=>?_⟩) ?_;rotate_left
 ·have hbx2E:=hE.cell hbx2 (by first | (simp; done) | (simp; omega)); clear hE; first | (go_simp; done) | (go_simp; with_reducible rfl)
 simp only [Act.put,nm];refine wpM_keep (i:=12) rfl (by kernel_rfl) (by kernel_rfl) (fun K hK=>?_);go_simp;refine hK _ _ (grownBy_refl _ _) ?_; clear hK K;try (simp only [Act.put,nm])
 refine wpM_keep (i:=13) rfl (by kernel_rfl) (by kernel_rfl) (fun K hK=>?_);go_simp;refine hK _ _ (grownBy_refl _ _) ?_; clear hK K;try (simp only [Act.put,nm])
 refine wpM_keep (i:=14) rfl (by kernel_rfl) (by kernel_rfl) (fun K hK=>?_);go_simp;refine hK _ _ (grownBy_refl _ _) ?_; clear hK K;try (simp only [Act.put,nm])
 refine wpM_keep (i:=15) rfl (by kernel_rfl) (by kernel_rfl) (fun K hK=>?_);go_simp;refine hK _ _ (grownBy_refl _ _) ?_; clear hK K;try (simp only [Act.put,nm])
 have hEn:∀ (args:Array Value) (w:World),(callFunc F args).run Tryz.prog w=.ok (.enter F args) w:=hn;refine wpM_only (i:=17) rfl (by kernel_rfl) (by kernel_rfl) (fun K hK=>?_);go_simp;refine (Hcall.out _ (HE2.out.trans (Ext.drew _)) Hx2.out).mono ?_;rintro e w2 ⟨rfl,hB3,hx3,hG3⟩;have HE3:=dh (show Ext w w2 from (Ext.alloc w (.cells #[.slice a n c] 118)).trans (by show Below _ _ _; simpa using hB3));have d0:=hx3.cell (j:=0) rfl;have d1:=hx3.cell (j:=1) rfl;have d2:=hx3.cell (j:=2) rfl;have d3:=hx3.cell (j:=3) rfl;have d4:=hx3.cell (j:=4) rfl;have d5:=hx3.cell (j:=5) rfl;have d6:=hx3.cell (j:=6) rfl;have d7:=hx3.cell (j:=7) rfl;have d8:=hx3.cell (j:=8) rfl;have d9:=hx3.cell (j:=9) rfl;rw [Hkt.out] at d0;have hl3:=hx3.lt;clear hB3 hx3 hbx hbx1 hbx2 htab c0;have HW:=dh hwsz; clear hwsz hsz;refine hK _ _ hG3 ?_; clear hK K hG3;cases r
 ·
  refine Zg 18 ?_;refine Zg 19 ?_;refine Zd ?_;go_wp2_with fail;go_ret;exact ⟨rfl,HE3.out⟩
 ·
  refine Zg 18 ?_;refine Zg 19 ?_;refine Zd ?_;go_wp2_with fail;refine (plainOf109 { t' with kind:=k } (.slice pa' pl' pc') (.slice ma' ml' mc') (.slice oa' ol' oc') _).mono ?_;rintro e w4 ⟨rfl,hE⟩;have e0:=hE.cell d0;have e6:=hE.cell d6;have e7:=hE.cell d7;have e8:=hE.cell d8;have e9:=hE.cell d9;clear d0 d1 d2 d3 d4 d5 d6 d7 d8 d9;have hl4:w.heap.size+1<w4.heap.size:=cell_lt e0;have HE4:=dh (HE3.out.trans hE); clear hE HE3;go_upto_region 6 with (fail);clear Hcall hwr hge hEn hk' HW hl3;go_wp2_with fail
  all_goals go_ret
  all_goals refine ⟨ret_bool ?_,HE4.out.trans (Ext.alloc _ _)⟩
  all_goals clear e0 e6 e7 e8 e9 hl4 HE4 HE2 Hx2 HE1 Hx1 HE0 Hx0 hk hn Hkx Hkt
  all_goals simp only [Bool.true_and,restB,size0]
  all_goals simp_all
  apply Bool.eq_iff_iff.2;simp;omega
theorem right_zero (a:Option Addr) (n c:Nat) (x:Ty) (hkx:x.kind=0) (pa:Option Addr) (pl pc:Nat) (ma:Option Addr) (ml mc:Nat) (oa:Option Addr) (ol oc:Nat) (w:World) :
  Calls Tryz.prog 74 #[.agg #[.slice a n c],.agg (tyCells x (.slice pa pl pc) (.slice ma ml mc) (.slice oa ol oc)).toArray] w fun e w'=>e=.returned (.bool false)/\Ext w w':=by
 unfold tyCells;rw [hkx];clear hkx;have hq:∀ w,(binOp .eql 155 .nilFunc .nilFunc).run Tryz.prog w=.ok (.bool true) w:=fun _=>by kernel_rfl
 have hw0:IntKind.i64.wrap 0=0:=by kernel_rfl
 have hd0:decide (14<=(0:Int))=false:=rfl
 go_enter Tryz.func74,Tryz.ntmps74
 go_wp2_with fail;refine (rules108 _).mono ?_;rintro e w1 ⟨rfl,hE⟩;rw [ruleTable_eq];have c0:=hE.cell (cell_new (w.alloc (.cells #[.slice a n c] 118)) #[.int .u8 0,.int .i64 x.low,.int .i64 x.high,.bool x.branded,.string x.brand,.string x.opq,.int .i64 x.super,.slice pa pl pc,.slice ma ml mc,.slice oa ol oc] 50 0 _ rfl);have c1:=hE.cell ((Ext.alloc (w.alloc (.cells #[.slice a n c] 118)) (.cells #[.int .u8 0,.int .i64 x.low,.int .i64 x.high,.bool x.branded,.string x.brand,.string x.opq,.int .i64 x.super,.slice pa pl pc,.slice ma ml mc,.slice oa ol oc] 50)).cell (cell_new1 w (.slice a n c) 118));rw [show (w.alloc (.cells #[.slice a n c] 118)).heap.size=w.heap.size+1 by simp] at c0;have hlt:w.heap.size+1<w1.heap.size:=cell_lt c0;have HE:=dh (((Ext.alloc _ _).trans (Ext.alloc _ _)).trans hE); clear hE;go_upto_region 2 with (fail);obtain ⟨V,hV⟩:∃ V:World,V=w1.alloc (.cells #[.nilFunc,.func (.func 145) #[] #[],.func (.func 145) #[] #[],.func (.func 146) #[] #[],.func (.func 145) #[] #[],.func (.func 145) #[] #[],.func (.func 145) #[] #[],.func (.func 145) #[] #[],.func (.func 145) #[] #[],.func (.func 147) #[] #[],.func (.func 148) #[] #[],.func (.func 147) #[] #[],.func (.func 149) #[] #[],.func (.func 150) #[] #[]] 156):=⟨_,rfl⟩;rw [<- hV];have hEV:Ext w1 V:=by rw [hV]; exact Ext.alloc _ _
 have htab:V.cell? ⟨w1.heap.size,0,none⟩=some .nilFunc:=by rw [hV]; exact cell_new w1 _ 156 0 _ rfl
 clear hV;have d0:=hEV.cell c0;have HE2:=dh (HE.out.trans hEV); clear hEV HE c0;refine Zr 99 ?_;change wpE _ _ _ _ _ _ _ _ (World.drew _);refine Zg 0 ?_;refine Zc 1 d0 ?_;refine Zg 2 ?_;refine Zg 3 ?_;refine Zg 4 ?_;refine Zg 5 ?_;refine Zc 6 d0 ?_;refine Zg 7 ?_;refine Zc 8 htab ?_;refine Zg 9 ?_;refine Zg 10 ?_;refine Zg 11 ?_;refine Zs 12 ?_;refine Zs 13 ?_;refine Zs 14 ?_;refine Zs 15 ?_;refine Zs 16 ?_;refine Zs 17 ?_;refine Zs 18 ?_;refine Zg 19 ?_;refine Zd ?_;go_wp2_with fail;go_ret;exact ⟨rfl,HE2.out.trans (Ext.drew _)⟩
theorem right_big (a:Option Addr) (n c:Nat) (x:Ty) (h14:14<=x.kind) (h255:x.kind<=255) (pa:Option Addr) (pl pc:Nat) (ma:Option Addr) (ml mc:Nat) (oa:Option Addr) (ol oc:Nat) (w:World) :
  Calls Tryz.prog 74 #[.agg #[.slice a n c],.agg (tyCells x (.slice pa pl pc) (.slice ma ml mc) (.slice oa ol oc)).toArray] w fun e w'=>e=.returned (.bool false)/\Ext w w':=by
 unfold tyCells;have hwr:IntKind.i64.wrap x.kind=x.kind:=by rw [IntKind.wrap_i64]; omega
 go_enter Tryz.func74,Tryz.ntmps74
 go_wp2_with fail;refine (rules108 _).mono ?_;rintro e w1 ⟨rfl,hE⟩;rw [ruleTable_eq];have c0:=hE.cell (cell_new (w.alloc (.cells #[.slice a n c] 118)) #[.int .u8 x.kind,.int .i64 x.low,.int .i64 x.high,.bool x.branded,.string x.brand,.string x.opq,.int .i64 x.super,.slice pa pl pc,.slice ma ml mc,.slice oa ol oc] 50 0 _ rfl);rw [show (w.alloc (.cells #[.slice a n c] 118)).heap.size=w.heap.size+1 by simp] at c0;have hlt:w.heap.size+1<w1.heap.size:=cell_lt c0;have HE:=dh (((Ext.alloc _ _).trans (Ext.alloc _ _)).trans hE); clear hE;go_upto_region 2 with (fail);obtain ⟨V,hV⟩:∃ V:World,V=w1.alloc (.cells #[.nilFunc,.func (.func 145) #[] #[],.func (.func 145) #[] #[],.func (.func 146) #[] #[],.func (.func 145) #[] #[],.func (.func 145) #[] #[],.func (.func 145) #[] #[],.func (.func 145) #[] #[],.func (.func 145) #[] #[],.func (.func 147) #[] #[],.func (.func 148) #[] #[],.func (.func 147) #[] #[],.func (.func 149) #[] #[],.func (.func 150) #[] #[]] 156):=⟨_,rfl⟩;rw [<- hV];have hEV:Ext w1 V:=by rw [hV]; exact Ext.alloc _ _
 clear hV;have d0:=hEV.cell c0;have HE2:=dh (HE.out.trans hEV); clear hEV HE c0;refine Zr 99 ?_;change wpE _ _ _ _ _ _ _ _ (World.drew _);refine Zg 0 ?_;refine Zc 1 d0 ?_;refine Zg 2 ?_;refine Zg 3 ?_;refine Zg 4 ?_;refine Zs 5 ?_;refine Zs 6 ?_;refine Zs 7 ?_;refine Zs 8 ?_;refine Zs 9 ?_;refine Zg 10 ?_;refine Zg 11 ?_;refine Zs 12 ?_;refine Zs 13 ?_;refine Zs 14 ?_;refine Zs 15 ?_;refine Zs 16 ?_;refine Zs 17 ?_;refine Zs 18 ?_;refine Zg 19 ?_;refine Zd ?_;go_wp2_with fail;go_ret;exact ⟨rfl,HE2.out.trans (Ext.drew _)⟩
theorem enters145:Enters Tryz.prog 145:=enters_of Tryz.func145 (by kernel_rfl) rfl
theorem enters146:Enters Tryz.prog 146:=enters_of Tryz.func146 (by kernel_rfl) rfl
theorem enters147:Enters Tryz.prog 147:=enters_of Tryz.func147 (by kernel_rfl) rfl
theorem enters148:Enters Tryz.prog 148:=enters_of Tryz.func148 (by kernel_rfl) rfl
theorem enters149:Enters Tryz.prog 149:=enters_of Tryz.func149 (by kernel_rfl) rfl
theorem enters150:Enters Tryz.prog 150:=enters_of Tryz.func150 (by kernel_rfl) rfl
theorem right74 (a:Option Addr) (n c:Nat) (g:List Ty) (x:Ty) (pa:Option Addr) (pl pc:Nat) (ma:Option Addr) (ml mc:Nat) (oa:Option Addr) (ol oc:Nat) (w:World)
  (hg:Graph w (.slice a n c) g) (hp:Parts w (.slice pa pl pc) x.parts) (hm:Meths w (.slice ma ml mc) x.methods) (ho:Overs w (.slice oa ol oc) x.overs) (ok:TyOk x) :
  Calls Tryz.prog 74 #[.agg #[.slice a n c],.agg (tyCells x (.slice pa pl pc) (.slice ma ml mc) (.slice oa ol oc)).toArray] w fun e w'=>e=.returned (.bool (rightB g x))/\Ext w w':=by
 have hpb:=(SlW.bound hp).2;have hmb:=(SlW.bound hm).2;have hob:=(SlW.bound ho).2;have hpl:=SlW.len hp;have hml:=SlW.len hm;have hol:=SlW.len ho;have hk0:=ok.k0;have hk1:=ok.k1;have hs:w.heap.size+1=(w.alloc (.cells #[.slice a n c] 118)).heap.size:=by simp
 have hg0:=Graph.mono (Ext.alloc w (.cells #[.slice a n c] 118)) hg;have hp0:=Parts.mono (Ext.alloc w (.cells #[.slice a n c] 118)) hp;have hm0:=Meths.mono (Ext.alloc w (.cells #[.slice a n c] 118)) hm;have ho0:=Overs.mono (Ext.alloc w (.cells #[.slice a n c] 118)) ho;have hopq:=ok.o;rcases (show x.kind=0\/x.kind=1\/x.kind=2\/x.kind=3\/x.kind=4\/x.kind=5\/x.kind=6\/x.kind=7\/x.kind=8\/x.kind=9\/x.kind=10\/x.kind=11\/x.kind=12\/x.kind=13\/14<=x.kind by omega) with hk | hk | hk | hk | hk | hk | hk | hk | hk | hk | hk | hk | hk | hk | hk
 ·refine (right_zero a n c x hk pa pl pc ma ml mc oa ol oc w).mono ?_;rintro e w' ⟨rfl,hE⟩;exact ⟨ret_bool (by simp [rightB,hk]),hE⟩
 ·-- 1
  have:=right_rule 145 1 (by decide) (by rw [ruleTable_eq]; rfl) enters145 a n c x x hk hk true pa pl pc ma ml mc oa ol oc pa pl pc ma ml mc oa ol oc w (by omega) (fun W hB hx=>nothing145 (w.alloc (.cells #[.slice a n c] 118)) W a n c x _ _ _ _ (by rw [hs]; exact hB) hx);refine this.mono ?_;rintro e w' ⟨rfl,hE⟩;refine ⟨ret_bool ?_,hE⟩;simp only [rightB,restB,hk];simp only [clearNums,clearParts,clearObj,clearOpq,clearBrand,noNums,noBrand,noOpq,noSuper,noParts,noRows,hpl,hml,hol];apply Bool.eq_iff_iff.2;simp;try (simp only [show (⟨#[]⟩:ByteArray)=ByteArray.empty from rfl])
  try grind
 ·-- 2
  have:=right_rule 145 2 (by decide) (by rw [ruleTable_eq]; rfl) enters145 a n c x x hk hk true pa pl pc ma ml mc oa ol oc pa pl pc ma ml mc oa ol oc w (by omega) (fun W hB hx=>nothing145 (w.alloc (.cells #[.slice a n c] 118)) W a n c x _ _ _ _ (by rw [hs]; exact hB) hx);refine this.mono ?_;rintro e w' ⟨rfl,hE⟩;refine ⟨ret_bool ?_,hE⟩;simp only [rightB,restB,hk];simp only [clearNums,clearParts,clearObj,clearOpq,clearBrand,noNums,noBrand,noOpq,noSuper,noParts,noRows,hpl,hml,hol];apply Bool.eq_iff_iff.2;simp;try (simp only [show (⟨#[]⟩:ByteArray)=ByteArray.empty from rfl])
  try grind
 ·-- 3
  have:=right_rule 146 3 (by decide) (by rw [ruleTable_eq]; rfl) enters146 a n c x (clearNums x) hk hk (rangedB x) pa pl pc ma ml mc oa ol oc pa pl pc ma ml mc oa ol oc w (by omega) (fun W hB hx=>ranged146 (w.alloc (.cells #[.slice a n c] 118)) W a n c x _ _ _ _ (by rw [hs]; exact hB) hx);refine this.mono ?_;rintro e w' ⟨rfl,hE⟩;refine ⟨ret_bool ?_,hE⟩;simp only [rightB,restB,hk];simp only [clearNums,clearParts,clearObj,clearOpq,clearBrand,noNums,noBrand,noOpq,noSuper,noParts,noRows,hpl,hml,hol];apply Bool.eq_iff_iff.2;simp;try (simp only [show (⟨#[]⟩:ByteArray)=ByteArray.empty from rfl])
  try grind
 ·-- 4
  have:=right_rule 145 4 (by decide) (by rw [ruleTable_eq]; rfl) enters145 a n c x x hk hk true pa pl pc ma ml mc oa ol oc pa pl pc ma ml mc oa ol oc w (by omega) (fun W hB hx=>nothing145 (w.alloc (.cells #[.slice a n c] 118)) W a n c x _ _ _ _ (by rw [hs]; exact hB) hx);refine this.mono ?_;rintro e w' ⟨rfl,hE⟩;refine ⟨ret_bool ?_,hE⟩;simp only [rightB,restB,hk];simp only [clearNums,clearParts,clearObj,clearOpq,clearBrand,noNums,noBrand,noOpq,noSuper,noParts,noRows,hpl,hml,hol];apply Bool.eq_iff_iff.2;simp;try (simp only [show (⟨#[]⟩:ByteArray)=ByteArray.empty from rfl])
  try grind
 ·-- 5
  have:=right_rule 145 5 (by decide) (by rw [ruleTable_eq]; rfl) enters145 a n c x x hk hk true pa pl pc ma ml mc oa ol oc pa pl pc ma ml mc oa ol oc w (by omega) (fun W hB hx=>nothing145 (w.alloc (.cells #[.slice a n c] 118)) W a n c x _ _ _ _ (by rw [hs]; exact hB) hx);refine this.mono ?_;rintro e w' ⟨rfl,hE⟩;refine ⟨ret_bool ?_,hE⟩;simp only [rightB,restB,hk];simp only [clearNums,clearParts,clearObj,clearOpq,clearBrand,noNums,noBrand,noOpq,noSuper,noParts,noRows,hpl,hml,hol];apply Bool.eq_iff_iff.2;simp;try (simp only [show (⟨#[]⟩:ByteArray)=ByteArray.empty from rfl])
  try grind
 ·-- 6
  have:=right_rule 145 6 (by decide) (by rw [ruleTable_eq]; rfl) enters145 a n c x x hk hk true pa pl pc ma ml mc oa ol oc pa pl pc ma ml mc oa ol oc w (by omega) (fun W hB hx=>nothing145 (w.alloc (.cells #[.slice a n c] 118)) W a n c x _ _ _ _ (by rw [hs]; exact hB) hx);refine this.mono ?_;rintro e w' ⟨rfl,hE⟩;refine ⟨ret_bool ?_,hE⟩;simp only [rightB,restB,hk];simp only [clearNums,clearParts,clearObj,clearOpq,clearBrand,noNums,noBrand,noOpq,noSuper,noParts,noRows,hpl,hml,hol];apply Bool.eq_iff_iff.2;simp;try (simp only [show (⟨#[]⟩:ByteArray)=ByteArray.empty from rfl])
  try grind
 ·-- 7
  have:=right_rule 145 7 (by decide) (by rw [ruleTable_eq]; rfl) enters145 a n c x x hk hk true pa pl pc ma ml mc oa ol oc pa pl pc ma ml mc oa ol oc w (by omega) (fun W hB hx=>nothing145 (w.alloc (.cells #[.slice a n c] 118)) W a n c x _ _ _ _ (by rw [hs]; exact hB) hx);refine this.mono ?_;rintro e w' ⟨rfl,hE⟩;refine ⟨ret_bool ?_,hE⟩;simp only [rightB,restB,hk];simp only [clearNums,clearParts,clearObj,clearOpq,clearBrand,noNums,noBrand,noOpq,noSuper,noParts,noRows,hpl,hml,hol];apply Bool.eq_iff_iff.2;simp;try (simp only [show (⟨#[]⟩:ByteArray)=ByteArray.empty from rfl])
  try grind
 ·-- 8
  have:=right_rule 145 8 (by decide) (by rw [ruleTable_eq]; rfl) enters145 a n c x x hk hk true pa pl pc ma ml mc oa ol oc pa pl pc ma ml mc oa ol oc w (by omega) (fun W hB hx=>nothing145 (w.alloc (.cells #[.slice a n c] 118)) W a n c x _ _ _ _ (by rw [hs]; exact hB) hx);refine this.mono ?_;rintro e w' ⟨rfl,hE⟩;refine ⟨ret_bool ?_,hE⟩;simp only [rightB,restB,hk];simp only [clearNums,clearParts,clearObj,clearOpq,clearBrand,noNums,noBrand,noOpq,noSuper,noParts,noRows,hpl,hml,hol];apply Bool.eq_iff_iff.2;simp;try (simp only [show (⟨#[]⟩:ByteArray)=ByteArray.empty from rfl])
  try grind
 ·-- 9
  have:=right_rule 147 9 (by decide) (by rw [ruleTable_eq]; rfl) enters147 a n c x (clearParts x) hk hk (heldB g x) pa pl pc ma ml mc oa ol oc none 0 0 ma ml mc oa ol oc w (by omega) (fun W hB hx=>held147 (w.alloc (.cells #[.slice a n c] 118)) W a n c g x _ pa pl pc _ _ hs (by rw [hs]; exact hB) hg0 hp0 hx);refine this.mono ?_;rintro e w' ⟨rfl,hE⟩;refine ⟨ret_bool ?_,hE⟩;simp only [rightB,restB,hk];simp only [clearNums,clearParts,clearObj,clearOpq,clearBrand,noNums,noBrand,noOpq,noSuper,noParts,noRows,hpl,hml,hol];apply Bool.eq_iff_iff.2;simp;try (simp only [show (⟨#[]⟩:ByteArray)=ByteArray.empty from rfl])
  try grind
 ·-- 10
  have:=right_rule 148 10 (by decide) (by rw [ruleTable_eq]; rfl) enters148 a n c x (clearParts x) hk hk (recordedB g x) pa pl pc ma ml mc oa ol oc none 0 0 ma ml mc oa ol oc w (by omega) (fun W hB hx=>recorded148 (w.alloc (.cells #[.slice a n c] 118)) W a n c g x _ pa pl pc _ _ hs (by rw [hs]; exact hB) hg0 hp0 hx);refine this.mono ?_;rintro e w' ⟨rfl,hE⟩;refine ⟨ret_bool ?_,hE⟩;simp only [rightB,restB,hk];simp only [clearNums,clearParts,clearObj,clearOpq,clearBrand,noNums,noBrand,noOpq,noSuper,noParts,noRows,hpl,hml,hol];apply Bool.eq_iff_iff.2;simp;try (simp only [show (⟨#[]⟩:ByteArray)=ByteArray.empty from rfl])
  try grind
 ·-- 11
  have:=right_rule 147 11 (by decide) (by rw [ruleTable_eq]; rfl) enters147 a n c x (clearParts x) hk hk (heldB g x) pa pl pc ma ml mc oa ol oc none 0 0 ma ml mc oa ol oc w (by omega) (fun W hB hx=>held147 (w.alloc (.cells #[.slice a n c] 118)) W a n c g x _ pa pl pc _ _ hs (by rw [hs]; exact hB) hg0 hp0 hx);refine this.mono ?_;rintro e w' ⟨rfl,hE⟩;refine ⟨ret_bool ?_,hE⟩;simp only [rightB,restB,hk];simp only [clearNums,clearParts,clearObj,clearOpq,clearBrand,noNums,noBrand,noOpq,noSuper,noParts,noRows,hpl,hml,hol];apply Bool.eq_iff_iff.2;simp;try (simp only [show (⟨#[]⟩:ByteArray)=ByteArray.empty from rfl])
  try grind
 ·-- 12
  have:=right_rule 149 12 (by decide) (by rw [ruleTable_eq]; rfl) enters149 a n c x (clearObj x) hk hk (objectsB g x) pa pl pc ma ml mc oa ol oc none 0 0 none 0 0 none 0 0 w (by omega) (fun W hB hx=>objects149 (w.alloc (.cells #[.slice a n c] 118)) W a n c g x _ pa pl pc ma ml mc oa ol oc hs (by rw [hs]; exact hB) hg0 hp0 hm0 ho0 hx);refine this.mono ?_;rintro e w' ⟨rfl,hE⟩;refine ⟨ret_bool ?_,hE⟩;simp only [rightB,restB,hk];simp only [clearNums,clearParts,clearObj,clearOpq,clearBrand,noNums,noBrand,noOpq,noSuper,noParts,noRows,hpl,hml,hol];apply Bool.eq_iff_iff.2;simp;try (simp only [show (⟨#[]⟩:ByteArray)=ByteArray.empty from rfl])
  try grind
 ·-- 13
  have:=right_rule 150 13 (by decide) (by rw [ruleTable_eq]; rfl) enters150 a n c x (clearOpq x) hk hk (opqB g x) pa pl pc ma ml mc oa ol oc pa pl pc ma ml mc oa ol oc w (by omega) (fun W hB hx=>opq150 (w.alloc (.cells #[.slice a n c] 118)) W a n c g x _ _ _ _ hs (by rw [hs]; exact hB) hg0 hopq hx);refine this.mono ?_;rintro e w' ⟨rfl,hE⟩;refine ⟨ret_bool ?_,hE⟩;simp only [rightB,restB,hk];simp only [clearNums,clearParts,clearObj,clearOpq,clearBrand,noNums,noBrand,noOpq,noSuper,noParts,noRows,hpl,hml,hol];apply Bool.eq_iff_iff.2;simp;try (simp only [show (⟨#[]⟩:ByteArray)=ByteArray.empty from rfl])
  try grind
 ·refine (right_big a n c x hk ok.k1 pa pl pc ma ml mc oa ol oc w).mono ?_;rintro e w' ⟨rfl,hE⟩;refine ⟨ret_bool ?_,hE⟩;unfold rightB;rw [if_neg (by omega),if_neg (by omega),if_neg (by omega),if_neg (by omega),if_neg (by omega),if_neg (by omega)]
end
section
open Go.RowKit Go.Proofs
theorem hasSuper75 (k:Int) (w:World):Calls Tryz.prog 75 #[.int .u8 k] w fun e w'=>e=.returned (.bool (hasSuperB k))/\w'=w:=by
 go_enter Tryz.func75,Tryz.ntmps75
 go_wp2
 all_goals go_ret
 all_goals refine ⟨ret_bool ?_,rfl⟩
 all_goals simp [hasSuperB, *]
theorem find_some {n k:Nat} {p:Nat->Bool} (hk:k<n) (h1:p k=true) (h:∀ i,i<k->p i=false):(List.range n).find? p=some k:=by
 rw [List.find?_range_eq_some];exact ⟨h1,by simpa using hk,fun j hj=>by simp [h j hj]⟩
theorem find_none {n:Nat} {p:Nat->Bool} (h:∀ i,i<n->p i=false):(List.range n).find? p=none:=by
 rw [List.find?_eq_none];intro x hx;rw [h x (List.mem_range.1 hx)];simp
theorem right_super {g:List Ty} {x:Ty} (h:rightB g x=true) (hs:hasSuperB x.kind=true):0<=x.super/\x.super<g.length:=by
 unfold hasSuperB at hs;simp only [Bool.or_eq_true,beq_iff_eq] at hs;have ho:hasI g.length x.super=true:=by
  unfold rightB at h;rcases hs with hk | hk
  ·simp only [hk] at h;simp [objectsB,objectB,overB] at h
   grind
  ·simp only [hk] at h;simp [opqB,overB] at h
   grind
 unfold hasI at ho;simp at ho;exact ho
theorem check41 (a:Option Addr) (n c:Nat) (g:List Ty) (w:World) (hg:Graph w (.slice a n c) g) :
  Calls Tryz.prog 41 #[.slice a n c] w fun e w'=>e=.returned (.tuple #[.int .i64 (checkB g).1,.int .i64 (checkB g).2])/\Ext w w':=by
 have hb:=(SlW.bound hg).2;obtain rfl:=SlW.len hg;by_cases h4:400<g.length
 ·have hs:=dh (show checkB g=(400,30) by unfold checkB; rw [if_pos h4]);have h4i:(400:Int)<g.length:=by omega
  go_enter Tryz.func41,Tryz.ntmps41
  go_wp2_with fail;go_ret2;exact ⟨by rw [hs.out]; rfl,by (repeat (first | exact Ext.refl _ | (refine Ext.trans ?_ (Hid.out (by assumption))) | (refine Ext.trans ?_ (Ext.alloc _ _)) | (refine Ext.trans ?_ (Ext.drew _)) | (refine below_drewN ?_ _)))⟩
 have hend1:=dh (show ∀ k:Nat,k<g.length->rightB g (nth g k)=false->(∀ i,i<k->rightB g (nth g i)=true)->checkB g=(k,30) from fun k hk h1 h2=>by
  unfold checkB; rw [if_neg h4,find_some hk (by rw [h1]; rfl) (fun i hi=>by rw [h2 i hi]; rfl)])
 have hend2:=dh (show ∀ k:Nat,k<g.length->(∀ i,i<g.length->rightB g (nth g i)=true)->ringB g k g.length k=true->(∀ i,i<k->ringB g i g.length i=false)->checkB g=(k,30) from fun k hk h1 h2 h3=>by
  unfold checkB; rw [if_neg h4,find_none (fun i hi=>by rw [h1 i hi]; rfl)]; dsimp only; rw [find_some (p:=fun i=>ringB g i g.length i) hk h2 h3])
 have hend3:=dh (show (∀ i,i<g.length->rightB g (nth g i)=true)->(∀ i,i<g.length->ringB g i g.length i=false)->checkB g=(0,0) from fun h1 h3=>by
  unfold checkB; rw [if_neg h4,find_none (fun i hi=>by rw [h1 i hi]; rfl)]; dsimp only; rw [find_none (p:=fun i=>ringB g i g.length i) h3])
 have Hg:=dh hg; clear hg
 go_enter Tryz.func41,Tryz.ntmps41
 go_upto_region 5 with (fail);obtain ⟨W,hW⟩:∃ W:World,W=w.alloc (.cells #[.slice a g.length c] 118):=⟨_,rfl⟩;have hE0:Ext w W:=by rw [hW]; exact Ext.alloc _ _
 have hb0:W.cell? ⟨w.heap.size,0,none⟩=some (.slice a g.length c):=by rw [hW]; exact cell_new1 _ _ _
 have Hgw:=dh (Graph.mono hE0 Hg.out);rw [<- hW];clear hW;go_loopw [5,6,16] (fun _ _ i wr=>∃ k:Nat,k<=g.length/\i=.int .i64 k/\Hid (Ext W wr/\∀ j,j<k->rightB g (nth g j)=true)) (fun _ _ i _=>g.length-(intOf i).toNat)
 case atStart=>exact ⟨0,Nat.zero_le _,rfl,Ext.refl _,fun j hj=>absurd hj (Nat.not_lt_zero _)⟩
 case round =>
  obtain ⟨k,hk,rfl,hH⟩:=hrel;obtain ⟨hE,hall⟩:=hH.out;clear hH;by_cases hlt:k<g.length
  ·have hg1:=Graph.mono hE Hgw.out;have hb1:=hE.cell hb0;have hl1:w.heap.size<wr.heap.size:=cell_lt hb1;have HE:=dh hE; clear hE;have Hall:=dh hall; clear hall;obtain ⟨b,off,pa,pl,pc,ma,ml,mc,oa,ol,oc,rfl,hlt2,hT⟩:=Graph.at hg1 hlt;obtain ⟨c0,c1,c2,c3,c4,c5,c6,c7,c8,c9,hps,hms,hos,hok⟩:=hT;clear hb0;go_wp2_with fail;have hE6:Ext wr (wr.alloc (.cells #[.int .u8 (nth g k).kind,.int .i64 (nth g k).low,.int .i64 (nth g k).high,.bool (nth g k).branded,.string (nth g k).brand,.string (nth g k).opq,.int .i64 (nth g k).super,.slice pa pl pc,.slice ma ml mc,.slice oa ol oc] 50)):=Ext.alloc _ _;refine (right74 _ _ c g (nth g k) pa pl pc ma ml mc oa ol oc _ (Graph.mono hE6 hg1) (Parts.mono hE6 hps) (Meths.mono hE6 hms) (Overs.mono hE6 hos) hok).mono ?_;rintro e w2 ⟨rfl,hE⟩;have HE2:=dh (HE.out.trans (hE6.trans hE));clear hE hE6 c0 c1 c2 c3 c4 c5 c6 c7 c8 c9 hps hms hos hg1;cases hr:rightB g (nth g k)
   ·have hh:=dh (hend1.out k hlt hr Hall.out);go_wp2_with fail;go_ret2;exact ⟨by rw [hh.out]; rfl,hE0.trans HE2.out⟩
   ·have hr':=dh hr;clear hr;go_wp2_with fail;go_roundw
    case rel =>
     refine ⟨k+1,by omega,by go_num,HE2.out,fun j hj=>?_⟩;by_cases hjk:j=k
     ·rw [hjk]; exact hr'.out
     ·exact Hall.out j (by omega)
    case measure=>simp [intOf]; omega
  ·have:k=g.length:=by omega
   subst this;have HE:=dh hE; clear hE;have Hall:=dh hall; clear hall;go_upto_region 11 with (fail);have hE0':=dh (hE0.trans HE.out);have Hg2:=dh (Graph.mono HE.out Hgw.out);clear hE0 hb0;go_loopw [7,8,29] (fun _ _ i wx=>∃ k:Nat,k<=g.length/\i=.int .i64 k/\wx=wr/\Hid (∀ j,j<k->ringB g j g.length j=false)) (fun _ _ i _=>g.length-(intOf i).toNat)
   case atStart=>exact ⟨0,Nat.zero_le _,rfl,rfl,fun j hj=>absurd hj (Nat.not_lt_zero _)⟩
   case round =>
    obtain ⟨k,hk,rfl,rfl,Hr⟩:=hrel;by_cases hlt:k<g.length
    ·go_upto_region 15 with (fail);go_loopw [8,35] (fun at_ i wx=>∃ d j:Nat,d<=g.length/\j<g.length/\at_=.int .i64 j/\i=.int .i64 d/\wx=wr/\Hid (ringB g k g.length k=ringB g k (g.length-d) j)) (fun _ i _=>g.length-(intOf i).toNat)
     case atStart=>exact ⟨0,k,Nat.zero_le _,hlt,rfl,rfl,rfl,rfl⟩
     case round =>
      obtain ⟨d,j,hd,hj,rfl,rfl,rfl,Hq⟩:=hrel;by_cases hdl:d<g.length
      ·obtain ⟨b,off,pa,pl,pc,ma,ml,mc,oa,ol,oc,hoff,hlt2,hT⟩:=Graph.at Hg2.out hj;obtain ⟨c0,c1,c2,c3,c4,c5,c6,c7,c8,c9,hps,hms,hos,hok⟩:=hT;have hs0:=hok.s0;have hs1:=hok.s1;clear c1 c2 c3 c4 c5 c7 c8 c9 hps hms hos hok;subst hoff;obtain ⟨m,hm⟩:∃ m,g.length-d=m+1:=⟨g.length-d-1,by omega⟩;cases hhs:hasSuperB (nth g j).kind
       ·have hno:=dh (show ringB g k g.length k=false by rw [Hq.out,hm]; unfold ringB; rw [hhs]; rfl);clear hm;have harm:=dh (fun w=>hasSuper75 (nth g j).kind w);rw [hhs] at harm;clear hhs;go_wp2_with fail;refine (harm.out _).mono ?_;rintro e w2 ⟨rfl,rfl⟩;go_wp2_with fail;go_roundw
        case rel => 
         refine ⟨k+1,by omega,by go_num,trivial,fun j hj=>?_⟩;by_cases hjk:j=k
         ·rw [hjk]; exact hno.out
         ·exact Hr.out j (by omega)
        case measure=>simp [intOf]; omega
       ·obtain ⟨hs2,hs3⟩:=right_super (Hall.out j hj) hhs;obtain ⟨s,hs⟩:∃ s:Nat,(nth g j).super=s:=⟨(nth g j).super.toNat,(Int.toNat_of_nonneg hs2).symm⟩;have hring:=dh (show ringB g k (g.length-d) j=if s=k then true else ringB g k m s by
         rw [hm]; conv=>lhs; unfold ringB
         rw [hhs,hs,Int.toNat_natCast]; rfl)
        rw [hs] at c6;have hsl:s<g.length:=by omega
        clear hs hs0 hs1 hs2 hs3;have harm:=dh (fun w=>hasSuper75 (nth g j).kind w);rw [hhs] at harm;clear hhs;by_cases hsk:s=k
        ·have hyes:=dh (hend2.out k hlt Hall.out (by rw [Hq.out,hring.out,if_pos hsk]) Hr.out);subst hsk;clear hm;go_wp2_with fail;refine (harm.out _).mono ?_;rintro e w2 ⟨rfl,rfl⟩;go_wp2_with fail;go_ret2;exact ⟨by rw [hyes.out]; rfl,hE0'.out⟩
        ·have hno:=dh (show ringB g k g.length k=ringB g k (g.length-(d+1)) s by
          rw [Hq.out,hring.out,if_neg hsk,show g.length-(d+1)=m by omega])
         have hskb:((s:Int)==(k:Int))=false:=by rw [beq_eq_false_iff_ne]; omega
         clear hm hsk;go_wp2_with fail;refine (harm.out _).mono ?_;rintro e w2 ⟨rfl,rfl⟩;go_wp2_with fail;go_roundw
         case rel=>exact ⟨d+1,s,by omega,hsl,rfl,by go_num,trivial,hno⟩
         case measure=>simp [intOf]; omega
      ·have hdn:d=g.length:=by omega
       subst hdn;have hno:=dh (show ringB g k g.length k=false by rw [Hq.out,Nat.sub_self]; rfl);go_wp2_with fail;go_roundw
       case rel => 
        refine ⟨k+1,by omega,by go_num,trivial,fun j hj=>?_⟩;by_cases hjk:j=k
        ·rw [hjk]; exact hno.out
        ·exact Hr.out j (by omega)
       case measure=>simp [intOf]; omega
    ·have:k=g.length:=by omega
     subst this;have hh:=dh (hend3.out Hall.out Hr.out);go_wp2_with fail;go_ret2;exact ⟨by rw [hh.out]; rfl,hE0'.out⟩
end
section
open Go.RowKit Go.Proofs Go.Shelf
attribute [local go_sem] Oper.semAt_some
def Keep (T:TypeId) (W W':World):Prop:=∀ (j:Nat) (cs:Array Value) (p:Nat × Nat),W.heap[j]? = some (Obj.cells cs T p)->W'.heap[j]? = some (Obj.cells cs T p)
theorem Keep.trans {T:TypeId} {A B C:World} (h:Keep T A B) (k:Keep T B C):Keep T A C:=fun j cs p e=>k j cs p (h j cs p e)
theorem Keep.of_grownBy {T:TypeId} {W W':World} {row:Option Nat} (hg:W.grownBy W' row) (hn:∀ j cs p,row=some j->W.heap[j]? ≠ some (Obj.cells cs T p)):Keep T W W' :=
 fun j cs p e=>(hg.block j (Array.getElem?_eq_some_iff.1 e).1 (fun h=>hn j cs p h.symm e)).trans e
theorem Keep.alloc (T:TypeId) (W:World) (o:Obj):Keep T W (W.alloc o):=Keep.of_grownBy (World.grownBy_alloc W o none) (fun _ _ _ h=>by cases h)
theorem Keep.put {T:TypeId} {W:World} {l:Nat} {o:Obj} (o':Obj) (h:W.heap[l]? = some o) (ho:o.isCells=false):Keep T W (W.putObj l o') :=
 Keep.of_grownBy (grownBy_putObj' W l o') (fun j cs p e h'=>by cases e; rw [h] at h'; cases h'; cases ho)
def KeepB (n:Nat) (T:TypeId) (W W':World):Prop:=Below n W W'/\Keep T W W'
theorem keepB_t {n:Nat} {T:TypeId} {A B C:World} (h:KeepB n T A B) (k:KeepB n T B C):KeepB n T A C:=⟨h.1.trans k.1,h.2.trans k.2⟩
theorem keepB_b {n:Nat} {T:TypeId} {w:World} (hn:n<=w.heap.size) (W:World) (l:Nat) (o o':Obj) (hl:w.heap.size<=l) (h:W.heap[l]? = some o) (ho:o.isCells=false) (hw:o.isWalk=false):KeepB n T W (W.putObj l o') :=
 ⟨belowK_b hn W l o o' hl h ho hw,Keep.put o' h ho⟩
theorem ownsRow_typed {W:World} {base:Nat} {e T:TypeId} {size:Nat} {v:Value} {k:Nat} {xs:List Value} (h:W.ownsRow base e size v k xs) (hT:T≠e):∀ j cs p,v.ownBlock=some j->W.heap[j]? ≠ some (Obj.cells cs T p):=by
 intro j cs p hj hh;rcases h.2 with ⟨rfl,_⟩ | ⟨g,cap,cur,rfl,_,hgb,_⟩
 ·simp [Value.ownBlock] at hj
 ·obtain rfl:g=j:=by simpa [Value.ownBlock] using hj
  rw [hgb] at hh;cases hh;exact hT rfl
theorem boxed_keep {W:World} {B:Nat} {t T:TypeId} {v v':Value} (h:Boxed W B t v) (hT:T≠t):Keep T W (W.setCell ⟨B,0,none⟩ v') :=
 Keep.of_grownBy (grownBy_setCell' W B v') (fun j cs p e hh=>by cases e; rw [show W.heap[B]? = _ from h] at hh; cases hh; exact hT rfl)
def YieldsInts (w0:World) (gf:Nat) (lb:Array Value) (xs:List Int) (w:World):Prop :=
 ∀ m,SeqStopsK Fence.wide m Tryz.prog gf lb (fun x:Int=>#[Value.int .i64 x]) (KeepB w0.heap.size 88) (fun ys=>ys=xs) (fun pre=>pre <+: xs) xs.length w
theorem appendSeq164 (gf:Nat) (lb:Array Value) (he:∀ args w,(callFunc gf args).run Tryz.prog w=.ok (.enter gf args) w) (xs:List Int) (hlen:xs.length<=100000) (w0 w:World) (hE0:Ext w0 w) (hseq:YieldsInts w0 gf lb xs w) :
  Calls Tryz.prog 164 #[.slice none 0 0,.func (.func gf) #[] lb] w fun e w'=>∃ v,e=.returned v/\w'.ownsRow w.heap.size 3 1 v xs.length (xs.map (Value.int .i64))/\Ext w w':=by
 refine (callsIn_wide (n:=3)).1 ?_;obtain ⟨i0,hi,hz0,hz1,hz2⟩:=info_parts info3;refine callsIn_of_wp_marks Tryz.func164 rfl trivial ?_ rfl;simp only [Tryz.ntmps164,List.size_toArray,List.length_cons,List.length_nil,Nat.reduceAdd,Nat.reduceSub,Array.replicate_succ,Array.replicate_zero,List.push_toArray,List.append_toArray,List.nil_append,List.cons_append];gi_wp2;have bO:=Boxed.new w 35 (.slice none 0 0);have hB0:Below w.heap.size w (w.alloc (.cells #[.slice none 0 0] 35)):=(Below.refl _ w).alloc (Nat.le_refl _) _;have hsz0:w0.heap.size<=w.heap.size:=hE0.size;have hlen2:xs.length<=maxLen:=Nat.le_trans hlen (by decide);have hbytes:xs.length*8<=140737488355328:=by omega
 refine wpIn_rangeFunc_ownG (F:=Fence.wide) rfl (by omega) (gf:=gf) (lb:=lb) rfl trivial he (hseq _) keepB_t (keepB_b (by simp; omega)) hB0 (fun _=>rfl)
  (fun (pre:List Int) W=>(∃ v,Boxed W w.heap.size 35 v/\W.ownsRow w.heap.size 3 1 v pre.length (pre.map (Value.int .i64))/\True)/\Below w.heap.size w W)
  (fun _ _ _=>False)
  (OwnFrom.and (Own.from (holdsRow_own w.heap.size w.heap.size 35 3 1 (fun (pre:List Int)=>pre.length) (fun (pre:List Int)=>pre.map (Value.int .i64)) (fun _ _=>True)) _) (ownFrom_below (Nat.le_refl _) (by simp)))
  (fun _ _ _ _ _ hs _ _=>hs)
  ⟨⟨_,bO,World.ownsRow_nil _ _ _ _,trivial⟩,hB0⟩
  (fun (x:Int)=>{ tmps:=#[.slice none 0 0,.func (.func gf) #[] lb,.pointer (some ⟨w.heap.size,0,none⟩),undef,.slice none 0 0,.int .i64 x,.func (.func gf) #[] lb,.int .i64 x,undef,undef,undef,undef,undef],defers:=[] }) ?assign ?body ?done ?stop
 case assign =>
  intro l x W K hK;gi_wp2;exact hK
 case body =>
  rintro l pre x W ⟨⟨v,hv,hrow,_⟩,hB⟩ hlt;have hc:=hv.cell;gi_wp2_with (gi_at_builtin; refine wpListIn_append_own _ rfl _ _ 35 rfl w.heap.size 3 i0 (.int .i64 0) 1 8 Tryz.underlying35 hi hz0 hz1 hz2 rfl (by decide) _ _ _ rfl (hrow.alloc _) ⟨W.heap.size,0,none⟩ 1 1 [.int .i64 x] rfl rfl (cell_one_new _ _ _) (by simp [Value.oneCell']) (by omega) (by omega) (by have:=hB.size; simp; omega) ?_; intro v' w1 hown' hgrow _; have HG:=dh hgrow; obtain ⟨g',cap',rfl⟩:=ownsRow_succ hown'; obtain ⟨hv1,hv2,hr2,hk2,hb2⟩:=hv.appended (by decide) hrow hB.size (Nat.le_refl _) hown' hgrow; have hc1:=hv1.cell; have hf1:=hv1.frozen);have hgrow:=HG.out;exact ⟨hk2.from _,⟨hb2.mono hsz0,((Keep.alloc 88 W _).trans (Keep.of_grownBy hgrow (ownsRow_typed (hrow.alloc _) (by decide)))).trans (boxed_keep hv1 (by decide))⟩,⟨_,hv2,by simpa using hr2,trivial⟩,hB.trans hb2⟩
 case done =>
  rintro D ys W hD rfl ⟨⟨v,hv,hrow,_⟩,hB⟩ hK;have hc:=hv.cell;gi_wp2;refine ⟨by simp,.inl ⟨_,_,rfl,run_takeDeferred hK,?_⟩⟩;exact ⟨_,results_tmp rfl _ _ _,v,rfl,ownsRow_putObj hrow _ hK rfl,hB.trans (belowK_b (w:=w) (Nat.le_refl _) W D _ _ (by simp at hD; omega) hK rfl rfl)⟩
 case stop =>
  rintro D c pre W _ _ h _;exact h.elim
end
end Go.Proofs.YtjffkeoajkhbmaaGreat
