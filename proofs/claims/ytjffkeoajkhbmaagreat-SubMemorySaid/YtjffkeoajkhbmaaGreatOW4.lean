/- The rules of types, each of which looks at some fields of a type in a box, and clears them. What types.objects returns and leaves. What types says of a type in itself. -/
import Derived.Laws.EntriesVeiled
import Derived.Test.YtjffkeoajkhbmaaGreatOW3
namespace Go.Proofs.YtjffkeoajkhbmaaGreat
set_option linter.unusedSimpArgs false
set_option linter.unusedVariables false
set_option maxRecDepth 100000
set_option maxHeartbeats 8000000
section
open Go.RowKit Go.Proofs
def Box (w:World) (bx:Nat) (t:Ty) (pv mv ov:Value):Prop:=w.heap[bx]? = some (.cells (tyCells t pv mv ov).toArray 50 (0,0))
theorem Box.cell {w:World} {bx:Nat} {t:Ty} {pv mv ov:Value} (h:Box w bx t pv mv ov) {j:Nat} {v:Value} (hj:(tyCells t pv mv ov)[j]? = some v):w.cell? ⟨bx,j,none⟩=some v:=by
 unfold World.cell?;rw [show w.heap[(⟨bx,j,none⟩:Addr).block]? = some (.cells (tyCells t pv mv ov).toArray 50 (0,0)) from h]
 simpa using hj
theorem Box.free {w:World} {bx:Nat} {t:Ty} {pv mv ov:Value} (h:Box w bx t pv mv ov) (j:Nat):w.frozen? ⟨bx,j,none⟩=false:=by
 unfold World.frozen?;rw [show w.heap[(⟨bx,j,none⟩:Addr).block]? = some (.cells (tyCells t pv mv ov).toArray 50 (0,0)) from h];simp
theorem Box.lt {w:World} {bx:Nat} {t:Ty} {pv mv ov:Value} (h:Box w bx t pv mv ov):bx<w.heap.size:=(Array.getElem?_eq_some_iff.1 h).1
theorem Box.ext {w w':World} {bx:Nat} {t:Ty} {pv mv ov:Value} (h:Box w bx t pv mv ov) (hE:Ext w w'):Box w' bx t pv mv ov:=(hE.block bx h.lt).trans h
theorem Box.new (w:World) (t:Ty) (pv mv ov:Value):Box (w.alloc (.cells (tyCells t pv mv ov).toArray 50)) w.heap.size t pv mv ov:=heap_alloc_new w _
theorem Box.set {w:World} {bx:Nat} {t t':Ty} {pv mv ov pv' mv' ov':Value} (h:Box w bx t pv mv ov) {j:Nat} {v:Value} (ht:(tyCells t pv mv ov).toArray.setIfInBounds j v=(tyCells t' pv' mv' ov').toArray) :
  Box (w.setCell ⟨bx,j,none⟩ v) bx t' pv' mv' ov':=by
 unfold Box World.setCell;simp only [Array.getElem?_modify,if_true];rw [show w.heap[bx]? = some (.cells (tyCells t pv mv ov).toArray 50 (0,0)) from h];simp only [Option.map_some,Option.isSome_none,Bool.false_eq_true,if_false,ht]
def clearBrand (t:Ty):Ty:={ t with branded:=false,brand:=⟨#[]⟩ }
def RulePost (w0 w:World) (bx:Nat) (r:Bool) (t':Ty) (pv mv ov:Value) (e:Ending) (w':World):Prop :=
 e=.returned (.bool r)/\Below bx w0 w'/\Box w' bx t' pv mv ov/\w.grownBy w' (some bx)
theorem branded171 (w0 w:World) (a:Option Addr) (n c:Nat) (g:List Ty) (t:Ty) (bx:Nat) (pa:Option Addr) (pl pc:Nat) (mv ov:Value) (h0:bx=w0.heap.size) (hB:Below bx w0 w)
  (hg:Graph w0 (.slice a n c) g) (hp:Parts w0 (.slice pa pl pc) t.parts) (hx:Box w bx t (.slice pa pl pc) mv ov) :
  Calls Tryz.prog 171 #[.agg #[.slice a n c],.pointer (some ⟨bx,0,none⟩)] w (RulePost w0 w bx (brandedB g t) (clearBrand t) (.slice pa pl pc) mv ov):=by
 have hb:=(SlW.bound hg).2;obtain rfl:=SlW.len hg;subst h0;have hlt:=hx.lt
 go_enter Tryz.func171,Tryz.ntmps171
 go_upto_region 1 with (fail);obtain ⟨W,hW⟩:∃ W:World,W=w.alloc (.cells #[.slice a g.length c] 118):=⟨_,rfl⟩;have hEW:Ext w W:=by rw [hW]; exact by (repeat (first | exact Ext.refl _ | (refine Ext.trans ?_ (Hid.out (by assumption))) | (refine Ext.trans ?_ (Ext.alloc _ _)) | (refine Ext.trans ?_ (Ext.drew _)) | (refine below_drewN ?_ _)))
 have hbx:W.cell? ⟨w.heap.size,0,none⟩=some (.slice a g.length c):=by rw [hW]; simp
 rw [<- hW];clear hW;have hg1:=Graph.mono (w':=w) hB hg;have hp1:=Parts.mono hEW (Parts.mono (w':=w) hB hp);have hx1:=hx.ext hEW;have c3:=hx1.cell (j:=3) rfl;have c4:=hx1.cell (j:=4) rfl;have c7:=hx1.cell (j:=7) rfl;have hlt2:=hx1.lt;go_cut [5] (fun v wx=>v=.bool (brandedB g t)/\Hid (Ext W wx))
 case first =>
  have hsp:brandedB g t=(isBrandB t.brand&&(t.branded||t.brand.size==0)&&!(t.parts.any fun p=>!hasI g.length p.type)):=by
   unfold brandedB; rw [List.not_any_eq_all_not]; simp only [Bool.not_not]
  have Hsp:=dh hsp; clear hsp;have HEW:=dh hEW; clear hEW;have HB:=dh hB; clear hB;have Hx:=dh hx; clear hx;have Hx1:=dh hx1; clear hx1;go_wp2_with fail;refine (isBrand181 _ _).mono ?_;rintro e w1 ⟨rfl,hE⟩;have hp1:=Parts.mono hE hp1;have c3:=hE.cell c3;have c4:=hE.cell c4;have c7:=hE.cell c7;have hbx:=hE.cell hbx;have HE1:=dh hE; clear hE;cases hib:isBrandB t.brand
  ·go_wp2_with fail;go_meet;exact ⟨by rw [Hsp.out,hib]; rfl,HE1⟩
  ·have harm:=dh (contains182_p 183 enters183 #[.pointer (some ⟨w.heap.size,0,none⟩)] _ _ _ _ w1 (fun p=>!hasI g.length p.type) hp1
    (fun k w2 hk hE=>branded183 _ a _ c (by omega) (nth t.parts k) w2 (hE.cell hbx)))
   cases hbr:t.branded
   ·by_cases hem:t.brand.toList=[]
    ·have hem2:t.brand.toList.isEmpty=true:=by rw [hem]; rfl
     have hsz:=dh (size_zero hem);clear hem;go_wp2_with fail;refine harm.out.mono ?_;rintro e w2 ⟨rfl,hE⟩;have HE2:=dh hE; clear hE;go_wp2_with fail;go_meet;exact ⟨by rw [Hsp.out,hib,hbr,hsz.out]; rfl,HE1.out.trans HE2.out⟩
    ·have hem2:t.brand.toList.isEmpty=false:=by rw [List.isEmpty_eq_false_iff]; exact hem
     have hsz:=dh (size_pos hem);clear hem;go_wp2_with fail;go_meet;exact ⟨by rw [Hsp.out,hib,hbr,hsz.out]; rfl,HE1⟩
   ·go_wp2_with fail;refine harm.out.mono ?_;rintro e w2 ⟨rfl,hE⟩;have HE2:=dh hE; clear hE;go_wp2_with fail;go_meet;exact ⟨by rw [Hsp.out,hib,hbr]; rfl,HE1.out.trans HE2.out⟩
 case rest =>
  obtain ⟨rfl,hE⟩:=hcut;have hx2:=hx1.ext hE.out;have d3:=hx2.cell (j:=3) rfl;have d4:=hx2.cell (j:=4) rfl;have f3:=hx2.free 3;have f4:=hx2.free 4;have HB2:=dh (Below.trans hB (Below.mono (Ext.trans hEW hE.out) (Nat.le_of_lt hlt)));have HG2:=dh (grownBy_ext (grownBy_refl w (some w0.heap.size)) (Ext.trans hEW hE.out));clear hB hEW hx hx1 c3 c4 c7;have Hx2:=dh hx2; clear hx2;go_wp2_with fail;go_ret;exact ⟨rfl,Below.setCell (Below.setCell HB2.out (Nat.le_refl _) _) (Nat.le_refl _) _,(Hx2.out.set (t':={ t with branded:=false }) rfl).set rfl,grownBy_set (grownBy_set HG2.out _ _) _ _⟩
def clearNums (t:Ty):Ty:={ t with low:=0,high:=0 }
def clearParts (t:Ty):Ty:={ t with branded:=false,brand:=⟨#[]⟩,parts:=[] }
def clearObj (t:Ty):Ty:={ t with branded:=false,brand:=⟨#[]⟩,parts:=[],methods:=[],overs:=[],super:=0 }
def clearOpq (t:Ty):Ty:={ t with opq:=⟨#[]⟩,super:=0 }
theorem nothing145 (w0 w:World) (a:Option Addr) (n c:Nat) (t:Ty) (bx:Nat) (pv mv ov:Value) (hB:Below bx w0 w) (hx:Box w bx t pv mv ov) :
  Calls Tryz.prog 145 #[.agg #[.slice a n c],.pointer (some ⟨bx,0,none⟩)] w (RulePost w0 w bx true t pv mv ov):=by
 have HB:=dh hB; clear hB;have hlt:=hx.lt;have Hx:=dh hx; clear hx
 go_enter Tryz.func145,Tryz.ntmps145
 go_wp2;go_ret;exact ⟨rfl,HB.out.alloc (Nat.le_of_lt hlt) _,Hx.out.ext (Ext.alloc _ _),World.grownBy_alloc _ _ _⟩
theorem in64 (a b c:Int) (w:World):Calls Tryz.prog 64 #[.int .i64 a,.int .i64 b,.int .i64 c] w fun e w'=>e=.returned (.bool (decide (b<=a)&&decide (a<=c)))/\w'=w:=by
 go_enter Tryz.func64,Tryz.ntmps64
 go_wp2
 all_goals go_ret
 all_goals refine ⟨ret_bool (Bool.eq_iff_iff.2 ?_),rfl⟩
 all_goals simp
 all_goals omega
theorem ranged146 (w0 w:World) (a:Option Addr) (n c:Nat) (t:Ty) (bx:Nat) (pv mv ov:Value) (hB:Below bx w0 w) (hx:Box w bx t pv mv ov) :
  Calls Tryz.prog 146 #[.agg #[.slice a n c],.pointer (some ⟨bx,0,none⟩)] w (RulePost w0 w bx (rangedB t) (clearNums t) pv mv ov):=by
 have hlt:=hx.lt;have c1:=hx.cell (j:=1) rfl;have c2:=hx.cell (j:=2) rfl;have hx1:=hx.ext (Ext.alloc w (.cells #[.slice a n c] 118));have f1:=hx.free 1;have f2:=hx.free 2;have HB:=dh (hB.alloc (Nat.le_of_lt hlt) (.cells #[.slice a n c] 118)); clear hB;have Hx:=dh hx1; clear hx hx1;have hend:=dh (show ∀ r,r=rangedB t->∀ W,Below bx w0 W->Box W bx t pv mv ov->w.grownBy W (some bx)->RulePost w0 w bx (rangedB t) (clearNums t) pv mv ov (.returned (.bool r)) ((W.setCell ⟨bx,1,none⟩ (.int .i64 0)).setCell ⟨bx,2,none⟩ (.int .i64 0)) from
  fun r hr W h1 h2 h3=>⟨by rw [hr],Below.setCell (Below.setCell h1 (Nat.le_refl _) _) (Nat.le_refl _) _,(h2.set (t':={ t with low:=0 }) rfl).set rfl,grownBy_set (grownBy_set h3 _ _) _ _⟩)
 cases hlo:(decide (-1000000000<=t.low)&&decide (t.low<=t.high))
 ·have hr:=dh (show false=rangedB t by unfold rangedB; rw [hlo]; rfl);have hin:=dh (fun w=>in64 t.low (-1000000000) t.high w);rw [hlo] at hin;clear hlo
  go_enter Tryz.func146,Tryz.ntmps146
  go_upto_region 1 with (fail)
  go_quiet ((go_at_call 64; exact Calls.quiet_of_same (hin.out _)))
  go_wp2;go_ret;exact hend.out _ hr.out _ (below_drewN HB.out nq) Hx.out (grownBy_drewN (World.grownBy_alloc _ _ _) nq)
 ·have hr:=dh (show decide (t.high<=1000000000)=rangedB t by unfold rangedB; rw [hlo]; rfl);have hin:=dh (fun w=>in64 t.low (-1000000000) t.high w);rw [hlo] at hin;clear hlo
  go_enter Tryz.func146,Tryz.ntmps146
  go_upto_region 1 with (fail)
  go_quiet ((go_at_call 64; exact Calls.quiet_of_same (hin.out _)))
  go_wp2;go_ret;exact hend.out _ hr.out _ (below_drewN HB.out nq) Hx.out (grownBy_drewN (World.grownBy_alloc _ _ _) nq)
theorem held147 (w0 w:World) (a:Option Addr) (n c:Nat) (g:List Ty) (t:Ty) (bx:Nat) (pa:Option Addr) (pl pc:Nat) (mv ov:Value) (h0:bx=w0.heap.size) (hB:Below bx w0 w)
  (hg:Graph w0 (.slice a n c) g) (hp:Parts w0 (.slice pa pl pc) t.parts) (hx:Box w bx t (.slice pa pl pc) mv ov) :
  Calls Tryz.prog 147 #[.agg #[.slice a n c],.pointer (some ⟨bx,0,none⟩)] w (RulePost w0 w bx (heldB g t) (clearParts t) (.slice none 0 0) mv ov):=by
 have hpb:=(SlW.bound hp).2;obtain rfl:=SlW.len hp;have hlt:=hx.lt;have hbr:=dh (branded171 w0 (w.alloc (.cells #[.slice a n c] 118)) a n c g t bx pa _ pc mv ov h0 (hB.alloc (Nat.le_of_lt hlt) _) hg hp (hx.ext (Ext.alloc _ _)));have hend:=dh (show ∀ r,r=heldB g t->∀ W,Below bx w0 W->Box W bx (clearBrand t) (.slice pa t.parts.length pc) mv ov->w.grownBy W (some bx)->RulePost w0 w bx (heldB g t) (clearParts t) (.slice none 0 0) mv ov (.returned (.bool r)) (W.setCell ⟨bx,7,none⟩ (.slice none 0 0)) from
  fun r hr W h1 h2 h3=>⟨by rw [hr],Below.setCell h1 (Nat.le_refl _) _,h2.set (t':=clearParts t) rfl,grownBy_set h3 _ _⟩)
 have hp0:=fun W (hB:Below bx w0 W)=>Parts.mono (w':=W) (by rw [h0] at hB; exact hB) hp;clear hB hx hg;subst h0;cases hb:brandedB g t
 ·have hr:=dh (show false=heldB g t by unfold heldB; rw [hb]; rfl)
  go_enter Tryz.func147,Tryz.ntmps147
  go_wp2_with fail;refine hbr.out.mono ?_;rintro e w1 ⟨rfl,hB1,hx1,hG1⟩;have HG1:=dh (grownBy_trans (World.grownBy_alloc _ _ _) hG1); clear hG1;rw [hb];have c7:=hx1.cell (j:=7) rfl;have f7:=hx1.free 7;have HB1:=dh hB1; clear hB1;have Hx1:=dh hx1; clear hx1;go_wp2_with fail;go_ret;exact hend.out _ hr.out _ HB1.out Hx1.out HG1.out
 ·go_enter Tryz.func147,Tryz.ntmps147
  go_wp2_with fail;refine hbr.out.mono ?_;rintro e w1 ⟨rfl,hB1,hx1,hG1⟩;have HG1:=dh (grownBy_trans (World.grownBy_alloc _ _ _) hG1); clear hG1;rw [hb];have c7:=hx1.cell (j:=7) rfl;have f7:=hx1.free 7;have hp1:=hp0 w1 hB1;have HB1:=dh hB1; clear hB1;have Hx1:=dh hx1; clear hx1;by_cases h1:t.parts.length=1
  ·have hr:=dh (show (nth t.parts 0).name.toList.isEmpty=heldB g t by
    unfold heldB;rw [hb,empty_iff]
    match t.parts,h1 with
    | [p],_=>rfl)
   obtain ⟨b,off,rfl,hlt2,hc0,_⟩:=Parts.at hp1 (show 0<t.parts.length by omega);simp only [Nat.zero_mul,Nat.add_zero] at hc0;have h1b:((t.parts.length:Int)==1)=true:=by rw [beq_iff_eq]; omega
   have h1c:0<t.parts.length:=by omega
   clear h1 hp0;go_wp2_with fail;go_ret;exact hend.out _ hr.out _ HB1.out Hx1.out HG1.out
  ·have hr:=dh (show false=heldB g t by
    unfold heldB;rw [hb]
    match t.parts,h1 with
    | [],_=>rfl
    | [_],h=>exact absurd rfl h
    | _ :: _ :: _,_=>rfl)
   have h1b:((t.parts.length:Int)==1)=false:=by rw [beq_eq_false_iff_ne]; omega
   clear h1 hp0;go_wp2_with fail;go_ret;exact hend.out _ hr.out _ HB1.out Hx1.out HG1.out
theorem recorded148 (w0 w:World) (a:Option Addr) (n c:Nat) (g:List Ty) (t:Ty) (bx:Nat) (pa:Option Addr) (pl pc:Nat) (mv ov:Value) (h0:bx=w0.heap.size) (hB:Below bx w0 w)
  (hg:Graph w0 (.slice a n c) g) (hp:Parts w0 (.slice pa pl pc) t.parts) (hx:Box w bx t (.slice pa pl pc) mv ov) :
  Calls Tryz.prog 148 #[.agg #[.slice a n c],.pointer (some ⟨bx,0,none⟩)] w (RulePost w0 w bx (recordedB g t) (clearParts t) (.slice none 0 0) mv ov):=by
 have hpb:=(SlW.bound hp).2;obtain rfl:=SlW.len hp;have hlt:=hx.lt;have hbr:=dh (branded171 w0 (w.alloc (.cells #[.slice a n c] 118)) a n c g t bx pa _ pc mv ov h0 (hB.alloc (Nat.le_of_lt hlt) _) hg hp (hx.ext (Ext.alloc _ _)));have hend:=dh (show ∀ r,r=recordedB g t->∀ W,Below bx w0 W->Box W bx (clearBrand t) (.slice pa t.parts.length pc) mv ov->w.grownBy W (some bx)->RulePost w0 w bx (recordedB g t) (clearParts t) (.slice none 0 0) mv ov (.returned (.bool r)) (W.setCell ⟨bx,7,none⟩ (.slice none 0 0)) from
  fun r hr W h1 h2 h3=>⟨by rw [hr],Below.setCell h1 (Nat.le_refl _) _,h2.set (t':=clearParts t) rfl,grownBy_set h3 _ _⟩)
 have hp0:=fun W (hB:Below bx w0 W)=>Parts.mono (w':=W) (by rw [h0] at hB; exact hB) hp;clear hB hx hg;have h0':=Nat.le_of_eq h0;cases hb:brandedB g t
 ·have hr:=dh (show false=recordedB g t by unfold recordedB; rw [hb]; rfl);clear h0
  go_enter Tryz.func148,Tryz.ntmps148
  go_wp2_with fail;refine hbr.out.mono ?_;rintro e w1 ⟨rfl,hB1,hx1,hG1⟩;have HG1:=dh (grownBy_trans (World.grownBy_alloc _ _ _) hG1); clear hG1;rw [hb];have c7:=hx1.cell (j:=7) rfl;have f7:=hx1.free 7;have HB1:=dh hB1; clear hB1;have Hx1:=dh hx1; clear hx1;go_wp2_with fail;go_ret;exact hend.out _ hr.out _ HB1.out Hx1.out HG1.out
 ·by_cases h1:0<t.parts.length
  ·have hr:=dh (show differentB (t.parts.map (·.name)) 8=recordedB g t by unfold recordedB; rw [hb,decide_eq_true h1]; rfl);clear h0
   go_enter Tryz.func148,Tryz.ntmps148
   go_wp2_with fail;refine hbr.out.mono ?_;rintro e w1 ⟨rfl,hB1,hx1,hG1⟩;have HG1:=dh (grownBy_trans (World.grownBy_alloc _ _ _) hG1); clear hG1;rw [hb];have c7:=hx1.cell (j:=7) rfl;have hp1:=hp0 w1 hB1;have HB1:=dh hB1; clear hB1;have hl1:=hx1.lt;have Hx1:=dh hx1; clear hx1;clear hp0;go_wp2_with fail;refine (names173 174 enters174 _ _ _ _ _ hp1 name174).mono ?_;rintro e w2 ⟨va,vc,rfl,hs1,hE⟩;have HB2:=dh (HB1.out.trans (Below.mono hE (Nat.le_of_lt hl1)));have Hx2:=dh (Hx1.out.ext hE);have hl2:=Hx2.out.lt;have HG2:=dh (grownBy_ext HG1.out hE);clear hE;go_wp2_with fail;refine (different172 _ _ _ _ 8 _ hs1).mono ?_;rintro e w3 ⟨rfl,hE⟩;have HB3:=dh (HB2.out.trans (Below.mono hE (Nat.le_of_lt hl2)));have Hx3:=dh (Hx2.out.ext hE);have c7:=Hx3.out.cell (j:=7) rfl;have f7:=Hx3.out.free 7;have HG3:=dh (grownBy_ext HG2.out hE);clear hE;go_wp2_with fail;go_ret;exact hend.out _ hr.out _ HB3.out Hx3.out HG3.out
  ·have hr:=dh (show false=recordedB g t by unfold recordedB; rw [hb,decide_eq_false h1]; rfl);clear h0
   go_enter Tryz.func148,Tryz.ntmps148
   go_wp2_with fail;refine hbr.out.mono ?_;rintro e w1 ⟨rfl,hB1,hx1,hG1⟩;have HG1:=dh (grownBy_trans (World.grownBy_alloc _ _ _) hG1); clear hG1;rw [hb];have c7:=hx1.cell (j:=7) rfl;have f7:=hx1.free 7;have HB1:=dh hB1; clear hB1;have Hx1:=dh hx1; clear hx1;go_wp2_with fail;go_ret;exact hend.out _ hr.out _ HB1.out Hx1.out HG1.out
theorem opq150 (w0 w:World) (a:Option Addr) (n c:Nat) (g:List Ty) (t:Ty) (bx:Nat) (pv mv ov:Value) (h0:bx=w0.heap.size) (hB:Below bx w0 w)
  (hg:Graph w0 (.slice a n c) g) (ho:t.opq.size<=140737488351232) (hx:Box w bx t pv mv ov) :
  Calls Tryz.prog 150 #[.agg #[.slice a n c],.pointer (some ⟨bx,0,none⟩)] w (RulePost w0 w bx (opqB g t) (clearOpq t) pv mv ov):=by
 have hlt:=hx.lt;obtain rfl:=SlW.len hg;have hg1:=Graph.mono (w':=w) (by rw [h0] at hB; exact hB) hg;have hend:=dh (show ∀ r,r=opqB g t->∀ W,Ext w W->RulePost w0 w bx (opqB g t) (clearOpq t) pv mv ov (.returned (.bool r)) ((W.setCell ⟨bx,5,none⟩ (.string ⟨#[]⟩)).setCell ⟨bx,6,none⟩ (.int .i64 0)) from
  fun r hr W hE=>⟨by rw [hr],Below.setCell (Below.setCell (hB.trans (Below.mono hE (Nat.le_of_lt hlt))) (Nat.le_refl _) _) (Nat.le_refl _) _,((hx.ext hE).set (t':={ t with opq:=⟨#[]⟩ }) rfl).set rfl,grownBy_set (grownBy_set (grownBy_ext (grownBy_refl _ _) hE) _ _) _ _⟩)
 have c5:=hx.cell (j:=5) rfl;have c6:=hx.cell (j:=6) rfl;have c5x:=(Ext.alloc w (.cells #[.slice a g.length c] 118)).cell c5;have c6x:=(Ext.alloc w (.cells #[.slice a g.length c] 118)).cell c6;have f5:=hx.free 5;have f6:=hx.free 6;clear hB hx hg h0;cases hs:isSymbolB t.opq
 ·have hr:=dh (show false=opqB g t by unfold opqB; rw [hs]; rfl)
  go_enter Tryz.func150,Tryz.ntmps150
  go_upto_region 1 with (fail);go_cut [5] (fun v wx=>v=.bool false/\Hid (Ext w wx))
  case first =>
   refine Zr 99 ?_;change wpE _ _ _ _ _ _ _ _ (World.drew _);refine Zg 0 ?_;refine Zg 1 ?_;refine Zg 2 ?_;refine Zc 3 c5x ?_;refine Zo 4 fun K hK=>?_;go_simp;refine (isSymbol86 _ ho _).mono ?_;rintro e w1 ⟨rfl,hE⟩;rw [hs];have HE:=dh hE;refine hK _ _ (hE) ?_; clear hK K;clear hE;refine Zg 5 ?_;refine Zs 6 ?_;refine Zs 7 ?_;refine Zs 8 ?_;refine Zs 9 ?_;refine Zs 10 ?_;refine Zs 11 ?_;refine Zs 12 ?_;refine Zg 13 ?_;refine Zg 14 ?_;refine Zd ?_;go_wp2_with fail;go_meet;exact ⟨rfl,((Ext.alloc _ _).trans (Ext.drew _)).trans HE.out⟩
  case rest =>
   obtain ⟨rfl,hE⟩:=hcut;have d5:=hE.out.cell c5;have d6:=hE.out.cell c6;have e5:=(Below.frozen hE.out (p:=⟨bx,5,none⟩) hlt).trans f5;have e6:=(Below.frozen hE.out (p:=⟨bx,6,none⟩) hlt).trans f6;clear c5 c6 c5x c6x f5 f6 hs;go_wp2_with fail;go_ret;exact hend.out _ hr.out _ hE.out
 ·have hr:=dh (show overB g t.super [12,6,7,8,13,4]=opqB g t by unfold opqB; rw [hs]; rfl)
  go_enter Tryz.func150,Tryz.ntmps150
  go_upto_region 1 with (fail);go_cut [5] (fun v wx=>v=.bool (overB g t.super [12,6,7,8,13,4])/\Hid (Ext w wx))
  case first =>
   refine Zr 99 ?_;change wpE _ _ _ _ _ _ _ _ (World.drew _);refine Zg 0 ?_;refine Zg 1 ?_;refine Zg 2 ?_;refine Zc 3 c5x ?_;refine Zo 4 fun K hK=>?_;go_simp;refine (isSymbol86 _ ho _).mono ?_;rintro e w1 ⟨rfl,hE⟩;rw [hs];have hg2:=Graph.mono hE (Graph.mono ((Ext.alloc _ _).trans (Ext.drew _)) hg1);have hbx:=hE.cell (cell_new1 w (.slice a g.length c) 118);have c6y:=hE.cell c6x;have HE:=dh (((Ext.alloc _ _).trans (Ext.drew _)).trans hE);refine hK _ _ (hE) ?_; clear hK K;clear hE;refine Zg 5 ?_;refine Zc 6 hbx ?_;refine Zg 7 ?_;refine Zg 8 ?_;refine Zg 9 ?_;refine Zc 10 c6y ?_;refine Zo 11 fun K hK=>?_;go_simp;refine hK _ _ (Ext.alloc _ _) ?_; clear hK K;refine Zo 12 fun K hK=>?_;go_simp;refine (over177 a _ c g _ _ _ [12,6,7,8,13,4] t.super _ (Graph.mono (Ext.alloc _ _) hg2) (u8s_new _ [12,6,7,8,13,4] (by decide))).mono ?_;rintro e w7 ⟨rfl,hE⟩;have HE7:=dh (HE.out.trans ((Ext.alloc _ _).trans hE));refine hK _ _ (hE) ?_; clear hK K;clear hE;refine Zg 13 ?_;refine Zg 14 ?_;refine Zd ?_;go_wp2_with fail;go_meet;exact ⟨rfl,HE7⟩
  case rest =>
   obtain ⟨rfl,hE⟩:=hcut;have d5:=hE.out.cell c5;have d6:=hE.out.cell c6;have e5:=(Below.frozen hE.out (p:=⟨bx,5,none⟩) hlt).trans f5;have e6:=(Below.frozen hE.out (p:=⟨bx,6,none⟩) hlt).trans f6;clear c5 c6 c5x c6x f5 f6 hs;go_wp2_with fail;go_ret;exact hend.out _ hr.out _ hE.out
end
section
open Go.RowKit Go.Proofs
theorem objects149 (w0 w:World) (a:Option Addr) (n c:Nat) (g:List Ty) (t:Ty) (bx:Nat) (pa:Option Addr) (pl pc:Nat) (ma:Option Addr) (ml mc:Nat) (oa:Option Addr) (ol oc:Nat) (h0:bx=w0.heap.size) (hB:Below bx w0 w)
  (hg:Graph w0 (.slice a n c) g) (hp:Parts w0 (.slice pa pl pc) t.parts) (hm:Meths w0 (.slice ma ml mc) t.methods) (ho:Overs w0 (.slice oa ol oc) t.overs) (hx:Box w bx t (.slice pa pl pc) (.slice ma ml mc) (.slice oa ol oc)) :
  Calls Tryz.prog 149 #[.agg #[.slice a n c],.pointer (some ⟨bx,0,none⟩)] w (RulePost w0 w bx (objectsB g t) (clearObj t) (.slice none 0 0) (.slice none 0 0) (.slice none 0 0)):=by
 have hlt:=hx.lt;have hbr:=dh (branded171 w0 ((w.alloc (.cells #[.slice a n c] 118)).drew) a n c g t bx pa _ pc (.slice ma ml mc) (.slice oa ol oc) h0 (hB.alloc (Nat.le_of_lt hlt) _).drew hg hp (hx.ext ((Ext.alloc _ _).trans (Ext.drew _))));have hend:=dh (show ∀ r,r=objectsB g t->∀ W,Below bx w0 W->Box W bx (clearBrand t) (.slice pa pl pc) (.slice ma ml mc) (.slice oa ol oc)->w.grownBy W (some bx)->RulePost w0 w bx (objectsB g t) (clearObj t) (.slice none 0 0) (.slice none 0 0) (.slice none 0 0) (.returned (.bool r))
   ((((W.setCell ⟨bx,7,none⟩ (.slice none 0 0)).setCell ⟨bx,8,none⟩ (.slice none 0 0)).setCell ⟨bx,9,none⟩ (.slice none 0 0)).setCell ⟨bx,6,none⟩ (.int .i64 0)) from
  fun r hr W h1 h2 h3=>⟨by rw [hr],Below.setCell (Below.setCell (Below.setCell (Below.setCell h1 (Nat.le_refl _) _) (Nat.le_refl _) _) (Nat.le_refl _) _) (Nat.le_refl _) _,
   (((h2.set (t':={ clearBrand t with parts:=[] }) rfl).set (t':={ clearBrand t with parts:=[],methods:=[] }) rfl).set (t':={ clearBrand t with parts:=[],methods:=[],overs:=[] }) rfl).set (t':=clearObj t) rfl,
   grownBy_set (grownBy_set (grownBy_set (grownBy_set h3 _ _) _ _) _ _) _ _⟩)
 have hp0:=dh (fun W (hB:Below bx w0 W)=>(⟨Graph.mono (w':=W) (by rw [h0] at hB; exact hB) hg,Parts.mono (w':=W) (by rw [h0] at hB; exact hB) hp,Meths.mono (w':=W) (by rw [h0] at hB; exact hB) hm,Overs.mono (w':=W) (by rw [h0] at hB; exact hB) ho⟩:Graph W (.slice a n c) g/\Parts W (.slice pa pl pc) t.parts/\Meths W (.slice ma ml mc) t.methods/\Overs W (.slice oa ol oc) t.overs));have hbx:=cell_new1 w (.slice a n c) 118;clear hB hx hg hp hm ho;have hsp:objectsB g t=(brandedB g t&&differentB (t.parts.map (·.name)) 8&&objectB g (clearBrand t)):=rfl;have Hsp:=dh hsp; clear hsp;have h0':=Nat.le_of_eq h0;clear h0
 go_enter Tryz.func149,Tryz.ntmps149
 go_upto_region 1 with (fail);go_cut [5] (fun v wx=>v=.bool (objectsB g t)/\Hid (Below bx w0 wx/\Box wx bx (clearBrand t) (.slice pa pl pc) (.slice ma ml mc) (.slice oa ol oc)/\w.grownBy wx (some bx)))
 case first =>
  refine wp_region_M 99 bx (by kernel_rfl) ?_;change wpM _ _ _ _ _ _ _ _ _ (World.drew _);refine wpM_take (i:=0) (v:=?_) rfl (by kernel_rfl) (by kernel_rfl) (by kernel_rfl) (fun _ _ _ h=>h) (Or.inl ⟨by kernel_rfl,fun w9 hE=>?_⟩) ?_;rotate_left
  ·have hbxE:=hE.cell hbx (by first | (simp; done) | (simp; omega)); clear hE; first | (go_simp; done) | (go_simp; with_reducible rfl)
  simp only [Act.put,nm];refine wpM_take (i:=1) (v:=?_) rfl (by kernel_rfl) (by kernel_rfl) (by kernel_rfl) (fun _ _ _ h=>h) (Or.inl ⟨by kernel_rfl,fun w9 hE=>?_⟩) ?_;rotate_left
  ·clear hE; first | (go_simp; done) | (go_simp; with_reducible rfl)
  simp only [Act.put,nm];refine wpM_only (i:=2) rfl (by kernel_rfl) (by kernel_rfl) (fun K hK=>?_);go_simp;refine hbr.out.mono ?_;rintro e w1 ⟨rfl,hB1,hx1,hG1⟩;have hG0:w.grownBy w1 (some bx):=grownBy_trans (grownBy_ext (grownBy_refl w _) ((Ext.alloc _ _).trans (Ext.drew _))) hG1;have hbx1:w1.cell? ⟨w.heap.size,0,none⟩=some (.slice a n c):=hG1.cell hbx (by simp; omega);have c7:=hx1.cell (j:=7) rfl;have hl1:=hx1.lt;obtain ⟨hg1,hp1,hm1,ho1⟩:=hp0.out w1 hB1;have HB1:=dh hB1; clear hB1;have Hx1:=dh hx1; clear hx1;have HG0:=dh hG0; clear hG0;refine hK _ _ hG1 ?_; clear hK K hG1;cases hb:brandedB g t
  ·
   refine Zg 3 ?_;refine Zs 4 ?_;refine Zs 5 ?_;refine Zs 6 ?_;refine Zs 7 ?_;refine Zs 8 ?_;refine Zs 9 ?_;refine Zg 10 ?_;refine Zg 11 ?_;refine Zs 12 ?_;refine Zs 13 ?_;refine Zs 14 ?_;refine Zs 15 ?_;refine Zs 16 ?_;refine Zg 17 ?_;refine Zg 18 ?_;refine Zd ?_;go_wp2_with fail;go_meet;exact ⟨by rw [Hsp.out,hb]; rfl,HB1.out,Hx1.out,HG0.out⟩
  ·
   refine Zg 3 ?_;refine Zg 4 ?_;refine Zg 5 ?_;refine Zg 6 ?_;refine Zc 7 c7 ?_;refine Zo 8 fun K hK=>?_;go_simp;refine (names173 175 enters175 _ _ _ _ _ hp1 name175).mono ?_;rintro e w2 ⟨va,vc,rfl,hs1,hE⟩;have hbx2:=hE.cell hbx1;have hg2:=Graph.mono hE hg1;have hm2:=Meths.mono hE hm1;have ho2:=Overs.mono hE ho1;have HB2:=dh (HB1.out.trans (Below.mono hE (Nat.le_of_lt hl1)));have Hx2:=dh (Hx1.out.ext hE);have HG2:=dh (grownBy_ext HG0.out hE);have hl2:=Hx2.out.lt;refine hK _ _ (hE) ?_; clear hK K;clear hE;refine Zo 9 fun K hK=>?_;go_simp;refine (different172 _ _ _ _ 8 _ hs1).mono ?_;rintro e w3 ⟨rfl,hE⟩;have hbx3:=hE.cell hbx2;have hg3:=Graph.mono hE hg2;have hm3:=Meths.mono hE hm2;have ho3:=Overs.mono hE ho2;have HB3:=dh (HB2.out.trans (Below.mono hE (Nat.le_of_lt hl2)));have Hx3:=dh (Hx2.out.ext hE);have HG3:=dh (grownBy_ext HG2.out hE);have hl3:=Hx3.out.lt;refine hK _ _ (hE) ?_; clear hK K;clear hE;cases hd:differentB (t.parts.map (·.name)) 8
   ·
    refine Zg 10 ?_;refine Zg 11 ?_;refine Zs 12 ?_;refine Zs 13 ?_;refine Zs 14 ?_;refine Zs 15 ?_;refine Zs 16 ?_;refine Zg 17 ?_;refine Zg 18 ?_;refine Zd ?_;go_wp2_with fail;go_meet;exact ⟨by rw [Hsp.out,hb,hd]; rfl,HB3.out,Hx3.out,HG3.out⟩
   ·
    have d0:=Hx3.out.cell (j:=0) rfl;have d1:=Hx3.out.cell (j:=1) rfl;have d2:=Hx3.out.cell (j:=2) rfl;have d3:=Hx3.out.cell (j:=3) rfl;have d4:=Hx3.out.cell (j:=4) rfl;have d5:=Hx3.out.cell (j:=5) rfl;have d6:=Hx3.out.cell (j:=6) rfl;have d7:=Hx3.out.cell (j:=7) rfl;have d8:=Hx3.out.cell (j:=8) rfl;have d9:=Hx3.out.cell (j:=9) rfl;refine Zg 10 ?_;refine Zg 11 ?_;refine Zc 12 hbx3 ?_;refine Zg 13 ?_;refine Zg 14 ?_;refine Zf 15 rfl (fun w9 hE=>by have d0E:=hE.cell d0; have d1E:=hE.cell d1; have d2E:=hE.cell d2; have d3E:=hE.cell d3; have d4E:=hE.cell d4; have d5E:=hE.cell d5; have d6E:=hE.cell d6; have d7E:=hE.cell d7; have d8E:=hE.cell d8; have d9E:=hE.cell d9; clear hE; first | (go_simp; done) | (go_simp; with_reducible rfl)) ?_;refine Zo 16 fun K hK=>?_;go_simp;refine (object176 a n c g (clearBrand t) pa pl pc ma ml mc oa ol oc _ hg3 hm3 ho3).mono ?_;rintro e w4 ⟨rfl,hE⟩;have HB4:=dh (HB3.out.trans (Below.mono hE (Nat.le_of_lt hl3)));have Hx4:=dh (Hx3.out.ext hE);have HG4:=dh (grownBy_ext HG3.out hE);refine hK _ _ (hE) ?_; clear hK K;clear hE;refine Zg 17 ?_;refine Zg 18 ?_;refine Zd ?_;go_wp2_with fail;go_meet;exact ⟨by rw [Hsp.out,hb,hd]; rfl,HB4.out,Hx4.out,HG4.out⟩
 case rest =>
  obtain ⟨rfl,hH⟩:=hcut;obtain ⟨hB,hx,hG⟩:=hH.out;clear hH;have c6:=hx.cell (j:=6) rfl;have c7:=hx.cell (j:=7) rfl;have c8:=hx.cell (j:=8) rfl;have c9:=hx.cell (j:=9) rfl;have f6:=hx.free 6;have f7:=hx.free 7;have f8:=hx.free 8;have f9:=hx.free 9;have HB:=dh hB; clear hB;have Hx:=dh hx; clear hx;have HG:=dh hG; clear hG;go_wp2_with fail;go_ret;exact hend.out _ rfl _ HB.out Hx.out HG.out
end
section
open Go.RowKit Go.Proofs
def ruleFn:Nat->Option FuncId
 | 3=>some 146
 | 9=>some 147
 | 10=>some 148
 | 11=>some 147
 | 12=>some 149
 | 13=>some 150
 | 1=>some 145
 | 2=>some 145
 | 4=>some 145
 | 5=>some 145
 | 6=>some 145
 | 7=>some 145
 | 8=>some 145
 | _=>none
def ruleCell (k:Nat):Value:=match ruleFn k with | some F=>.func (.func F) #[] #[] | none=>.nilFunc
def ruleTable:Array Value:=((List.range 14).map ruleCell).toArray
theorem rules108 (w:World):Calls Tryz.prog 108 #[] w fun e w'=>e=.returned (.agg ruleTable)/\Ext w w':=by
 go_enter Tryz.func108,Tryz.ntmps108
 go_wp2;refine bodyPost_ret (v:=.agg ruleTable) ?_ rfl ⟨rfl,by (repeat (first | exact Ext.refl _ | (refine Ext.trans ?_ (Hid.out (by assumption))) | (refine Ext.trans ?_ (Ext.alloc _ _)) | (refine Ext.trans ?_ (Ext.drew _)) | (refine below_drewN ?_ _)))⟩;simp [results,Tryz.results108,go_sem,ruleTable,ruleCell,ruleFn,List.range_succ]
theorem plainOf109 (t:Ty) (pv mv ov:Value) (w:World):Calls Tryz.prog 109 #[.agg (tyCells t pv mv ov).toArray] w fun e w' =>
  e=.returned (.agg #[.int .u8 t.kind,.int .i64 t.low,.int .i64 t.high,.bool t.branded,.string t.brand,.string t.opq,.int .i64 0])/\Ext w w':=by
 unfold tyCells
 go_enter Tryz.func109,Tryz.ntmps109
 go_wp2;refine bodyPost_ret (v:=.agg #[.int .u8 t.kind,.int .i64 t.low,.int .i64 t.high,.bool t.branded,.string t.brand,.string t.opq,.int .i64 0]) (by simp [results,Tryz.results109,go_sem]) rfl ⟨rfl,by (repeat (first | exact Ext.refl _ | (refine Ext.trans ?_ (Hid.out (by assumption))) | (refine Ext.trans ?_ (Ext.alloc _ _)) | (refine Ext.trans ?_ (Ext.drew _)) | (refine below_drewN ?_ _)))⟩
end
end Go.Proofs.YtjffkeoajkhbmaaGreat
