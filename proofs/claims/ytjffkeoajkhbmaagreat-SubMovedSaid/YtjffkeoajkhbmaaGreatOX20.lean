/- sub.copied: a graph in new memory. -/
import Derived.Test.YtjffkeoajkhbmaaGreatOX8
import Derived.Test.YtjffkeoajkhbmaaGreatOX14
namespace Go.Proofs.YtjffkeoajkhbmaaGreat
set_option linter.unusedSimpArgs false
set_option linter.unusedVariables false
set_option maxRecDepth 100000
set_option maxHeartbeats 8000000
open Go.RowKit Go.Proofs
def fromB (B j:Nat):Bool:=decide (B<=j)
def fromB1 (B g0 j:Nat):Bool:=decide (B<=j)&&j != g0
def fromB2 (B g0 g1 j:Nat):Bool:=decide (B<=j)&&j != g0&&j != g1
theorem owns_only {w:World} {base:Nat} {e:TypeId} {size:Nat} {v:Value} {n:Nat} {xs:List Value} {p:Nat->Bool} (h:w.ownsRow base e size v n xs) (hp:∀ j,v.ownBlock=some j->p j=true):(only w p).ownsRow base e size v n xs:=by
 refine ⟨h.1,?_⟩;rcases h.2 with hn | ⟨g,cap,cur,rfl,hb,hgg,rest⟩
 ·exact .inl hn
 ·exact .inr ⟨g,cap,cur,rfl,hb,by rw [only_see (hp g rfl)]; exact hgg,rest⟩
theorem clone118b (a:Option Addr) (n c:Nat) (xs:List Meth) (w0 w:World) (hE0:Ext w0 w) (hx:Meths w0 (.slice a n c) xs) (hn:n<=1000) :
  Calls Tryz.prog 118 #[.slice a n c] w fun e w'=>∃ v,e=.returned v/\Ext w w'/\Meths w' v xs /\
   ∃ f:Nat->List Value,(∀ i,i<n->IsMeth w0 (nth xs i) (f i)/\(f i).length=5)/\w'.ownsRow w.heap.size 88 5 v n (((List.range n).map f).flatten):=by
 have hlen:=SlW.len hx;cases a with
 | none =>
  have hn0:n=0:=by
   rcases Nat.eq_zero_or_pos n with h0 | h0
   ·exact h0
   ·obtain ⟨b,off,cs,ha,_⟩:=SlW.at hx h0; cases ha
  subst hn0;have hxs:xs=[]:=List.eq_nil_of_length_eq_zero hlen.symm;subst hxs;clear hlen hx;have hq:∀ w,(binOp .eql 47 (.slice none 0 c) (.slice none 0 0)).run Tryz.prog w=.ok (.bool true) w:=fun _=>by kernel_rfl
  go_enter Tryz.func118,Tryz.ntmps118
  go_wp2;go_ret;exact ⟨_,rfl,Ext.refl _,SlW.nil _ _ _,fun _=>[],fun i hi=>absurd hi (Nat.not_lt_zero _),World.ownsRow_nil _ _ _ _⟩
 | some ad =>
  obtain ⟨f,hf,hcells⟩:=slw_cells hx;have hfl:=flat_length f 5 n (fun i hi=>(hf i hi).2);have hone:∀ u∈((List.range n).map f).flatten,u.oneCell'=true:=by
   intro u hu;obtain ⟨k,hk,rfl⟩:=List.getElem_of_mem hu;obtain ⟨i,j,hi,hj,_,hij⟩:=flat_back f 5 n (fun i hi=>(hf i hi).2) (List.getElem?_eq_getElem hk);have hR:=(hf i hi).1;obtain ⟨av,rv,he,h1,h2,_⟩:=hR;obtain ⟨_,_,rfl,_⟩:=h1;obtain ⟨_,_,rfl,_⟩:=h2;rw [he] at hij
   match j,hij with
   | 0,hij=>simp at hij; rw [<- hij]; rfl
   | 1,hij=>simp at hij; rw [<- hij]; rfl
   | 2,hij=>simp at hij; rw [<- hij]; rfl
   | 3,hij=>simp at hij; rw [<- hij]; rfl
   | 4,hij=>simp at hij; rw [<- hij]; rfl
  have Hlen:=dh hlen; clear hlen;have Hf:=dh hf; clear hf;have HE0:=dh hE0; clear hE0;have Hc:=dh hcells; clear hcells hx;obtain ⟨i0,hi,hz0,hz1,hz2⟩:=info_parts info88c;obtain ⟨L,hL⟩:∃ L,L=((List.range n).map f).flatten:=⟨_,rfl⟩;rw [<- hL] at hfl hone;have HL:=dh hL; clear hL;have hown:=World.ownsRow_lit (base:=w.heap.size) (e:=88) (size:=5) w #[] 0 (Nat.le_refl _) (Nat.zero_le _) (by simp);have hq:∀ w,(binOp .eql 47 (.slice (some ad) n c) (.slice none 0 0)).run Tryz.prog w=.ok (.bool false) w:=fun _=>by kernel_rfl
  go_enter Tryz.func118,Tryz.ntmps118
  go_wp2_with (at_builtin; refine wpList_append_own _ rfl _ _ 47 rfl w.heap.size 88 i0 (.agg #[.string ⟨#[]⟩,.slice none 0 0,.int .i64 0,.slice none 0 0,.string ⟨#[]⟩]) 5 88 Tryz.underlying47 hi hz0 hz1 hz2 rfl (by decide) _ 0 [] rfl hown ad n c L rfl hfl (fun j u hu=>?c1) hone (by unfold maxLen; omega) (by omega) (by simp) ?_)
  case c1=>exact (Ext.alloc _ _).cell (HE0.out.cell (Hc.out j u (by rw [<- HL.out]; exact hu)))
  intro v' w3 hown3 hgrow3 _;have hE3:Ext w w3:=Below.grown ((Below.refl w.heap.size w).alloc (Nat.le_refl _) (.cells #[] 88)) hgrow3 (by simp) (fun k hk=>by simp [Value.ownBlock] at hk; omega);have HE:=dh hE3; clear hE3;have Ho:=dh hown3; clear hown3 hgrow3;go_wp2_with fail;go_ret;have ho:=Ho.out;rw [HL.out] at ho;refine ⟨v',rfl,HE.out,slw_of_owns (by rw [<- Hlen.out]; exact ho) (fun i hi=>?_) (by rw [<- Hlen.out]; unfold maxBytes; omega),f,Hf.out,ho⟩;have hR:=Hf.out i (by rw [Hlen.out]; exact hi);exact ⟨(by obtain ⟨av,rv,he,h1,h2,h3⟩:=hR.1; exact ⟨av,rv,he,Ints.mono (HE0.out.trans HE.out) h1,Strs.mono (HE0.out.trans HE.out) h2,h3⟩),hR.2⟩
theorem small_words {n:Nat} (h:n<=1000) (sz:Nat) (hs:sz<=10):n*(8*sz)<=maxBytes:=by
 have:n*(8*sz)<=1000*(8*10):=Nat.mul_le_mul h (by omega);unfold maxBytes; omega
structure CpInv (w wr:World) (g0:Nat) (cap k:Nat) (g:List Ty) (skip:Nat) (cur:Array Value):Prop where
 ext:Ext w wr
 base:w.heap.size<=g0
 row:wr.heap[g0]? = some (.cells cur 50 (0,0))
 size:cur.size=cap*10
 half:HalfRow (IsTy w) (IsTy (only wr (fromB1 w.heap.size g0))) 10 k skip cur g
theorem CpInv.grow {w wr wr':World} {g0 cap k:Nat} {g:List Ty} {skip:Nat} {cur:Array Value} (h:CpInv w wr g0 cap k g skip cur) (hE:Ext wr wr'):CpInv w wr' g0 cap k g skip cur :=
 ⟨h.ext.trans hE,h.base,(hE.block g0 (row_lt h.row)).trans h.row,h.size,h.half.mono (fun _ _ hr=>IsTy.le (hE.only _) hr)⟩
structure CqInv (w wr:World) (g0 cap k g1 d:Nat) (g:List Ty) (cur:Array Value) (pv mv ov:Value) (ms:List Meth):Prop where
 ext:Ext w wr
 base:w.heap.size<=g0
 row:wr.heap[g0]? = some (.cells cur 50 (0,0))
 size:cur.size=cap*10
 half:HalfRow (IsTy w) (IsTy (only wr (fromB2 w.heap.size g0 g1))) 10 k k cur g
 cells:∀ j u,(tyCells (nth g k) pv mv ov)[j]? = some u->cur[k*10+j]? = some u
 parts:Parts (only wr (fromB2 w.heap.size g0 g1)) pv (nth g k).parts
 overs:Overs (only wr (fromB2 w.heap.size g0 g1)) ov (nth g k).overs
 meth:(ms.length=0/\∃ a c,mv=.slice a 0 c)\/(g0≠g1/\w.heap.size<=g1/\∃ c curm,mv=.slice (some ⟨g1,0,none⟩) ms.length c/\ms.length<=c/\wr.heap[g1]? = some (.cells curm 88 (0,0))/\curm.size=c*5 /\
  HalfRow (IsMeth w) (IsMeth (only wr (fromB2 w.heap.size g0 g1))) 5 d ms.length curm ms)
theorem owns_slice {w:World} {base:Nat} {e:TypeId} {size:Nat} {v:Value} {n:Nat} {xs:List Value} (h:w.ownsRow base e size v n xs):∃ a c,v=.slice a n c:=by
 rcases h.2 with ⟨rfl,rfl⟩ | ⟨g,cap,cur,rfl,_⟩
 ·exact ⟨_,_,rfl⟩
 ·exact ⟨_,_,rfl⟩
theorem owns_into {W1 W4:World} {B1 g0:Nat} {e:TypeId} {size:Nat} {v:Value} {n:Nat} {xs:List Value} (h:W1.ownsRow B1 e size v n xs) (hg:W1.grownBy W4 (some g0)) (h0:g0<B1) (p:Nat->Bool) (hp:∀ j,B1<=j->j<W1.heap.size->p j=true) :
  (only W4 p).ownsRow B1 e size v n xs :=
 owns_only (h.kept hg (Or.inr fun e=>by have:=(h.lt g0 e).1; omega)) (fun j hj=>hp j (h.lt j hj).1 (h.lt j hj).2)
theorem only_before {wr W4:World} {g0 g1 B:Nat} (hg:wr.grownBy W4 (some g0)) (h1:wr.heap.size<=g1\/g1=g0):CellLe (only wr (fromB1 B g0)) (only W4 (fromB2 B g0 g1)):=fun a v hc=>by
 obtain ⟨hc,hp⟩:=only_cell hc;unfold fromB1 at hp;simp only [Bool.and_eq_true,decide_eq_true_eq,bne_iff_ne,ne_eq] at hp;have hlt:=cell_lt hc;refine cell_only ?_ ((World.cell?_of_block (hg.block a.block hlt (fun e=>hp.2 (Option.some.inj e)))).trans hc);unfold fromB2;simp only [Bool.and_eq_true,decide_eq_true_eq,bne_iff_ne,ne_eq];exact ⟨hp,by rcases h1 with h1 | h1 <;> omega⟩
theorem fromB2_le {B g0 g1 j:Nat} (h:fromB2 B g0 g1 j=true):fromB1 B g0 j=true:=by
 unfold fromB2 at h; unfold fromB1; rw [Bool.and_eq_true] at h; exact h.1
theorem CqInv.start {w wr W1 W2 W3 W4:World} {g0 cap k B1 B2 B3:Nat} {g:List Ty} {cur:Array Value} {v1 v2 v3:Value} {f1 f2 f3:Nat->List Value} (h:CpInv w wr g0 cap k g g.length cur) (hk:k<g.length) (hc:g.length<=cap)
  (hr:rightB g (nth g k)=true)
  (hE1:Ext wr W1) (hB1:wr.heap.size<=B1) (ho1:W1.ownsRow B1 83 2 v1 (nth g k).parts.length (((List.range (nth g k).parts.length).map f1).flatten)) (hf1:∀ i,i<(nth g k).parts.length->IsPart wr (nth (nth g k).parts i) (f1 i)/\(f1 i).length=2)
  (hE2:Ext W1 W2) (hB2:W1.heap.size<=B2) (ho2:W2.ownsRow B2 88 5 v2 (nth g k).methods.length (((List.range (nth g k).methods.length).map f2).flatten)) (hf2:∀ i,i<(nth g k).methods.length->IsMeth w (nth (nth g k).methods i) (f2 i)/\(f2 i).length=5)
  (hE3:Ext W2 W3) (hB3:W2.heap.size<=B3) (ho3:W3.ownsRow B3 169 2 v3 (nth g k).overs.length (((List.range (nth g k).overs.length).map f3).flatten)) (hf3:∀ i,i<(nth g k).overs.length->IsOver wr (nth (nth g k).overs i) (f3 i)/\(f3 i).length=2)
  (h4:W4=((W3.setCell ⟨g0,k*10+7,none⟩ v1).setCell ⟨g0,k*10+8,none⟩ v2).setCell ⟨g0,k*10+9,none⟩ v3)
  {pv mv ov:Value} (hcs:∀ j u,(tyCells (nth g k) pv mv ov)[j]? = some u->cur[k*10+j]? = some u) :
  ∃ g1 cur',CqInv w W4 g0 cap k g1 0 g cur' v1 v2 v3 (nth g k).methods:=by
 have hl1:=right_parts hr;have hl3:=(right_methods hr).2.1;have hg0:=row_lt h.row;have hbase:=h.base;have s1:=hE1.size;have s2:=hE2.size;have s3:=hE3.size;have hE23:=hE2.trans hE3;have hE13:=hE1.trans hE23;have hgo:∀ A,Ext A W3->A.grownBy W4 (some g0):=fun A hA=>by rw [h4]; exact grownBy_set (grownBy_set (grownBy_set (grownBy_ext (grownBy_refl A _) hA) _ _) _ _) _ _
 have row3:W3.heap[g0]? = some (.cells cur 50 (0,0)):=(hE13.block g0 hg0).trans h.row;have row4:W4.heap[g0]? = some (.cells (((cur.setIfInBounds (k*10+7) v1).setIfInBounds (k*10+8) v2).setIfInBounds (k*10+9) v3) 50 (0,0)):=by rw [h4]; exact row_set (row_set (row_set row3))
 have hsz:=h.size;have hkc:k*10+10<=cur.size:=by rw [hsz]; omega
 have hext:Ext w W4:=by
  rw [h4];exact Below.setCell (Below.setCell (Below.setCell (h.ext.trans hE13) hbase _) hbase _) hbase _
 have hcells:∀ j u,(tyCells (nth g k) v1 v2 v3)[j]? = some u->(((cur.setIfInBounds (k*10+7) v1).setIfInBounds (k*10+8) v2).setIfInBounds (k*10+9) v3)[k*10+j]? = some u:=by
  intro j u hu;have key:∀ j,j<7->(tyCells (nth g k) v1 v2 v3)[j]? = some u->(((cur.setIfInBounds (k*10+7) v1).setIfInBounds (k*10+8) v2).setIfInBounds (k*10+9) v3)[k*10+j]? = some u:=by
   intro j hj hu;have hu2:(tyCells (nth g k) pv mv ov)[j]? = some u:=by
    rw [<- hu]
    match j,hj with
    | 0,_=>rfl
    | 1,_=>rfl
    | 2,_=>rfl
    | 3,_=>rfl
    | 4,_=>rfl
    | 5,_=>rfl
    | 6,_=>rfl
   rw [Array.getElem?_setIfInBounds_ne (by omega),Array.getElem?_setIfInBounds_ne (by omega),Array.getElem?_setIfInBounds_ne (by omega)];exact hcs j u hu2
  by_cases hj:j<7
  ·exact key j hj hu
  ·match j,hu with
   | 7,hu =>
    have e:v1=u:=by simpa [tyCells] using hu
    rw [Array.getElem?_setIfInBounds_ne (by omega),Array.getElem?_setIfInBounds_ne (by omega),Array.getElem?_setIfInBounds_self_of_lt (by omega),e]
   | 8,hu =>
    have e:v2=u:=by simpa [tyCells] using hu
    rw [Array.getElem?_setIfInBounds_ne (by omega),Array.getElem?_setIfInBounds_self_of_lt (by simp; omega),e]
   | 9,hu =>
    have e:v3=u:=by simpa [tyCells] using hu
    rw [Array.getElem?_setIfInBounds_self_of_lt (by simp; omega),e]
   | 0,_=>omega
   | 1,_=>omega
   | 2,_=>omega
   | 3,_=>omega
   | 4,_=>omega
   | 5,_=>omega
   | 6,_=>omega
   | j+10,hu=>simp [tyCells] at hu
 have hhalf:∀ g1,(wr.heap.size<=g1\/g1=g0)->HalfRow (IsTy w) (IsTy (only W4 (fromB2 w.heap.size g0 g1))) 10 k k (((cur.setIfInBounds (k*10+7) v1).setIfInBounds (k*10+8) v2).setIfInBounds (k*10+9) v3) g:=fun g1 h1 =>
  (h.half.put (fun i hi _=>by omega) (fun q hq=>by
   rw [Array.getElem?_setIfInBounds_ne (by omega),Array.getElem?_setIfInBounds_ne (by omega),Array.getElem?_setIfInBounds_ne (by omega)])).mono (fun _ _ hx=>IsTy.le (only_before (hgo wr hE13) h1) hx)
 have hparts:∀ g1,(W1.heap.size<=g1\/g1=g0)->Parts (only W4 (fromB2 w.heap.size g0 g1)) v1 (nth g k).parts:=fun g1 h1 =>
  slw_of_owns (owns_into ho1 (hgo W1 hE23) (by omega) _ (fun j h2 h3=>by unfold fromB2; simp only [Bool.and_eq_true,decide_eq_true_eq,bne_iff_ne,ne_eq]; exact ⟨⟨by omega,by omega⟩,by rcases h1 with h1 | h1 <;> omega⟩)) (fun i hi=>hf1 i hi) (small_words (by omega) 2 (by decide))
 have hovers:∀ g1,(g1<W2.heap.size)->Overs (only W4 (fromB2 w.heap.size g0 g1)) v3 (nth g k).overs:=fun g1 h1 =>
  slw_of_owns (owns_into ho3 (hgo W3 (Ext.refl _)) (by omega) _ (fun j h2 h3=>by unfold fromB2; simp only [Bool.and_eq_true,decide_eq_true_eq,bne_iff_ne,ne_eq]; exact ⟨⟨by omega,by omega⟩,by omega⟩)) (fun i hi=>hf3 i hi) (small_words (by omega) 2 (by decide))
 have hlt2:=ho2.lt;have ho2':=ho2.kept (hgo W2 hE3) (Or.inr fun e=>by have:=(hlt2 g0 e).1; omega);obtain ⟨hlen,ho⟩:=ho2';rcases ho with ⟨rfl,hz⟩ | ⟨g1,cap1,cur1,rfl,hb1,hr1,hn1,hc1,hs1,ht1⟩
 ·exact ⟨g0,_,⟨hext,hbase,row4,by simp [hsz],hhalf g0 (Or.inr rfl),hcells,hparts g0 (Or.inr rfl),hovers g0 (by omega),Or.inl ⟨hz,_,_,rfl⟩⟩⟩
 ·have:=hlt2 g1 rfl;exact ⟨g1,_,⟨hext,hbase,row4,by simp [hsz],hhalf g1 (Or.inl (by omega)),hcells,hparts g1 (Or.inl (by omega)),hovers g1 (by omega),Or.inr ⟨by omega,by omega,cap1,cur1,rfl,hn1,hr1,hs1,HalfRow.start hf2 ht1⟩⟩⟩
theorem CqInv.step {w wr W1 W2 W3:World} {g0 cap k g1 d B1 B2:Nat} {g:List Ty} {cur:Array Value} {pv mv ov v1 v2:Value} {ms:List Meth} {f1 f2:Nat->List Value} (h:CqInv w wr g0 cap k g1 d g cur pv mv ov ms) (hd:d<ms.length)
  (hl1:(nth ms d).sig.args.length<=6) (hl2:(nth ms d).sig.raises.length<=6)
  (hE1:Ext wr W1) (hB1:wr.heap.size<=B1) (ho1:W1.ownsRow B1 3 1 v1 (nth ms d).sig.args.length (((List.range (nth ms d).sig.args.length).map f1).flatten)) (hf1:∀ i,i<(nth ms d).sig.args.length->IsInt wr (nth (nth ms d).sig.args i) (f1 i)/\(f1 i).length=1)
  (hE2:Ext W1 W2) (hB2:W1.heap.size<=B2) (ho2:W2.ownsRow B2 9 1 v2 (nth ms d).sig.raises.length (((List.range (nth ms d).sig.raises.length).map f2).flatten)) (hf2:∀ i,i<(nth ms d).sig.raises.length->IsStr wr (nth (nth ms d).sig.raises i) (f2 i)/\(f2 i).length=1)
  (h3:W3=(W2.setCell ⟨g1,d*5+1,none⟩ v1).setCell ⟨g1,d*5+3,none⟩ v2) {c:Nat} {curm:Array Value} (hmv:mv=.slice (some ⟨g1,0,none⟩) ms.length c) (hne:g0≠g1) (hb:w.heap.size<=g1) (hc:ms.length<=c)
  (hrow:wr.heap[g1]? = some (.cells curm 88 (0,0))) (hs:curm.size=c*5) (hh:HalfRow (IsMeth w) (IsMeth (only wr (fromB2 w.heap.size g0 g1))) 5 d ms.length curm ms)
  {av rv:Value} (hcs:∀ j u,([.string (nth ms d).name,av,.int .i64 (nth ms d).sig.result,rv,.string (nth ms d).proc]:List Value)[j]? = some u->curm[d*5+j]? = some u)
  (hbd:-9223372036854775808<=(nth ms d).sig.result/\(nth ms d).sig.result<=9223372036854775807/\(nth ms d).name.size<=maxBytes/\(nth ms d).proc.size<=maxBytes) :
  CqInv w W3 g0 cap k g1 (d+1) g cur pv mv ov ms:=by
 have hg1:=row_lt hrow;have hg0:=row_lt h.row;have s1:=hE1.size;have s2:=hE2.size;have hE12:=hE1.trans hE2;have hgo:∀ A,Ext A W2->A.grownBy W3 (some g1):=fun A hA=>by rw [h3]; exact grownBy_set (grownBy_set (grownBy_ext (grownBy_refl A _) hA) _ _) _ _
 have hle:CellLe (only wr (fromB2 w.heap.size g0 g1)) (only W3 (fromB2 w.heap.size g0 g1)):=only_grown (hgo wr hE12) (fun q e=>by cases e; unfold fromB2; simp);have row2:W2.heap[g1]? = some (.cells curm 88 (0,0)):=(hE12.block g1 hg1).trans hrow;have row3:W3.heap[g1]? = some (.cells ((curm.setIfInBounds (d*5+1) v1).setIfInBounds (d*5+3) v2) 88 (0,0)):=by rw [h3]; exact row_set (row_set row2)
 have hkc:d*5+5<=curm.size:=by rw [hs]; omega
 have hints:Ints (only W3 (fromB2 w.heap.size g0 g1)) v1 (nth ms d).sig.args :=
  slw_of_owns (owns_into ho1 (hgo W1 hE2) (by omega) _ (fun j h2 h3=>by unfold fromB2; simp only [Bool.and_eq_true,decide_eq_true_eq,bne_iff_ne,ne_eq]; exact ⟨⟨by omega,by omega⟩,by omega⟩)) (fun i hi=>hf1 i hi) (small_words (by omega) 1 (by decide))
 have hstrs:Strs (only W3 (fromB2 w.heap.size g0 g1)) v2 (nth ms d).sig.raises :=
  slw_of_owns (owns_into ho2 (hgo W2 (Ext.refl _)) (by omega) _ (fun j h2 h3=>by unfold fromB2; simp only [Bool.and_eq_true,decide_eq_true_eq,bne_iff_ne,ne_eq]; exact ⟨⟨by omega,by omega⟩,by omega⟩)) (fun i hi=>hf2 i hi) (small_words (by omega) 1 (by decide))
 have hext:Ext w W3:=by
  rw [h3];exact Below.setCell (Below.setCell (h.ext.trans hE12) hb _) hb _
 refine ⟨hext,h.base,((hgo wr hE12).block g0 hg0 (fun e=>hne (Option.some.inj e))).trans h.row,h.size,h.half.mono (fun _ _ hx=>IsTy.le hle hx),h.cells,Parts.le hle h.parts,Overs.le hle h.overs,Or.inr ⟨hne,hb,c,_,hmv,hc,row3,by simp [hs],?_⟩⟩;have hput:=(hh.put (cur':=(curm.setIfInBounds (d*5+1) v1).setIfInBounds (d*5+3) v2) (fun i hi _=>by omega) (fun q hq=>by
  rw [Array.getElem?_setIfInBounds_ne (by omega),Array.getElem?_setIfInBounds_ne (by omega)])).mono (fun _ _ hx=>IsMeth.le hle hx)
 refine hput.close ⟨v1,v2,rfl,hints,hstrs,hbd⟩ rfl (fun j u hu=>?_)
 match j,hu with
 | 0,hu =>
  rw [Array.getElem?_setIfInBounds_ne (by omega),Array.getElem?_setIfInBounds_ne (by omega)];exact hcs 0 u hu
 | 1,hu =>
  have e:v1=u:=by simpa using hu
  rw [Array.getElem?_setIfInBounds_ne (by omega),Array.getElem?_setIfInBounds_self_of_lt (by omega),e]
 | 2,hu =>
  rw [Array.getElem?_setIfInBounds_ne (by omega),Array.getElem?_setIfInBounds_ne (by omega)];exact hcs 2 u hu
 | 3,hu =>
  have e:v2=u:=by simpa using hu
  rw [Array.getElem?_setIfInBounds_self_of_lt (by simp; omega),e]
 | 4,hu =>
  rw [Array.getElem?_setIfInBounds_ne (by omega),Array.getElem?_setIfInBounds_ne (by omega)];exact hcs 4 u hu
 | j+5,hu=>simp at hu
theorem CqInv.done {w wr:World} {g0 cap k g1:Nat} {g:List Ty} {cur:Array Value} {v1 v2 v3:Value} (h:CqInv w wr g0 cap k g1 (nth g k).methods.length g cur v1 v2 v3 (nth g k).methods) (hok:TyOk (nth g k)) (hr:rightB g (nth g k)=true):CpInv w wr g0 cap (k+1) g g.length cur:=by
 have hle:CellLe (only wr (fromB2 w.heap.size g0 g1)) (only wr (fromB1 w.heap.size g0)):=only_only (fun j=>fromB2_le);have hl2:=(right_methods hr).1;refine ⟨h.ext,h.base,h.row,h.size,(h.half.mono (fun _ _ hx=>IsTy.le hle hx)).close ⟨v1,v2,v3,rfl,Parts.le hle h.parts,?_,Overs.le hle h.overs,hok⟩ rfl h.cells⟩;rcases h.meth with ⟨hz,a,c,rfl⟩ | ⟨hne,hb,c,curm,rfl,hc,hrow,hs,hh⟩
 ·rw [List.eq_nil_of_length_eq_zero hz];exact ⟨a,c,by simp,by simp,by simp,fun i x hx=>by simp at hx⟩
 ·have hp:fromB1 w.heap.size g0 g1=true:=by unfold fromB1; simp only [Bool.and_eq_true,decide_eq_true_eq,bne_iff_ne,ne_eq]; exact ⟨hb,fun e=>hne e.symm⟩
  exact RowOf.slice (T:=88) (hh.mono (fun _ _ hx=>IsMeth.le hle hx)).done (by rw [only_see hp]; exact hrow) hc (small_words (by omega) 5 (by decide))
theorem copied84 (a:Option Addr) (n c:Nat) (g:List Ty) (w:World) (hg:Graph w (.slice a n c) g) (hn:n<=400) (hr:∀ i,i<n->rightB g (nth g i)=true) :
  Calls Tryz.prog 84 #[.slice a n c] w fun e w'=>∃ v,e=.returned v/\Ext w w'/\Graph (only w' (fromB w.heap.size)) v g:=by
 have hb:=(SlW.bound hg).2;obtain rfl:=SlW.len hg;have Hg:=dh hg; clear hg;have Hr:=dh hr; clear hr
 go_enter Tryz.func84,Tryz.ntmps84
 go_wp2_with fail;refine (clone116 a _ c g w Hg.out (by omega)).mono ?_;rintro e w1 ⟨v,rfl,hE,hgv,f,hf,hown⟩;by_cases h0:g.length=0
 ·have hs:=owns_slice hown;have HE:=dh hE;obtain ⟨va,vc,rfl⟩:=hs;have Hgr:=dh (show Graph (only w1 (fromB w.heap.size)) (.slice va g.length vc) g by
   rw [List.eq_nil_of_length_eq_zero h0];exact ⟨va,vc,rfl,by simp,by simp,fun i x hx=>by simp at hx⟩)
  clear hown hE hgv hf;have hz:¬ 0<g.length:=by omega
  clear h0;go_upto_region 3 with (fail);go_loopw [4,5,6,7,12] (fun _ _ _ _ i wr=>i=.int .i64 ((0:Nat):Int)/\wr=w1) (fun _ _ _ _ _ _=>0)
  case atStart=>exact ⟨rfl,rfl⟩
  case round =>
   obtain ⟨rfl,rfl⟩:=hrel;go_wp2_with fail;go_ret;exact ⟨_,rfl,HE.out,Hgr.out⟩
 obtain ⟨hlen,h⟩:=hown;rcases h with ⟨_,h1⟩ | ⟨g0,cap,cur,rfl,hbase,hrow,hnc,hcm,hcs,htake⟩
 ·exact absurd h1 h0
 have HI:=dh (show CpInv w w1 g0 cap 0 g g.length cur from ⟨hE,hbase,hrow,hcs,HalfRow.start hf htake⟩);clear hE hgv hf hrow hcs htake hlen hbase;unfold maxLen at hcm;go_upto_region 3 with (fail);go_loopw [4,5,6,7,12] (fun _ _ _ _ i wr=>∃ k:Nat,k<=g.length/\i=.int .i64 k/\Hid (∃ cur,CpInv w wr g0 cap k g g.length cur)) (fun _ _ _ _ i _=>g.length-(intOf i).toNat)
 case atStart=>exact ⟨0,Nat.zero_le _,rfl,_,HI.out⟩
 case round =>
  clear HI;obtain ⟨k,hk,rfl,hH⟩:=hrel;obtain ⟨cur,hI⟩:=hH.out;clear hH;by_cases hlt:k<g.length
  ·obtain ⟨cs,⟨pv,mv,ov,rfl,hp,hm,ho,hok⟩,_,hcs⟩:=hI.half.at hlt (by omega);have d7:=row_cell hI.row (hcs 7 _ rfl);have d8:=row_cell hI.row (hcs 8 _ rfl);have d9:=row_cell hI.row (hcs 9 _ rfl);obtain ⟨pa,pc,rfl,_⟩:=id hp;obtain ⟨ma,mc,rfl,_⟩:=id hm;obtain ⟨oa,oc,rfl,_⟩:=id ho;have hp1:=Parts.mono hI.ext hp;have hm1:=Meths.mono hI.ext hm;have ho1:=Overs.mono hI.ext ho;have hsm:=right_methods (Hr.out k hlt);have hl1:=right_parts (Hr.out k hlt);have hl2:=hsm.1;have hl3:=hsm.2.1;have HI:=dh hI;have Hw:=dh hI.ext;have Hcs:=dh hcs;have Hsm:=dh hsm.2.2;have Hok:=dh hok;have Hp:=dh hp1;have Hm:=dh hm1;have Hm0:=dh hm;have Ho:=dh ho1;clear hI hcs hsm hok hp1 hm1 ho1 hp hm ho;go_upto_region 6 with (fail);have HS:=dh (Ext.drew wr);refine wp_region_L [20,23,26] (Ext wr) (by kernel_rfl) ?_;change wpL _ _ _ _ _ _ _ _ _ (World.drew _);refine Yp 0 HS.out ?_;refine Yp 1 HS.out ?_;refine Yp 2 HS.out ?_;refine Yp 3 HS.out ?_;refine Yp 4 HS.out ?_;refine Yp 5 HS.out ?_;refine Yt 6 rfl (fun w9 hE=>by have d7E:=hE.cell d7; clear hE; first | (go_simp; done) | (go_simp; with_reducible rfl)) HS.out ?_;refine Yp 8 HS.out ?_;refine Yp 9 HS.out ?_;refine Yp 10 HS.out ?_;refine Yt 11 rfl (fun w9 hE=>by have d8E:=hE.cell d8; clear hE; first | (go_simp; done) | (go_simp; with_reducible rfl)) HS.out ?_;refine Yp 13 HS.out ?_;refine Yp 14 HS.out ?_;refine Yp 15 HS.out ?_;refine Yt 16 rfl (fun w9 hE=>by have d9E:=hE.cell d9; clear hE; first | (go_simp; done) | (go_simp; with_reducible rfl)) HS.out ?_;refine wpL_only (i:=7) rfl (by kernel_rfl) (fun K hK=>?_);go_simp;refine (clone117 _ _ _ _ _ (Parts.mono HS.out Hp.out) (by omega)).mono ?_;rintro e W1 ⟨v1,rfl,hE,_,f1,hf1,hown1⟩;obtain ⟨a1,c1,rfl⟩:=owns_slice hown1;have HO1:=dh hown1;have HF1:=dh hf1;clear hown1 hf1;have HE1:=dh ((Ext.drew wr).trans hE);have HS:=dh (HS.out.trans hE); clear hE;refine hK _ _ (fun _=>HS.out) ?_; clear hK K;refine wpL_only (i:=12) rfl (by kernel_rfl) (fun K hK=>?_);go_simp;refine (clone118b _ _ _ _ w _ (Hw.out.trans HS.out) Hm0.out (by omega)).mono ?_;rintro e W2 ⟨v2,rfl,hE,_,f2,hf2,hown2⟩;obtain ⟨a2,c2,rfl⟩:=owns_slice hown2;have HO2:=dh hown2;have HF2:=dh hf2;clear hown2 hf2;have HE2:=dh hE;have HS:=dh (HS.out.trans hE); clear hE;refine hK _ _ (fun _=>HS.out) ?_; clear hK K;refine wpL_only (i:=17) rfl (by kernel_rfl) (fun K hK=>?_);go_simp;refine (clone115 _ _ _ _ _ (Overs.mono HS.out Ho.out) (by omega)).mono ?_;rintro e W3 ⟨v3,rfl,hE,_,f3,hf3,hown3⟩;obtain ⟨a3,c3,rfl⟩:=owns_slice hown3;have HO3:=dh hown3;have HF3:=dh hf3;clear hown3 hf3;have HE3:=dh hE;have HS:=dh (HS.out.trans hE); clear hE;refine hK _ _ (fun _=>HS.out) ?_; clear hK K;refine Yp 18 HS.out ?_;refine Yp 19 HS.out ?_;have row3:=(CpInv.grow HI.out HS.out).row;have e7:=row_cell row3 (Hcs.out 7 _ rfl);have e8:=row_cell row3 (Hcs.out 8 _ rfl);have e9:=row_cell row3 (Hcs.out 9 _ rfl);have r7:=row_free row3 (k*10+7);have r8:=row_free row3 (k*10+8);have r9:=row_free row3 (k*10+9);clear row3 d7 d8 d9;refine wpL_only (i:=20) rfl (by kernel_rfl) (fun K hK=>?_);go_simp;refine hK _ _ (fun h=>Bool.noConfusion ((show early _ _=false by kernel_rfl).symm.trans h)) ?_; clear hK K;refine wpL_only (i:=21) rfl (by kernel_rfl) (fun K hK=>?_);go_simp;refine hK _ _ (fun h=>Bool.noConfusion ((show early _ _=false by kernel_rfl).symm.trans h)) ?_; clear hK K;refine wpL_only (i:=22) rfl (by kernel_rfl) (fun K hK=>?_);go_simp;refine hK _ _ (fun h=>Bool.noConfusion ((show early _ _=false by kernel_rfl).symm.trans h)) ?_; clear hK K;refine wpL_only (i:=23) rfl (by kernel_rfl) (fun K hK=>?_);go_simp;refine hK _ _ (fun h=>Bool.noConfusion ((show early _ _=false by kernel_rfl).symm.trans h)) ?_; clear hK K;refine wpL_only (i:=24) rfl (by kernel_rfl) (fun K hK=>?_);go_simp;refine hK _ _ (fun h=>Bool.noConfusion ((show early _ _=false by kernel_rfl).symm.trans h)) ?_; clear hK K;refine wpL_only (i:=25) rfl (by kernel_rfl) (fun K hK=>?_);go_simp;refine hK _ _ (fun h=>Bool.noConfusion ((show early _ _=false by kernel_rfl).symm.trans h)) ?_; clear hK K;refine wpL_only (i:=26) rfl (by kernel_rfl) (fun K hK=>?_);go_simp;refine hK _ _ (fun h=>Bool.noConfusion ((show early _ _=false by kernel_rfl).symm.trans h)) ?_; clear hK K;refine wpL_done (by kernel_rfl) ?_;obtain ⟨W4,hW4⟩:∃ W4:World,W4=((W3.setCell ⟨g0,k*10+7,none⟩ (.slice a1 (nth g k).parts.length c1)).setCell ⟨g0,k*10+8,none⟩ (.slice a2 (nth g k).methods.length c2)).setCell ⟨g0,k*10+9,none⟩ (.slice a3 (nth g k).overs.length c3):=⟨_,rfl⟩;rw [<- hW4];obtain ⟨g1,cur',hQ⟩:=CqInv.start HI.out hlt hnc (Hr.out k hlt) HE1.out (Nat.le_refl _) HO1.out HF1.out HE2.out (Nat.le_refl _) HO2.out HF2.out HE3.out (Nat.le_refl _) HO3.out HF3.out hW4 Hcs.out;clear hW4 HI HO1 HO2 HO3 HF1 HF2 HF3 HE1 HE2 HE3 HS Hp Hm Hm0 Ho e7 e8 e9 r7 r8 r9;have d8:=row_cell hQ.row (hQ.cells 8 _ rfl);have HQ:=dh hQ;clear hQ;go_upto_region 8 with (fail);clear d8;go_loopw [6,7,47] (fun _ _ i wx=>∃ d:Nat,d<=(nth g k).methods.length/\i=.int .i64 d/\Hid (CqInv w wx g0 cap k g1 d g cur' (.slice a1 (nth g k).parts.length c1) (.slice a2 (nth g k).methods.length c2) (.slice a3 (nth g k).overs.length c3) (nth g k).methods)) (fun _ _ i _=>(nth g k).methods.length-(intOf i).toNat)
   case atStart=>exact ⟨0,Nat.zero_le _,rfl,HQ.out⟩
   case round =>
    clear HQ;obtain ⟨d,hd,rfl,HQ⟩:=hrel;by_cases hdl:d<(nth g k).methods.length
    ·rcases HQ.out.meth with ⟨hz,_⟩ | ⟨hne,hb1,cq,curm,hmv,hcq,hrowm,hsm,hh⟩
     ·omega
     obtain ⟨cs,⟨av,rv,rfl,ha,hr1,hbd⟩,_,hcs⟩:=hh.at hdl (by omega);have d8:=row_cell HQ.out.row (HQ.out.cells 8 _ rfl);obtain ⟨rfl,rfl⟩:a2=some ⟨g1,0,none⟩/\c2=cq:=by cases hmv; exact ⟨rfl,rfl⟩
     obtain ⟨aa,ac,rfl,_⟩:=id ha;obtain ⟨ra,rc,rfl,_⟩:=id hr1;have d1:=row_cell hrowm (hcs 1 _ rfl);have d3:=row_cell hrowm (hcs 3 _ rfl);have hsg:=Hsm.out _ (nth_mem hdl);have hs6:=hsg.1;have hs7:=hsg.2;have Ha:=dh (Ints.mono HQ.out.ext ha);have Hr1:=dh (Strs.mono HQ.out.ext hr1);have Hmv:=dh hmv;have Hne:=dh hne;have Hrow:=dh hrowm;have Hsz:=dh hsm;have Hh:=dh hh;have Hcs:=dh hcs;have Hbd:=dh hbd;clear ha hr1 hmv hne hrowm hsm hh hcs hbd hsg;go_upto_region 11 with (fail);have HS:=dh (Ext.drew wr);refine wp_region_L [14,17] (Ext wr) (by kernel_rfl) ?_;change wpL _ _ _ _ _ _ _ _ _ (World.drew _);refine Yp 0 HS.out ?_;refine Yp 1 HS.out ?_;refine Yp 2 HS.out ?_;refine Yp 3 HS.out ?_;refine Yp 4 HS.out ?_;refine Yt 5 rfl (fun w9 hE=>by have d1E:=hE.cell d1; clear hE; first | (go_simp; done) | (go_simp; with_reducible rfl)) HS.out ?_;refine Yp 7 HS.out ?_;refine Yp 8 HS.out ?_;refine Yp 9 HS.out ?_;refine Yt 10 rfl (fun w9 hE=>by have d3E:=hE.cell d3; clear hE; first | (go_simp; done) | (go_simp; with_reducible rfl)) HS.out ?_;refine wpL_only (i:=6) rfl (by kernel_rfl) (fun K hK=>?_);go_simp;refine (clone119 _ _ _ _ _ (Ints.mono HS.out Ha.out) (by omega)).mono ?_;rintro e W1 ⟨x1,rfl,hE,_,f1,hf1,hown1⟩;obtain ⟨y1,z1,rfl⟩:=owns_slice hown1;have HO1:=dh hown1;have HF1:=dh hf1;have HE1:=dh ((Ext.drew wr).trans hE);clear hown1 hf1;have HS:=dh (HS.out.trans hE); clear hE;refine hK _ _ (fun _=>HS.out) ?_; clear hK K;refine wpL_only (i:=11) rfl (by kernel_rfl) (fun K hK=>?_);go_simp;refine (clone114 _ _ _ _ _ (Strs.mono HS.out Hr1.out) (by omega)).mono ?_;rintro e W2 ⟨x2,rfl,hE,_,f2,hf2,hown2⟩;obtain ⟨y2,z2,rfl⟩:=owns_slice hown2;have HO2:=dh hown2;have HF2:=dh hf2;have HE2:=dh hE;clear hown2 hf2;have HS:=dh (HS.out.trans hE); clear hE;refine hK _ _ (fun _=>HS.out) ?_; clear hK K;refine Yp 12 HS.out ?_;refine Yp 13 HS.out ?_;have row2:=(HS.out.block g1 (row_lt Hrow.out)).trans Hrow.out;have e1:=row_cell row2 (Hcs.out 1 _ rfl);have e3:=row_cell row2 (Hcs.out 3 _ rfl);have r1:=row_free row2 (d*5+1);have r3:=row_free row2 (d*5+3);clear row2 d1 d3 d8;refine wpL_only (i:=14) rfl (by kernel_rfl) (fun K hK=>?_);go_simp;refine hK _ _ (fun h=>Bool.noConfusion ((show early _ _=false by kernel_rfl).symm.trans h)) ?_; clear hK K;refine wpL_only (i:=15) rfl (by kernel_rfl) (fun K hK=>?_);go_simp;refine hK _ _ (fun h=>Bool.noConfusion ((show early _ _=false by kernel_rfl).symm.trans h)) ?_; clear hK K;refine wpL_only (i:=16) rfl (by kernel_rfl) (fun K hK=>?_);go_simp;refine hK _ _ (fun h=>Bool.noConfusion ((show early _ _=false by kernel_rfl).symm.trans h)) ?_; clear hK K;refine wpL_only (i:=17) rfl (by kernel_rfl) (fun K hK=>?_);go_simp;refine hK _ _ (fun h=>Bool.noConfusion ((show early _ _=false by kernel_rfl).symm.trans h)) ?_; clear hK K;refine wpL_done (by kernel_rfl) ?_;obtain ⟨W3,hW3⟩:∃ W3:World,W3=(W2.setCell ⟨g1,d*5+1,none⟩ (.slice y1 (nth (nth g k).methods d).sig.args.length z1)).setCell ⟨g1,d*5+3,none⟩ (.slice y2 (nth (nth g k).methods d).sig.raises.length z2):=⟨_,rfl⟩;rw [<- hW3];have HQ3:=dh (CqInv.step HQ.out hdl hs6 hs7 HE1.out (Nat.le_refl _) HO1.out HF1.out HE2.out (Nat.le_refl _) HO2.out HF2.out hW3 Hmv.out Hne.out hb1 hcq Hrow.out Hsz.out Hh.out Hcs.out Hbd.out);clear hW3 HQ HO1 HO2 HF1 HF2 HE1 HE2 HS Hrow Hh Hcs e1 e3 r1 r3;go_wp2_with fail;go_roundw
     case rel=>exact ⟨d+1,by omega,by go_num,HQ3.out⟩
     case measure=>simp [intOf]; omega
    ·have:d=(nth g k).methods.length:=by omega
     subst this;have HD:=dh (CqInv.done HQ.out Hok.out (Hr.out k hlt));go_wp2_with fail;go_roundw
     case rel=>exact ⟨k+1,by omega,by go_num,_,HD.out⟩
     case measure=>simp [intOf]; omega
  ·have:k=g.length:=by omega
   subst this;have hb1:(fromB w.heap.size g0)=true:=by unfold fromB; simpa using hI.base
   have Hgr:=dh (RowOf.slice (w:=only wr (fromB w.heap.size)) (T:=50) (R:=IsTy) (c:=cap) (hI.half.mono (fun _ _ hx=>IsTy.le (only_only (fun j hj=>by unfold fromB1 at hj; unfold fromB; rw [Bool.and_eq_true] at hj; exact hj.1)) hx)).done (by rw [only_see hb1]; exact hI.row) hnc (small_words (by omega) 10 (by decide)));have HE:=dh hI.ext;clear hI hb1;go_wp2_with fail;go_ret;exact ⟨_,rfl,HE.out,Hgr.out⟩
end Go.Proofs.YtjffkeoajkhbmaaGreat
