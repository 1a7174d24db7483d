/- Plain data and the plain functions that the checking of a graph of types computes; no program here. How the data lie in memory: slices of numbers, strings and structs, and that what is read stays as memory grows. Maps of the call's own with plain keys, as lists of pairs: what a look-up and a store do. -/
import GoSem.Op.String
import Derived.Test.YtjffkeoajkhbmaaGreatProg
import Derived.WalkKit
import Derived.WalkSpells
import Derived.WalkLawsBesides
import Derived.Outline
import Derived.Lib.Hide
import Derived.Shelf.Abstract
import Derived.Deep.LoopGhost
import Derived.Deep.QuietTactic
import Derived.BigQuiet
import Derived.Maps.AppendAt
import Derived.Maps.Own
import Derived.Maps.OwnOps
import Derived.Laws.MakeOwn
import Derived.Laws.OwnMore
import Derived.Deep.DeepCutAuto
namespace Go.Proofs.YtjffkeoajkhbmaaGreat
set_option linter.unusedSimpArgs false
set_option linter.unusedVariables false
set_option maxRecDepth 100000
set_option maxHeartbeats 8000000
section
abbrev BA:=ByteArray
theorem ba_ext {a b:BA} (h:a.data=b.data):a=b:=by cases a; cases b; cases h; rfl
theorem ba_beq (a b:BA):(a==b)=decide (a=b):=by
 apply Bool.eq_iff_iff.2;have:(a==b)=(a.data==b.data):=rfl;rw [this];simp only [beq_iff_eq,decide_eq_true_eq];exact ⟨ba_ext,fun h=>by rw [h]⟩
instance:LawfulBEq BA where
 eq_of_beq:=fun {a b} h=>by rw [ba_beq] at h; exact of_decide_eq_true h
 rfl:=fun {a}=>by rw [ba_beq]; simp
structure Sig where
 args:List Int
 result:Int
 raises:List BA
structure Meth where
 name:BA
 sig:Sig
 proc:BA
structure Part where
 name:BA
 type:Int
structure Over where
 name:BA
 proc:BA
structure Ty where
 kind:Int
 low:Int
 high:Int
 branded:Bool
 brand:BA
 opq:BA
 super:Int
 parts:List Part
 methods:List Meth
 overs:List Over
structure Reveal where
 name:BA
 full:Bool
 type:Int
def nth {α:Type} [Inhabited α] (xs:List α) (i:Nat):α:=xs.getD i default
theorem get_of_lt {α:Type} [Inhabited α] {xs:List α} {i:Nat} (h:i<xs.length):xs[i]? = some (nth xs i):=by
 rw [nth,List.getD_eq_getElem?_getD,List.getElem?_eq_getElem h]; rfl
theorem nth_eq {α:Type} [Inhabited α] {xs:List α} {i:Nat} (h:i<xs.length):nth xs i=xs[i]:=by
 rw [nth,List.getD_eq_getElem?_getD,List.getElem?_eq_getElem h]; rfl
theorem nth_mem {α:Type} [Inhabited α] {xs:List α} {i:Nat} (h:i<xs.length):nth xs i∈xs:=by rw [nth_eq h]; exact List.getElem_mem h
theorem range_map_nth {α:Type} [Inhabited α] (xs:List α):(List.range xs.length).map (nth xs)=xs:=by
 apply List.ext_getElem (by simp);intro i h1 h2;simp [nth_eq h2]
theorem any_range {α:Type} [Inhabited α] (xs:List α) (p:α->Bool):((List.range xs.length).any fun i=>p (nth xs i))=xs.any p:=by
 conv=>rhs; rw [<- range_map_nth xs]
 rw [List.any_map]; rfl
theorem take_snoc {α:Type} [Inhabited α] {xs:List α} {k:Nat} (h:k<xs.length):xs.take (k+1)=xs.take k++[nth xs k]:=by
 rw [List.take_succ_eq_append_getElem h,nth_eq h]
def idxI {α:Type} (p:α->Bool) (xs:List α):Int:=match xs.findIdx? p with | some k=>k | none=>-1
theorem idxI_none {α:Type} [Inhabited α] {p:α->Bool} {xs:List α} (h:∀ i,i<xs.length->p (nth xs i)=false):idxI p xs=-1:=by
 have:xs.findIdx? p=none:=by
  rw [List.findIdx?_eq_none_iff];intro x hx;obtain ⟨i,hi,rfl⟩:=List.getElem_of_mem hx;rw [<- nth_eq hi]; exact h i hi
 rw [idxI,this]
theorem idxI_some {α:Type} [Inhabited α] {p:α->Bool} {xs:List α} {k:Nat} (hk:k<xs.length) (h1:p (nth xs k)=true) (h:∀ i,i<k->p (nth xs i)=false):idxI p xs=k:=by
 have:xs.findIdx? p=some k:=by
  rw [List.findIdx?_eq_some_iff_getElem];refine ⟨hk,by rw [<- nth_eq hk]; exact h1,fun j hj=>?_⟩;have:=h j hj;rw [nth_eq (by omega)] at this;simp [this]
 rw [idxI,this]
theorem idxI_any {α:Type} (p:α->Bool) (xs:List α):decide (0<=idxI p xs)=xs.any p:=by
 unfold idxI;cases h:xs.findIdx? p with
 | none =>
  rw [List.findIdx?_eq_none_iff] at h;have:xs.any p=false:=by simp only [List.any_eq_false]; intro x hx; simp [h x hx]
  rw [this]; rfl
 | some k =>
  rw [List.findIdx?_eq_some_iff_getElem] at h;obtain ⟨hk,h1,_⟩:=h;have:xs.any p=true:=by simp only [List.any_eq_true]; exact ⟨_,List.getElem_mem hk,h1⟩
  rw [this];simp
def sameB {α:Type} (eq:α->α->Bool):List α->List α->Bool
 | [],[]=>true
 | x :: xs,y :: ys=>eq x y&&sameB eq xs ys
 | _,_=>false
theorem sameB_len {α:Type} {eq:α->α->Bool}:∀ {xs ys:List α},sameB eq xs ys=true->xs.length=ys.length
 | [],[],_=>rfl
 | x :: xs,y :: ys,h=>by simp only [sameB,Bool.and_eq_true] at h; simp [sameB_len h.2]
 | [],_ :: _,h=>by simp [sameB] at h
 | _ :: _,[],h=>by simp [sameB] at h
theorem sameB_of_len {α:Type} {eq:α->α->Bool} {xs ys:List α} (h:xs.length≠ys.length):sameB eq xs ys=false:=by
 cases hb:sameB eq xs ys with
 | false=>rfl
 | true=>exact absurd (sameB_len hb) h
theorem sameB_iff {α:Type} [Inhabited α] {eq:α->α->Bool}:∀ {xs ys:List α},xs.length=ys.length->(sameB eq xs ys=true↔∀ i,i<xs.length->eq (nth xs i) (nth ys i)=true)
 | [],[],_=>by simp [sameB]
 | x :: xs,y :: ys,h=>by
  have h':xs.length=ys.length:=by simpa using h
  simp only [sameB,Bool.and_eq_true,sameB_iff h'];constructor
  ·rintro ⟨h1,h2⟩ i hi;cases i with
   | zero=>exact h1
   | succ i=>exact h2 i (by simpa using hi)
  ·intro h1;exact ⟨h1 0 (by simp),fun i hi=>h1 (i+1) (by simpa using hi)⟩
 | [],_ :: _,h=>by simp at h
 | _ :: _,[],h=>by simp at h
theorem sameB_true {α:Type} [Inhabited α] {eq:α->α->Bool} {xs ys:List α} (hl:xs.length=ys.length) (h:∀ i,i<xs.length->eq (nth xs i) (nth ys i)=true):sameB eq xs ys=true:=(sameB_iff hl).2 h
theorem sameB_false {α:Type} [Inhabited α] {eq:α->α->Bool} {xs ys:List α} (hl:xs.length=ys.length) {i:Nat} (hi:i<xs.length) (h:eq (nth xs i) (nth ys i)=false):sameB eq xs ys=false:=by
 cases hb:sameB eq xs ys with
 | false=>rfl
 | true=>rw [(sameB_iff hl).1 hb i hi] at h; cases h
instance:Inhabited Sig:=⟨⟨[],0,[]⟩⟩
instance:Inhabited Meth:=⟨⟨ByteArray.empty,default,ByteArray.empty⟩⟩
instance:Inhabited Part:=⟨⟨ByteArray.empty,0⟩⟩
instance:Inhabited Over:=⟨⟨ByteArray.empty,ByteArray.empty⟩⟩
instance:Inhabited Ty:=⟨⟨0,0,0,false,ByteArray.empty,ByteArray.empty,0,[],[],[]⟩⟩
instance:Inhabited Reveal:=⟨⟨ByteArray.empty,false,0⟩⟩
def isLetterB (b:UInt8):Bool:=(65<=b.toNat&&b.toNat<=90)||(97<=b.toNat&&b.toNat<=122)
def isDigitB (b:UInt8):Bool:=48<=b.toNat&&b.toNat<=57
def isNameB (s:BA):Bool:=(1<=s.size&&s.size<=12)&&isLetterB (s.data.toList.getD 0 0)&&s.data.toList.all fun b=>isLetterB b||isDigitB b
def dotAt (s:BA):Option Nat:=s.data.toList.findIdx? (·==46)
def isSymbolB (s:BA):Bool :=
 match dotAt s with
 | none=>false
 | some i=>isNameB (s.extract 0 i)&&isNameB (s.extract (i+1) s.size)
def isBrandB (s:BA):Bool:=s.size<=20&&s.data.toList.all fun b=>32<=b.toNat&&b.toNat<=126&&b.toNat != 34
def hasI (n:Nat) (i:Int):Bool:=decide (0<=i)&&decide (i<n)
def differentB (names:List BA) (most:Nat):Bool:=names.all isNameB&&decide names.Nodup&&decide (names.length<=most)
def strLt (a b:BA):Bool:=Op.bytesLess a.toList b.toList
def alerted:BA:=⟨#[65,76,69,82,84,69,68]⟩
def raiseB (rs:List BA) (i:Nat):Bool:=(nth rs i==alerted||isSymbolB (nth rs i))&&(i==0||strLt (nth rs (i-1)) (nth rs i))
def raisesB (rs:List BA):Bool:=(List.range rs.length).all (raiseB rs)
def signedB (n:Nat) (s:Sig):Bool :=
 decide (s.args.length<=6)&&decide (s.raises.length<=6)&&(s.result==-1||hasI n s.result)&&s.args.all (hasI n)&&raisesB s.raises
def overB (g:List Ty) (i:Int) (kinds:List Int):Bool:=hasI g.length i&&kinds.contains (nth g i.toNat).kind
def objectB (g:List Ty) (x:Ty):Bool :=
 (x.methods.all fun m=>signedB g.length m.sig&&(m.proc.size==0||isSymbolB m.proc))&&(x.overs.all fun o=>isSymbolB o.proc) &&
 differentB (x.methods.map (·.name)) 8&&differentB (x.overs.map (·.name)) 8&&overB g x.super [12,6,7,8,13]
def brandedB (g:List Ty) (x:Ty):Bool :=
 isBrandB x.brand&&(x.branded||x.brand.size==0)&&x.parts.all fun p=>hasI g.length p.type
def heldB (g:List Ty) (x:Ty):Bool:=brandedB g x&&(match x.parts with | [p]=>p.name.size==0 | _=>false)
def recordedB (g:List Ty) (x:Ty):Bool:=brandedB g x&&decide (0<x.parts.length)&&differentB (x.parts.map (·.name)) 8
def objectsB (g:List Ty) (x:Ty):Bool:=brandedB g x&&differentB (x.parts.map (·.name)) 8&&objectB g x
def opqB (g:List Ty) (x:Ty):Bool:=isSymbolB x.opq&&overB g x.super [12,6,7,8,13,4]
def rangedB (x:Ty):Bool:=decide (-1000000000<=x.low)&&decide (x.low<=x.high)&&decide (x.high<=1000000000)
def noNums (x:Ty):Bool:=x.low==0&&x.high==0
def noBrand (x:Ty):Bool:=!x.branded&&x.brand.size==0
def noParts (x:Ty):Bool:=x.parts.length==0
def noRows (x:Ty):Bool:=x.methods.length==0&&x.overs.length==0
def noOpq (x:Ty):Bool:=x.opq.size==0
def noSuper (x:Ty):Bool:=x.super==0
def rightB (g:List Ty) (x:Ty):Bool :=
 if x.kind=3 then rangedB x&&noBrand x&&noOpq x&&noSuper x&&noParts x&&noRows x
 else if x.kind=9\/x.kind=11 then heldB g x&&noNums x&&noOpq x&&noSuper x&&noRows x
 else if x.kind=10 then recordedB g x&&noNums x&&noOpq x&&noSuper x&&noRows x
 else if x.kind=12 then objectsB g x&&noNums x&&noOpq x
 else if x.kind=13 then opqB g x&&noNums x&&noBrand x&&noParts x&&noRows x
 else if 1<=x.kind/\x.kind<=8 then noNums x&&noBrand x&&noOpq x&&noSuper x&&noParts x&&noRows x
 else false
def hasSuperB (k:Int):Bool:=k==12||k==13
def ringB (g:List Ty) (i:Nat):Nat->Nat->Bool
 | 0,_=>false
 | n+1,at_=>if hasSuperB (nth g at_).kind then (if (nth g at_).super.toNat=i then true else ringB g i n (nth g at_).super.toNat) else false
def checkB (g:List Ty):Nat × Int :=
 if 400<g.length then (400,30) else
 match (List.range g.length).find? fun i=>!rightB g (nth g i) with
 | some i=>(i,30)
 | none=>match (List.range g.length).find? fun i=>ringB g i g.length i with
  | some i=>(i,30)
  | none=>(0,0)
def refsOf (x:Ty):List Int :=
 (if hasSuperB x.kind then [x.super] else [])++x.parts.map (·.type) ++
 (x.methods.map fun m=>m.sig.args++(if 0<=m.sig.result then [m.sig.result] else [])).flatten
end
section
open Go.RowKit Go.Proofs
theorem nm:(∀ (α:Type) (l:List α) (i:Nat) (h:i<l.toArray.size),l.toArray[i]=l[i]'(by simpa using h))/\(∀ (α:Type) (a:α) (l:List α) (i:Nat) (h:i+1<(a :: l).length),(a :: l)[i+1]=l[i]'(by simpa using h)) /\
  (∀ (α:Type) (a:α) (l:List α) (h:0<(a :: l).length),(a :: l)[0]=a)/\(∀ (α:Type) (l:List α) (i:Nat) (a:α),l.toArray.setIfInBounds i a=(l.set i a).toArray) /\
  (∀ (α:Type) (a b:α) (l:List α),(a :: l).set 0 b=b :: l)/\(∀ (α:Type) (a b:α) (l:List α) (i:Nat),(a :: l).set (i+1) b=a :: l.set i b) :=
 ⟨fun _ _ _ _=>rfl,fun _ _ _ _ _=>rfl,fun _ _ _ _=>rfl,fun _ _ _ _=>by simp,fun _ _ _ _=>rfl,fun _ _ _ _ _=>rfl⟩
abbrev Ext (w w':World):Prop:=Below w.heap.size w w'
theorem Ext.refl (w:World):Ext w w:=Below.refl _ _
theorem Ext.trans {a b c:World} (h:Ext a b) (k:Ext b c):Ext a c:=Below.trans h (Below.mono k h.size)
theorem Ext.below {n:Nat} {a b c:World} (h:Below n a b) (hn:n<=b.heap.size) (k:Ext b c):Below n a c:=Below.trans h (Below.mono k hn)
theorem Ext.alloc (w:World) (o:Obj):Ext w (w.alloc o):=(Below.refl _ _).alloc (Nat.le_refl _) o
theorem Ext.drew (w:World):Ext w w.drew:=(Below.refl _ _).drew
theorem cell_lt {w:World} {a:Addr} {v:Value} (h:w.cell? a=some v):a.block<w.heap.size:=World.block_lt_of_cell? w a h
theorem Ext.cell {w w':World} (h:Ext w w') {a:Addr} {v:Value} (hc:w.cell? a=some v):w'.cell? a=some v :=
 (Below.cell h (cell_lt hc)).trans hc
theorem cell_new (w:World) (cs:Array Value) (T:TypeId) (j:Nat) (v:Value) (h:cs[j]? = some v):(w.alloc (.cells cs T)).cell? ⟨w.heap.size,j,none⟩=some v:=by
 unfold World.cell?;rw [show (w.alloc (.cells cs T)).heap[(⟨w.heap.size,j,none⟩:Addr).block]? = some (.cells cs T) from heap_alloc_new w _];exact h
theorem cell_new1 (w:World) (v:Value) (T:TypeId):(w.alloc (.cells #[v] T)).cell? ⟨w.heap.size,0,none⟩=some v:=cell_new w _ T 0 v rfl
theorem frozen_new (w:World) (cs:Array Value) (T:TypeId) (j:Nat):(w.alloc (.cells cs T)).frozen? ⟨w.heap.size,j,none⟩=false:=by
 unfold World.frozen?;rw [show (w.alloc (.cells cs T)).heap[(⟨w.heap.size,j,none⟩:Addr).block]? = some (.cells cs T) from heap_alloc_new w _];simp
def maxBytes:Nat:=140737488351232
def SlW {α:Type} (R:World->α->List Value->Prop) (sz:Nat) (w:World) (v:Value) (xs:List α):Prop :=
 ∃ a c,v=.slice a xs.length c/\xs.length<=c/\xs.length*(8*sz)<=maxBytes /\
  ∀ i x,xs[i]? = some x->∃ b off cs,a=some ⟨b,off,none⟩/\R w x cs/\cs.length=sz/\∀ j u,cs[j]? = some u->w.cell? ⟨b,off+i*sz+j,none⟩=some u
theorem SlW.mono {α:Type} {R:World->α->List Value->Prop} {sz:Nat} {w w':World} {v:Value} {xs:List α} (hR:∀ x cs,R w x cs->R w' x cs) (hE:Ext w w')
  (h:SlW R sz w v xs):SlW R sz w' v xs:=by
 obtain ⟨a,c,hv,hl,hc,hx⟩:=h;refine ⟨a,c,hv,hl,hc,fun i x hi=>?_⟩;obtain ⟨b,off,cs,ha,hr,hlen,hcell⟩:=hx i x hi;exact ⟨b,off,cs,ha,hR x cs hr,hlen,fun j u hu=>hE.cell (hcell j u hu)⟩
theorem SlW.nil {α:Type} (R:World->α->List Value->Prop) (sz:Nat) (w:World):SlW R sz w (.slice none 0 0) [] :=
 ⟨none,0,rfl,Nat.le_refl _,by simp,fun i x h=>by simp at h⟩
def IsInt (_:World) (x:Int) (cs:List Value):Prop:=cs=[.int .i64 x]/\-9223372036854775808<=x/\x<=9223372036854775807
def IsStr (_:World) (s:BA) (cs:List Value):Prop:=cs=[.string s]/\s.size<=maxBytes
def IsPart (_:World) (p:Part) (cs:List Value):Prop:=cs=[.string p.name,.int .i64 p.type]/\p.name.size<=maxBytes/\-9223372036854775808<=p.type/\p.type<=9223372036854775807
def IsOver (_:World) (p:Over) (cs:List Value):Prop:=cs=[.string p.name,.string p.proc]/\p.name.size<=maxBytes/\p.proc.size<=maxBytes
def IsReveal (_:World) (p:Reveal) (cs:List Value):Prop:=cs=[.string p.name,.bool p.full,.int .i64 p.type]/\p.name.size<=maxBytes/\-9223372036854775808<=p.type/\p.type<=9223372036854775807
def IsU8 (_:World) (x:Int) (cs:List Value):Prop:=cs=[.int .u8 x]
abbrev Ints:=SlW IsInt 1
abbrev U8s:=SlW IsU8 1
abbrev Strs:=SlW IsStr 1
abbrev Parts:=SlW IsPart 2
abbrev Overs:=SlW IsOver 2
abbrev Reveals:=SlW IsReveal 3
def IsMeth (w:World) (m:Meth) (cs:List Value):Prop :=
 ∃ av rv,cs=[.string m.name,av,.int .i64 m.sig.result,rv,.string m.proc]/\Ints w av m.sig.args/\Strs w rv m.sig.raises/\-9223372036854775808<=m.sig.result/\m.sig.result<=9223372036854775807 /\
  m.name.size<=maxBytes/\m.proc.size<=maxBytes
abbrev Meths:=SlW IsMeth 5
structure TyOk (t:Ty):Prop where
 k0:0<=t.kind
 k1:t.kind<=255
 l0:-9223372036854775808<=t.low
 l1:t.low<=9223372036854775807
 h0:-9223372036854775808<=t.high
 h1:t.high<=9223372036854775807
 s0:-9223372036854775808<=t.super
 s1:t.super<=9223372036854775807
 b:t.brand.size<=maxBytes
 o:t.opq.size<=maxBytes
def tyCells (t:Ty) (pv mv ov:Value):List Value :=
 [.int .u8 t.kind,.int .i64 t.low,.int .i64 t.high,.bool t.branded,.string t.brand,.string t.opq,.int .i64 t.super,pv,mv,ov]
def IsTy (w:World) (t:Ty) (cs:List Value):Prop :=
 ∃ pv mv ov,cs=tyCells t pv mv ov/\Parts w pv t.parts/\Meths w mv t.methods/\Overs w ov t.overs/\TyOk t
abbrev Graph:=SlW IsTy 10
theorem Ints.mono {w w':World} {v:Value} {xs:List Int} (hE:Ext w w') (h:Ints w v xs):Ints w' v xs:=SlW.mono (w:=w) (fun _ _ h=>h) hE h
theorem U8s.mono {w w':World} {v:Value} {xs:List Int} (hE:Ext w w') (h:U8s w v xs):U8s w' v xs:=SlW.mono (w:=w) (fun _ _ h=>h) hE h
theorem Strs.mono {w w':World} {v:Value} {xs:List BA} (hE:Ext w w') (h:Strs w v xs):Strs w' v xs:=SlW.mono (w:=w) (fun _ _ h=>h) hE h
theorem Parts.mono {w w':World} {v:Value} {xs:List Part} (hE:Ext w w') (h:Parts w v xs):Parts w' v xs:=SlW.mono (w:=w) (fun _ _ h=>h) hE h
theorem Overs.mono {w w':World} {v:Value} {xs:List Over} (hE:Ext w w') (h:Overs w v xs):Overs w' v xs:=SlW.mono (w:=w) (fun _ _ h=>h) hE h
theorem Reveals.mono {w w':World} {v:Value} {xs:List Reveal} (hE:Ext w w') (h:Reveals w v xs):Reveals w' v xs:=SlW.mono (w:=w) (fun _ _ h=>h) hE h
theorem Meths.mono {w w':World} {v:Value} {xs:List Meth} (hE:Ext w w') (h:Meths w v xs):Meths w' v xs :=
 SlW.mono (fun _ _ ⟨av,rv,e,h1,h2,h3⟩=>⟨av,rv,e,Ints.mono hE h1,Strs.mono hE h2,h3⟩) hE h
theorem IsTy.mono {w w':World} {t:Ty} {cs:List Value} (hE:Ext w w') (h:IsTy w t cs):IsTy w' t cs :=
 let ⟨pv,mv,ov,e,h1,h2,h3,h4⟩:=h
 ⟨pv,mv,ov,e,Parts.mono hE h1,Meths.mono hE h2,Overs.mono hE h3,h4⟩
theorem Graph.mono {w w':World} {v:Value} {xs:List Ty} (hE:Ext w w') (h:Graph w v xs):Graph w' v xs:=SlW.mono (fun _ _ h=>IsTy.mono hE h) hE h
theorem owns_ext {w w':World} {base:Nat} {e:TypeId} {size:Nat} {v:Value} {n:Nat} {xs:List Value} (h:w.ownsRow base e size v n xs) (hE:Ext w w'):w'.ownsRow base e size v n xs :=
 h.kept (row:=none) ⟨hE.os,hE.tape,hE.output,hE.size,fun j hj _=>hE.block j hj⟩ (by cases hv:v.ownBlock <;> simp)
theorem below_grown {B:Nat} {w w2 w3:World} {o:Obj} {e:TypeId} {size:Nat} {v:Value} {n:Nat} {xs:List Value} (hE:Below B w w2) (hB:B<=w2.heap.size) (h:w2.ownsRow B e size v n xs)
  (hg:(w2.alloc o).grownBy w3 v.ownBlock):Below B w w3 :=
 Below.grown (hE.alloc hB o) hg (by simp; omega) (fun k hk=>(h.lt k hk).1)
theorem range_snoc {β:Type} (g:Nat->β) (k:Nat):(List.range (k+1)).map g=(List.range k).map g++[g k]:=by
 rw [List.range_succ,List.map_append]; rfl
theorem info9:(Tryz.prog.info? 9).map (fun i=>(i.zero,i.size,i.bytes))=some (some (.string ⟨#[]⟩),1,16):=by kernel_rfl
theorem info3:(Tryz.prog.info? 3).map (fun i=>(i.zero,i.size,i.bytes))=some (some (.int .i64 0),1,8):=by kernel_rfl
theorem owns_ints {w:World} {base:Nat} {v:Value} {n:Nat} {l:List Int} (h:w.ownsRow base 3 1 v n (l.map (Value.int .i64))) (hn:n*8<=maxBytes)
  (hb:∀ x,x∈l->-9223372036854775808<=x/\x<=9223372036854775807):Ints w v l:=by
 obtain ⟨hlen,h⟩:=h;have hl:l.length=n:=by simpa using hlen
 rcases h with ⟨rfl,rfl⟩ | ⟨g,cap,cur,rfl,_,hg,hnc,_,hcs,htake⟩
 ·have:l=[]:=List.eq_nil_of_length_eq_zero hl;subst this;exact SlW.nil _ _ _
 ·refine ⟨some ⟨g,0,none⟩,cap,by rw [hl],by omega,by omega,fun i x hi=>⟨g,0,[.int .i64 x],rfl,⟨rfl,hb x (List.mem_of_getElem? hi)⟩,rfl,fun j u hu=>?_⟩⟩
  match j,hu with
  | 0,hu =>
   simp at hu; subst hu;have hil:i<l.length:=(List.getElem?_eq_some_iff.1 hi).1;have:=congrArg (fun z=>z[i]?) htake;simp only [List.getElem?_take,List.getElem?_map,hi,Option.map_some] at this;rw [if_pos (by omega)] at this;rw [Nat.zero_add,Nat.mul_one,Nat.add_zero,cell_of_row w g i cur 3 (0,0) hg]
   simpa using this
theorem owns_strs {w:World} {base:Nat} {v:Value} {n:Nat} {l:List BA} (h:w.ownsRow base 9 1 v n (l.map Value.string)) (hn:n*8<=maxBytes)
  (hb:∀ x,x∈l->x.size<=maxBytes):Strs w v l:=by
 obtain ⟨hlen,h⟩:=h;have hl:l.length=n:=by simpa using hlen
 rcases h with ⟨rfl,rfl⟩ | ⟨g,cap,cur,rfl,_,hg,hnc,_,hcs,htake⟩
 ·have:l=[]:=List.eq_nil_of_length_eq_zero hl;subst this;exact SlW.nil _ _ _
 ·refine ⟨some ⟨g,0,none⟩,cap,by rw [hl],by omega,by omega,fun i x hi=>⟨g,0,[.string x],rfl,⟨rfl,hb x (List.mem_of_getElem? hi)⟩,rfl,fun j u hu=>?_⟩⟩
  match j,hu with
  | 0,hu =>
   simp at hu; subst hu;have hil:i<l.length:=(List.getElem?_eq_some_iff.1 hi).1;have:=congrArg (fun z=>z[i]?) htake;simp only [List.getElem?_take,List.getElem?_map,hi,Option.map_some] at this;rw [if_pos (by omega)] at this;rw [Nat.zero_add,Nat.mul_one,Nat.add_zero,cell_of_row w g i cur 9 (0,0) hg]
   simpa using this
theorem SlW.at {α:Type} [Inhabited α] {R:World->α->List Value->Prop} {sz:Nat} {w:World} {a:Option Addr} {n c:Nat} {xs:List α} (h:SlW R sz w (.slice a n c) xs) {i:Nat} (hi:i<n) :
  ∃ b off cs,a=some ⟨b,off,none⟩/\R w (nth xs i) cs/\cs.length=sz/\∀ j u,cs[j]? = some u->w.cell? ⟨b,off+i*sz+j,none⟩=some u:=by
 obtain ⟨a',c',hv,_,_,hx⟩:=h;cases hv;exact hx i _ (get_of_lt hi)
theorem SlW.len {α:Type} {R:World->α->List Value->Prop} {sz:Nat} {w:World} {a:Option Addr} {n c:Nat} {xs:List α} (h:SlW R sz w (.slice a n c) xs):n=xs.length:=by
 obtain ⟨a',c',hv,_⟩:=h; cases hv; rfl
theorem SlW.bound {α:Type} {R:World->α->List Value->Prop} {sz:Nat} {w:World} {a:Option Addr} {n c:Nat} {xs:List α} (h:SlW R sz w (.slice a n c) xs):n<=c/\n*(8*sz)<=140737488351232:=by
 obtain ⟨a',c',hv,h1,h2,_⟩:=h; cases hv; exact ⟨h1,h2⟩
theorem Ints.at {w:World} {a:Option Addr} {n c:Nat} {xs:List Int} (h:Ints w (.slice a n c) xs) {i:Nat} (hi:i<n) :
  ∃ b off,a=some ⟨b,off,none⟩/\b<w.heap.size/\w.cell? ⟨b,off+i,none⟩=some (.int .i64 (nth xs i))/\-9223372036854775808<=nth xs i/\nth xs i<=9223372036854775807:=by
 obtain ⟨b,off,cs,ha,⟨rfl,h1,h2⟩,_,hc⟩:=SlW.at h hi;have:=hc 0 _ rfl;simp only [Nat.mul_one,Nat.add_zero] at this;exact ⟨b,off,ha,cell_lt this,this,h1,h2⟩
theorem U8s.at {w:World} {a:Option Addr} {n c:Nat} {xs:List Int} (h:U8s w (.slice a n c) xs) {i:Nat} (hi:i<n) :
  ∃ b off,a=some ⟨b,off,none⟩/\b<w.heap.size/\w.cell? ⟨b,off+i,none⟩=some (.int .u8 (nth xs i)):=by
 obtain ⟨b,off,cs,ha,rfl,_,hc⟩:=SlW.at h hi;have:=hc 0 _ rfl;simp only [Nat.mul_one,Nat.add_zero] at this;exact ⟨b,off,ha,cell_lt this,this⟩
theorem Strs.at {w:World} {a:Option Addr} {n c:Nat} {xs:List BA} (h:Strs w (.slice a n c) xs) {i:Nat} (hi:i<n) :
  ∃ b off,a=some ⟨b,off,none⟩/\b<w.heap.size/\w.cell? ⟨b,off+i,none⟩=some (.string (nth xs i))/\(nth xs i).size<=140737488351232:=by
 obtain ⟨b,off,cs,ha,⟨rfl,h1⟩,_,hc⟩:=SlW.at h hi;have:=hc 0 _ rfl;simp only [Nat.mul_one,Nat.add_zero] at this;exact ⟨b,off,ha,cell_lt this,this,h1⟩
theorem Parts.at {w:World} {a:Option Addr} {n c:Nat} {xs:List Part} (h:Parts w (.slice a n c) xs) {i:Nat} (hi:i<n) :
  ∃ b off,a=some ⟨b,off,none⟩/\b<w.heap.size/\w.cell? ⟨b,off+i*2,none⟩=some (.string (nth xs i).name)/\w.cell? ⟨b,off+i*2+1,none⟩=some (.int .i64 (nth xs i).type) /\
   (nth xs i).name.size<=140737488351232/\-9223372036854775808<=(nth xs i).type/\(nth xs i).type<=9223372036854775807:=by
 obtain ⟨b,off,cs,ha,⟨rfl,h1⟩,_,hc⟩:=SlW.at h hi;have h0:=hc 0 _ rfl;have h2:=hc 1 _ rfl;simp only [Nat.add_zero] at h0;exact ⟨b,off,ha,cell_lt h0,h0,h2,h1⟩
theorem Overs.at {w:World} {a:Option Addr} {n c:Nat} {xs:List Over} (h:Overs w (.slice a n c) xs) {i:Nat} (hi:i<n) :
  ∃ b off,a=some ⟨b,off,none⟩/\b<w.heap.size/\w.cell? ⟨b,off+i*2,none⟩=some (.string (nth xs i).name)/\w.cell? ⟨b,off+i*2+1,none⟩=some (.string (nth xs i).proc) /\
   (nth xs i).name.size<=140737488351232/\(nth xs i).proc.size<=140737488351232:=by
 obtain ⟨b,off,cs,ha,⟨rfl,h1⟩,_,hc⟩:=SlW.at h hi;have h0:=hc 0 _ rfl;have h2:=hc 1 _ rfl;simp only [Nat.add_zero] at h0;exact ⟨b,off,ha,cell_lt h0,h0,h2,h1⟩
theorem Reveals.at {w:World} {a:Option Addr} {n c:Nat} {xs:List Reveal} (h:Reveals w (.slice a n c) xs) {i:Nat} (hi:i<n) :
  ∃ b off,a=some ⟨b,off,none⟩/\b<w.heap.size/\w.cell? ⟨b,off+i*3,none⟩=some (.string (nth xs i).name)/\w.cell? ⟨b,off+i*3+1,none⟩=some (.bool (nth xs i).full) /\
   w.cell? ⟨b,off+i*3+2,none⟩=some (.int .i64 (nth xs i).type)/\(nth xs i).name.size<=140737488351232/\-9223372036854775808<=(nth xs i).type/\(nth xs i).type<=9223372036854775807:=by
 obtain ⟨b,off,cs,ha,⟨rfl,h1⟩,_,hc⟩:=SlW.at h hi;have h0:=hc 0 _ rfl;have h2:=hc 1 _ rfl;have h3:=hc 2 _ rfl;simp only [Nat.add_zero] at h0;exact ⟨b,off,ha,cell_lt h0,h0,h2,h3,h1⟩
theorem Meths.at {w:World} {a:Option Addr} {n c:Nat} {xs:List Meth} (h:Meths w (.slice a n c) xs) {i:Nat} (hi:i<n) :
  ∃ b off aa al ac ra rl rc,a=some ⟨b,off,none⟩/\b<w.heap.size/\w.cell? ⟨b,off+i*5,none⟩=some (.string (nth xs i).name)/\w.cell? ⟨b,off+i*5+1,none⟩=some (.slice aa al ac) /\
   w.cell? ⟨b,off+i*5+2,none⟩=some (.int .i64 (nth xs i).sig.result)/\w.cell? ⟨b,off+i*5+3,none⟩=some (.slice ra rl rc)/\w.cell? ⟨b,off+i*5+4,none⟩=some (.string (nth xs i).proc) /\
   Ints w (.slice aa al ac) (nth xs i).sig.args/\Strs w (.slice ra rl rc) (nth xs i).sig.raises/\-9223372036854775808<=(nth xs i).sig.result/\(nth xs i).sig.result<=9223372036854775807 /\
   (nth xs i).name.size<=140737488351232/\(nth xs i).proc.size<=140737488351232:=by
 obtain ⟨b,off,cs,ha,⟨av,rv,rfl,hi1,hs1,h1⟩,_,hc⟩:=SlW.at h hi;have h0:=hc 0 _ rfl;have h2:=hc 1 _ rfl;have h3:=hc 2 _ rfl;have h4:=hc 3 _ rfl;have h5:=hc 4 _ rfl;simp only [Nat.add_zero] at h0;have hi1':=hi1;have hs1':=hs1;obtain ⟨aa,ac,rfl,_⟩:=hi1;obtain ⟨ra,rc,rfl,_⟩:=hs1;exact ⟨b,off,aa,_,ac,ra,_,rc,ha,cell_lt h0,h0,h2,h3,h4,h5,hi1',hs1',h1⟩
structure TyAt (w:World) (b o:Nat) (t:Ty) (pa:Option Addr) (pl pc:Nat) (ma:Option Addr) (ml mc:Nat) (oa:Option Addr) (ol oc:Nat):Prop where
 c0:w.cell? ⟨b,o,none⟩=some (.int .u8 t.kind)
 c1:w.cell? ⟨b,o+1,none⟩=some (.int .i64 t.low)
 c2:w.cell? ⟨b,o+2,none⟩=some (.int .i64 t.high)
 c3:w.cell? ⟨b,o+3,none⟩=some (.bool t.branded)
 c4:w.cell? ⟨b,o+4,none⟩=some (.string t.brand)
 c5:w.cell? ⟨b,o+5,none⟩=some (.string t.opq)
 c6:w.cell? ⟨b,o+6,none⟩=some (.int .i64 t.super)
 c7:w.cell? ⟨b,o+7,none⟩=some (.slice pa pl pc)
 c8:w.cell? ⟨b,o+8,none⟩=some (.slice ma ml mc)
 c9:w.cell? ⟨b,o+9,none⟩=some (.slice oa ol oc)
 ps:Parts w (.slice pa pl pc) t.parts
 ms:Meths w (.slice ma ml mc) t.methods
 os:Overs w (.slice oa ol oc) t.overs
 ok:TyOk t
theorem Graph.at {w:World} {a:Option Addr} {n c:Nat} {xs:List Ty} (h:Graph w (.slice a n c) xs) {i:Nat} (hi:i<n) :
  ∃ b off pa pl pc ma ml mc oa ol oc,a=some ⟨b,off,none⟩/\b<w.heap.size/\TyAt w b (off+i*10) (nth xs i) pa pl pc ma ml mc oa ol oc:=by
 obtain ⟨b,off,cs,ha,⟨pv,mv,ov,rfl,hp,hm,ho,hok⟩,_,hc⟩:=SlW.at h hi;have h0:=hc 0 _ rfl;simp only [Nat.add_zero] at h0;have hp':=hp;have hm':=hm;have ho':=ho;obtain ⟨pa,pc,rfl,_⟩:=hp;obtain ⟨ma,mc,rfl,_⟩:=hm;obtain ⟨oa,oc,rfl,_⟩:=ho;exact ⟨b,off,pa,_,pc,ma,_,mc,oa,_,oc,ha,cell_lt h0,h0,hc 1 _ rfl,hc 2 _ rfl,hc 3 _ rfl,hc 4 _ rfl,hc 5 _ rfl,hc 6 _ rfl,hc 7 _ rfl,hc 8 _ rfl,hc 9 _ rfl,hp',hm',ho',hok⟩
theorem dh {p:Prop} (h:p):Hid p:=Lib.hid h
end
section
open Go.RowKit Go.Proofs
section
variable {κ:Type} [DecidableEq κ]
def alook (k:κ):List (κ × Value)->Option Value
 | []=>none
 | (k',v) :: r=>if k=k' then some v else alook k r
def aput (k:κ) (v:Value):List (κ × Value)->List (κ × Value)
 | []=>[(k,v)]
 | (k',v') :: r=>if k=k' then (k,v) :: r else (k',v') :: aput k v r
theorem alook_aput_same (k:κ) (v:Value):∀ m,alook k (aput k v m)=some v
 | []=>by simp [alook,aput]
 | (k',v') :: r=>by
  simp only [aput];split
  ·simp [alook]
  ·rename_i h
   simp only [alook,if_neg h];exact alook_aput_same k v r
theorem alook_aput_other {j k:κ} (v:Value) (h:j≠k):∀ m,alook j (aput k v m)=alook j m
 | []=>by simp [alook,aput,h]
 | (k',v') :: r=>by
  simp only [aput];split
  ·rename_i hk
   subst hk;simp [alook,h]
  ·simp only [alook];rw [alook_aput_other v h r]
theorem alook_aput (j k:κ) (v:Value) (m:List (κ × Value)):alook j (aput k v m)=if j=k then some v else alook j m:=by
 by_cases h:j=k
 ·rw [if_pos h,h,alook_aput_same]
 ·rw [if_neg h,alook_aput_other v h]
structure KeyLaw (P:Program) (kt:TypeId) (enc:κ->Value):Prop where
 und:∃ d,P.underlying kt=some d/\∀ a b,Instr.sameNow d (enc a) (enc b)=some (decide (a=b))
 chk:∀ empty a w,(Instr.checkKey empty 10000 kt (enc a)).run P w=.ok () w
 bits:∀ a,Instr.sameBits 10000 (enc a) (enc a)=true
def pairOf (e:MapEntry):Value × Value:=(e.key,e.val)
def MapAt (enc:κ->Value) (w:World) (b:Nat) (m:List (κ × Value)):Prop :=
 ∃ es clock,w.heap[b]? = some (.map es clock)/\es.toList.map pairOf=m.map fun p=>(enc p.1,p.2)
def afind (k:κ):List (κ × Value)->Nat->Option (Nat × Value)
 | [],_=>none
 | (k',v) :: r,i=>if k=k' then some (i,v) else afind k r (i+1)
theorem afind_look (k:κ):∀ m i,(afind k m i).map (·.2)=alook k m
 | [],i=>rfl
 | (k',v) :: r,i=>by
  simp only [afind,alook];split
  ·rfl
  ·exact afind_look k r (i+1)
theorem findNow_eq {d:TypeDesc} {enc:κ->Value} (hs:∀ a b,Instr.sameNow d (enc a) (enc b)=some (decide (a=b))) (k:κ) :
  ∀ (m:List (κ × Value)) (es:List MapEntry) (i:Nat),es.map pairOf=m.map (fun p=>(enc p.1,p.2))->Instr.findNow d (enc k) es i=some (afind k m i)
 | [],es,i,h=>by
  have:es=[]:=by simpa using h
  subst this; rfl
 | (k',v) :: r,es,i,h=>by
  cases es with
  | nil=>simp at h
  | cons e es =>
   simp only [List.map_cons,List.cons.injEq] at h;obtain ⟨h1,h2⟩:=h;have hk:e.key=enc k':=congrArg Prod.fst h1;have hv:e.val=v:=congrArg Prod.snd h1;simp only [Instr.findNow,hk,hs,afind];by_cases hkk:k=k'
   ·simp [hkk,hv]
   ·simp only [hkk,decide_false,if_false];exact findNow_eq hs k r es (i+1) h2
theorem modify_aput {enc:κ->Value} (k:κ) (v:Value):∀ (m:List (κ × Value)) (es:List MapEntry) (i j:Nat) (u:Value),es.map pairOf=m.map (fun p=>(enc p.1,p.2))->afind k m j=some (i,u) ->
  (es.modify (i-j) fun e=>{ e with key:=enc k,val:=v }).map pairOf=(aput k v m).map (fun p=>(enc p.1,p.2))/\j<=i
 | [],es,i,j,u,_,h=>by simp [afind] at h
 | (k',v') :: r,es,i,j,u,h,hf=>by
  cases es with
  | nil=>simp at h
  | cons e es =>
   simp only [List.map_cons,List.cons.injEq] at h;obtain ⟨h1,h2⟩:=h;simp only [afind] at hf;by_cases hkk:k=k'
   ·rw [if_pos hkk] at hf;cases hf;refine ⟨?_,Nat.le_refl _⟩;simp only [Nat.sub_self,List.modify_zero_cons,List.map_cons,aput,if_pos hkk,h2]
    rfl
   ·rw [if_neg hkk] at hf;have:=modify_aput (enc:=enc) k v r es i (j+1) u h2 hf;refine ⟨?_,by omega⟩;rw [show i-j=(i-(j+1))+1 by omega];simp only [List.modify_succ_cons,List.map_cons,aput,if_neg hkk,this.1,h1]
theorem push_aput {enc:κ->Value} (k:κ) (v:Value):∀ (m:List (κ × Value)) (es:List MapEntry) (j:Nat),es.map pairOf=m.map (fun p=>(enc p.1,p.2))->afind k m j=none->∀ clock,
  (es++[({ key:=enc k,val:=v,born:=clock }:MapEntry)]).map pairOf=(aput k v m).map (fun p=>(enc p.1,p.2))
 | [],es,j,h,_,clock=>by
  have:es=[]:=by simpa using h
  subst this; rfl
 | (k',v') :: r,es,j,h,hf,clock=>by
  cases es with
  | nil=>simp at h
  | cons e es =>
   simp only [List.map_cons,List.cons.injEq] at h;obtain ⟨h1,h2⟩:=h;simp only [afind] at hf;by_cases hkk:k=k'
   ·rw [if_pos hkk] at hf; cases hf
   ·rw [if_neg hkk] at hf;have:=push_aput (enc:=enc) k v r es (j+1) h2 hf clock;simp only [List.cons_append,List.map_cons,aput,if_neg hkk,this,h1]
omit [DecidableEq κ] in
theorem set_same (h:Array Obj) (b:Nat) (o:Obj) (hlt:b<h.size):(h.setIfInBounds b o)[b]? = some o:=by simp [hlt]
omit [DecidableEq κ] in
theorem MapAt.made (enc:κ->Value) (w:World):MapAt enc (w.alloc (.map #[] 0)) w.heap.size [] :=
 ⟨#[],0,heap_alloc_new w _,rfl⟩
omit [DecidableEq κ] in
theorem MapAt.lt {enc:κ->Value} {w:World} {b:Nat} {m:List (κ × Value)} (h:MapAt enc w b m):b<w.heap.size:=by
 obtain ⟨es,clock,hb,_⟩:=h;exact (Array.getElem?_eq_some_iff.1 hb).1
omit [DecidableEq κ] in
theorem MapAt.ext {enc:κ->Value} {w w':World} {b:Nat} {m:List (κ × Value)} (h:MapAt enc w b m) (hE:Ext w w'):MapAt enc w' b m:=by
 have hlt:=h.lt;obtain ⟨es,clock,hb,hm⟩:=h;exact ⟨es,clock,(hE.block b hlt).trans hb,hm⟩
omit [DecidableEq κ] in
theorem MapAt.same {enc:κ->Value} {w w':World} {b:Nat} {m:List (κ × Value)} (h:MapAt enc w b m) (hE:w'.heap[b]? = w.heap[b]?):MapAt enc w' b m:=by
 obtain ⟨es,clock,hb,hm⟩:=h;exact ⟨es,clock,hE.trans hb,hm⟩
theorem MapAt.lookup {P:Program} {enc:κ->Value} {w:World} {b:Nat} {m:List (κ × Value)} (h:MapAt enc w b m) {t kt et:TypeId} (ht:P.underlying t=some (.map kt et)) (K:KeyLaw P kt enc) (k:κ) {z:Value}
  (hz:∀ w,(zeroValue et).run P w=.ok z w):(Instr.lookup t (.map (some b)) (enc k) false).run P w=.ok ((alook k m).getD z) w:=by
 obtain ⟨es,clock,hb,hm⟩:=h;obtain ⟨d,hd,hs⟩:=K.und;have hf:=findNow_eq hs k m es.toList 0 hm;have hl:=afind_look k m 0;have hg:(getObj b).run P w=.ok (.map es clock) w:=by simp [getObj,Sem.run,hb]
 simp only [Instr.lookup,run_underlying ht,Sem.run_bind,Result.andThen_ok,hg,Sem.run_pure,K.chk,Instr.findKey,run_underlying hd,hf];cases ha:afind k m 0 with
 | none =>
  rw [ha] at hl;rw [<- hl];simp [hz]
 | some p =>
  rw [ha] at hl;rw [<- hl];simp
theorem MapAt.update {P:Program} {enc:κ->Value} {w:World} {b:Nat} {m:List (κ × Value)} (h:MapAt enc w b m) {t kt et:TypeId} (ht:P.underlying t=some (.map kt et)) (K:KeyLaw P kt enc) (k:κ) (v:Value) :
  ∃ w',(Instr.mapUpdate t (.map (some b)) (enc k) v).run P w=.ok () w'/\MapAt enc w' b (aput k v m)/\w.grownBy w' (some b)/\w'.heap.size=w.heap.size:=by
 obtain ⟨es,clock,hb,hm⟩:=h;obtain ⟨d,hd,hs⟩:=K.und;have hf:=findNow_eq hs k m es.toList 0 hm;have hg:(getObj b).run P w=.ok (.map es clock) w:=by simp [getObj,Sem.run,hb]
 have hset:∀ es' clock',(setObj b (.map es' clock')).run P w=.ok () { w with heap:=w.heap.setIfInBounds b (.map es' clock') }:=by
  intro es' clock'; simp [setObj,Sem.run,hb]
 have hlt:=(Array.getElem?_eq_some_iff.1 hb).1;have grown:∀ o,w.grownBy { w with heap:=w.heap.setIfInBounds b o } (some b):=by
  intro o;refine ⟨rfl,rfl,rfl,by simp,fun i _ hi=>?_⟩;simp only [Array.getElem?_setIfInBounds];rw [if_neg (fun e=>hi (by rw [e]))]
 simp only [Instr.mapUpdate,run_underlying ht,Sem.run_bind,Result.andThen_ok,hg,K.chk,Instr.findKey,run_underlying hd,hf,Sem.run_pure];cases ha:afind k m 0 with
 | none =>
  refine ⟨_,hset _ _,⟨_,_,set_same _ _ _ hlt,?_⟩,grown _,by simp⟩;have:=push_aput (enc:=enc) k v m es.toList 0 hm ha clock
  simpa using this
 | some p =>
  obtain ⟨i,u⟩:=p;have hi:=modify_aput (enc:=enc) k v m es.toList i 0 u hm ha;have hkey:(Instr.keyThatStays (((es[i]?).map (·.key)).getD (enc k)) (enc k)).run P w=.ok (enc k) w:=by
   have:((es[i]?).map (·.key)).getD (enc k)=enc k:=by
    have key:∀ (m:List (κ × Value)) (l:List MapEntry) (j:Nat),l.map pairOf=m.map (fun p=>(enc p.1,p.2))->afind k m j=some (i,u)->j<=i->(l[i-j]?).map (·.key)=some (enc k):=by
     intro m
     induction m with
     | nil=>intro l j _ h; simp [afind] at h
     | cons x r ih =>
      obtain ⟨k',v'⟩:=x;intro l j h hf hj;cases l with
      | nil=>simp at h
      | cons e l =>
       simp only [List.map_cons,List.cons.injEq] at h;simp only [afind] at hf;by_cases hkk:k=k'
       ·rw [if_pos hkk] at hf;cases hf;have hk:e.key=enc k':=congrArg Prod.fst h.1;simp [hk,hkk]
       ·rw [if_neg hkk] at hf;have hj2:j+1<=i:=(modify_aput (enc:=enc) k v r l i (j+1) u h.2 hf).2;have:=ih l (j+1) h.2 hf hj2;rw [show i-j=(i-(j+1))+1 by omega]
        simpa using this
    have:=key m es.toList 0 hm ha (Nat.zero_le _);simp only [Nat.sub_zero,Array.getElem?_toList] at this;rw [this]; rfl
   rw [this];simp [Instr.keyThatStays,K.bits]
  refine ⟨{ w with heap:=w.heap.setIfInBounds b (.map (es.modify i fun e=>{ e with key:=enc k,val:=v }) clock) },?_,⟨_,_,set_same _ _ _ hlt,?_⟩,grown _,by simp⟩
  ·simp only [hkey,Sem.run_bind,Result.andThen_ok];exact hset _ _
  ·have h1:=hi.1;simp only [Nat.sub_zero] at h1;rw [<- h1];simp [Array.toList_modify]
end
theorem check_string (empty:Bool) (a:BA) (w:World) (n:Nat):(Instr.checkKey empty (n+1) 9 (.string a)).run Tryz.prog w=.ok () w:=by
 simp [Instr.checkKey,run_underlying Tryz.underlying9]
theorem check_int (empty:Bool) (a:Int) (w:World) (n:Nat):(Instr.checkKey empty (n+1) 3 (.int .i64 a)).run Tryz.prog w=.ok () w:=by
 simp [Instr.checkKey,run_underlying Tryz.underlying3]
theorem check_u8 (empty:Bool) (a:Int) (w:World) (n:Nat):(Instr.checkKey empty (n+1) 5 (.int .u8 a)).run Tryz.prog w=.ok () w:=by
 simp [Instr.checkKey,run_underlying Tryz.underlying5]
theorem keyString:KeyLaw Tryz.prog 9 Value.string :=
 ⟨⟨.string,Tryz.underlying9,fun a b=>by simp only [Instr.sameNow,ba_beq]⟩,
  fun empty a w=>check_string empty a w 9999,fun a=>by simp only [Instr.sameBits,ba_beq]; simp⟩
theorem keyInt:KeyLaw Tryz.prog 3 (Value.int .i64) :=
 ⟨⟨.int .i64,Tryz.underlying3,fun a b=>by simp only [Instr.sameNow,if_true]; congr 1⟩,
  fun empty a w=>check_int empty a w 9999,fun a=>by simp only [Instr.sameBits]; simp⟩
theorem keyU8:KeyLaw Tryz.prog 5 (Value.int .u8) :=
 ⟨⟨.int .u8,Tryz.underlying5,fun a b=>by simp only [Instr.sameNow,if_true]; congr 1⟩,
  fun empty a w=>check_u8 empty a w 9999,fun a=>by simp only [Instr.sameBits]; simp⟩
end
end Go.Proofs.YtjffkeoajkhbmaaGreat
