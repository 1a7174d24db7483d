/- Lists whose cells lie in a block of the call's own; a list appended to such a one. Classes of types, in plain Lean: the least type that is the same, found by parting further and further. The library's IndexFunc and ContainsFunc, at each element type, over whatever function value. -/
import Derived.Deep.Upon
import Derived.Laws.OwnMore
import Derived.Maps.AppendAt
import Derived.ProofKit
import Derived.Test.YtjffkeoajkhbmaaGreatOX0
namespace Go.Proofs.YtjffkeoajkhbmaaGreat
set_option linter.unusedSimpArgs false
set_option linter.unusedVariables false
set_option maxRecDepth 100000
set_option maxHeartbeats 8000000
section
open Go.RowKit Go.Proofs
theorem flat_at {sz:Nat}:∀ {css:List (List Value)} {i:Nat} {cs:List Value} {j:Nat},(∀ c,c∈css->c.length=sz)->css[i]? = some cs->j<sz->css.flatten[i*sz+j]? = cs[j]?
 | c :: css,0,cs,j,h,hi,hj=>by
  have hc:=h c (by simp);simp only [List.getElem?_cons_zero,Option.some.injEq] at hi;subst hi;rw [List.flatten_cons,Nat.zero_mul,Nat.zero_add,List.getElem?_append_left (by omega)]
 | c :: css,i+1,cs,j,h,hi,hj=>by
  have hc:=h c (by simp);simp only [List.getElem?_cons_succ] at hi;rw [List.flatten_cons,Nat.succ_mul,List.getElem?_append_right (by omega),<- flat_at (fun c hc=>h c (by simp [hc])) hi hj]
  congr 1
  omega
 | [],_,_,_,_,hi,_=>by simp at hi
theorem flat_len {sz:Nat}:∀ {css:List (List Value)},(∀ c,c∈css->c.length=sz)->css.flatten.length=css.length*sz
 | [],_=>by simp
 | c :: css,h=>by
  rw [List.flatten_cons,List.length_append,flat_len (fun c hc=>h c (by simp [hc])),h c (by simp),List.length_cons,Nat.succ_mul];omega
def OwnL {α:Type} (R:α->List Value->Prop) (e:TypeId) (sz:Nat) (w:World) (base:Nat) (v:Value) (xs:List α):Prop :=
 ∃ css:List (List Value),css.length=xs.length/\(∀ (i:Nat) x cs,xs[i]? = some x->css[i]? = some cs->R x cs)/\(∀ c,c∈css->c.length=sz)/\w.ownsRow base e sz v xs.length css.flatten
section
variable {α:Type} {R:α->List Value->Prop} {e:TypeId} {sz:Nat} {w:World} {base:Nat} {v:Value} {xs ys:List α}
theorem OwnL.slw (h:OwnL R e sz w base v xs) (hb:xs.length*(8*sz)<=maxBytes):SlW (fun _=>R) sz w v xs:=by
 obtain ⟨css,hl,hR,hsz,hown⟩:=h;have key:∀ b,v.ownBlock=some b->∀ (i:Nat) x,xs[i]? = some x->∃ cs,R x cs/\cs.length=sz/\∀ j u,cs[j]? = some u->w.cell? ⟨b,0+i*sz+j,none⟩=some u:=fun b hvb i x hi=>by
  have hil:=(List.getElem?_eq_some_iff.1 hi).1;obtain ⟨cs,hcs⟩:∃ cs,css[i]? = some cs:=⟨_,List.getElem?_eq_getElem (by omega)⟩;refine ⟨cs,hR i x cs hi hcs,hsz cs (List.mem_of_getElem? hcs),fun j u hj=>?_⟩;have hjl:j<sz:=by have:=(List.getElem?_eq_some_iff.1 hj).1; have:=hsz cs (List.mem_of_getElem? hcs); omega
  have:=hown.cells hvb (i*sz+j) u (by rw [flat_at hsz hcs hjl]; exact hj);rw [Addr.add_lit] at this;rw [Nat.zero_add] at this ⊢;exact this
 rcases id hown.2 with ⟨rfl,h0⟩ | ⟨g,cap,cur,rfl,_,_,hc,_,_,_⟩
 ·have:xs=[]:=List.eq_nil_of_length_eq_zero h0;subst this;exact SlW.nil _ _ _
 ·exact ⟨_,_,rfl,hc,hb,fun i x hi=>by
   obtain ⟨cs,k1,k2,k3⟩:=key g rfl i x hi;exact ⟨g,0,cs,rfl,k1,k2,k3⟩⟩
theorem OwnL.lt (h:OwnL R e sz w base v xs):∀ k,v.ownBlock=some k->base<=k/\k<w.heap.size:=by
 obtain ⟨css,hl,hR,hsz,hown⟩:=h;exact hown.lt
theorem OwnL.kept {w':World} {row:Option Nat} (h:OwnL R e sz w base v xs) (hg:w.grownBy w' row) (hne:v.ownBlock=none\/v.ownBlock≠row):OwnL R e sz w' base v xs:=by
 obtain ⟨css,hl,hR,hsz,hown⟩:=h;exact ⟨css,hl,hR,hsz,hown.kept hg hne⟩
theorem OwnL.nil (w:World):OwnL R e sz w base (.slice none 0 0) ([]:List α):=⟨[],rfl,fun i x cs h=>by simp at h,fun c h=>by simp at h,World.ownsRow_nil _ _ _ _⟩
theorem OwnL.made (w:World) (cur:Array Value) (cap:Nat) (hb:base<=w.heap.size) (hm:cap<=maxLen) (hs:cur.size=cap*sz):OwnL R e sz (w.alloc (.cells cur e)) base (.slice (some ⟨w.heap.size,0,none⟩) 0 cap) ([]:List α) :=
 ⟨[],rfl,fun i x cs h=>by simp at h,fun c h=>by simp at h,World.ownsRow_made w cur cap hb hm hs⟩
theorem SlW.flat {a:Addr} {n c:Nat} (h:SlW (fun _=>R) sz w (.slice (some a) n c) xs):∃ css:List (List Value),css.length=xs.length/\(∀ (i:Nat) x cs,xs[i]? = some x->css[i]? = some cs->R x cs)/\(∀ c,c∈css->c.length=sz)/\∀ j u,css.flatten[j]? = some u->w.cell? (a.add j)=some u:=by
 obtain ⟨a',c',he,hlc,hb,hx⟩:=h;cases he;have key:∀ k,k<=xs.length->∃ css:List (List Value),css.length=k/\(∀ (i:Nat) x cs,xs[i]? = some x->css[i]? = some cs->R x cs)/\(∀ c,c∈css->c.length=sz)/\∀ j u,css.flatten[j]? = some u->w.cell? (a.add j)=some u:=by
  intro k
  induction k with
  | zero=>exact fun _=>⟨[],rfl,fun i x cs _ h=>by simp at h,fun c h=>by simp at h,fun j u h=>by simp at h⟩
  | succ k ih =>
   intro hk;obtain ⟨css,h1,h2,h3,h4⟩:=ih (by omega);obtain ⟨x,hi⟩:∃ x,xs[k]? = some x:=⟨_,List.getElem?_eq_getElem (by omega)⟩;obtain ⟨b,off,cs,ha,hr,hl,hc⟩:=hx k x hi;cases ha;refine ⟨css++[cs],by simp [h1],fun i y ds hy hd=>?_,fun c hc=>?_,fun j u hu=>?_⟩
   ·rcases Nat.lt_or_ge i css.length with hlt | hge
    ·rw [List.getElem?_append_left hlt] at hd;exact h2 i y ds hy hd
    ·have hil:=(List.getElem?_eq_some_iff.1 hd).1;simp at hil;have:i=k:=by omega
     subst this;rw [List.getElem?_append_right (by omega),h1] at hd;simp at hd;subst hd;rw [hi] at hy;cases hy;exact hr
   ·rcases List.mem_append.1 hc with h | h
    ·exact h3 c h
    ·rw [List.mem_singleton.1 h]; exact hl
   ·rw [List.flatten_append] at hu;have hfl:=flat_len h3;rw [h1] at hfl;rcases Nat.lt_or_ge j (k*sz) with hlt | hge
    ·rw [List.getElem?_append_left (by omega)] at hu;exact h4 j u hu
    ·rw [List.getElem?_append_right (by omega),hfl] at hu;simp only [List.flatten_cons,List.flatten_nil,List.append_nil] at hu;have:=hc _ u hu;rw [Addr.add_lit,show off+j=off+k*sz+(j-k*sz) by omega];exact this
 exact key xs.length (Nat.le_refl _)
end
theorem run_append_list {P:Program} {α:Type} {R:α->List Value->Prop} {w:World} {xs ys:List α} (base:Nat) (t ty e:TypeId) (i:TypeInfo) (z:Value) (size bytes:Nat) (ht:P.underlying t=some (.slice e)) (hi:P.info? e=some i) (hz:i.zero=some z)
  (hsize:i.size=size) (hby:i.bytes=bytes) (hzs:z.cells.size=size) (hsz:0<size) (v x:Value) (hown:OwnL R e size w base v xs) (hx:SlW (fun _=>R) size w x ys) (hone:∀ y cs,R y cs->∀ u,u∈cs->u.oneCell'=true)
  (h63:xs.length+ys.length<=maxLen) (hbytes:(xs.length+ys.length)*bytes<=140737488355328) (hbase:base<=w.heap.size) :
  ∃ v' w',(Builtin.append_ #[t,t] ty #[v,x]).run P w=.ok v' w'/\OwnL R e size w' base v' (xs++ys)/\w.grownBy w' v.ownBlock/\(v'.ownBlock=v.ownBlock\/v'.ownBlock=some w.heap.size):=by
 obtain ⟨xa,xc,rfl,hxc,hxb,hx1⟩:=id hx;obtain ⟨css,hl,hR,hcs,hrow⟩:=id hown;cases xa with
 | none =>
  have h0:ys=[]:=by
   cases ys with
   | nil=>rfl
   | cons y ys =>
    obtain ⟨b,off,cs,hn,_⟩:=hx1 0 y rfl;cases hn
  subst h0;refine ⟨v,w,?_,by rw [List.append_nil]; exact hown,⟨rfl,rfl,rfl,Nat.le_refl _,fun _ _ _=>rfl⟩,Or.inl rfl⟩;rcases id hrow.2 with ⟨rfl,h0⟩ | ⟨g,cap,cur,rfl,_,_,hc,_,_,_⟩
  ·exact run_append_nothing w t t ty e i ht hi none 0 0 (Nat.le_refl _) _ (Src.ofNil w ht xc)
  ·exact run_append_nothing w t t ty e i ht hi _ _ cap hc _ (Src.ofNil w ht xc)
 | some ad =>
  obtain ⟨dss,dl,dR,ds,dc⟩:=SlW.flat hx;have hd1:∀ u,u∈dss.flatten->u.oneCell'=true:=fun u hu=>by
   obtain ⟨cs,hc,hu⟩:=List.mem_flatten.1 hu;obtain ⟨k,hk,hke⟩:=List.mem_iff_getElem.1 hc;exact hone _ cs (dR k _ cs (List.getElem?_eq_getElem (by omega)) (by rw [List.getElem?_eq_getElem hk,hke])) u hu
  obtain ⟨v',w',hr,h2,h3,h4,h5⟩:=run_append_own_at (P:=P) w base t ty e i z size bytes ht hi hz hsize hby hzs hsz v xs.length css.flatten hrow ad ys.length xc dss.flatten (by rw [flat_len ds,dl]) dc hd1 h63 hbytes hbase;refine ⟨v',w',hr,⟨css++dss,by simp [hl,dl],fun k x cs hk hc=>?_,fun c hc=>?_,?_⟩,h3,h5⟩
  ·rcases Nat.lt_or_ge k xs.length with hlt | hge
   ·rw [List.getElem?_append_left (by omega)] at hk hc;exact hR k x cs hk hc
   ·rw [List.getElem?_append_right (by omega)] at hk hc;rw [hl] at hc;exact dR _ x cs hk hc
  ·rcases List.mem_append.1 hc with h | h
   ·exact hcs c h
   ·exact ds c h
  ·rw [List.flatten_append,List.length_append];exact h2
theorem wp_append_list {P:Program} {o:Oper} {a:Act} {w:World} {K:Act->World->Prop} {Q:Exit->Act->World->Prop} {α:Type} {R:α->List Value->Prop} {xs ys:List α} (s x:Operand) (t:TypeId)
  (ho:o.op=.call { callee:=.builtin .append,args:=#[s,x],argTypes:=#[t,t] })
  (base:Nat) (e:TypeId) (i:TypeInfo) (z:Value) (size bytes:Nat) (ht:P.underlying t=some (.slice e)) (hi:P.info? e=some i) (hz:i.zero=some z)
  (hsize:i.size=size) (hby:i.bytes=bytes) (hzs:z.cells.size=size) (hsz:0<size)
  (v xv:Value) (hs:a.eval s=v) (hown:OwnL R e size w base v xs) (hx:a.eval x=xv) (hsl:SlW (fun _=>R) size w xv ys) (hone:∀ y cs,R y cs->∀ u,u∈cs->u.oneCell'=true)
  (h63:xs.length+ys.length<=maxLen) (hbytes:(xs.length+ys.length)*bytes<=140737488355328) (hbase:base<=w.heap.size)
  (h:∀ v' w',OwnL R e size w' base v' (xs++ys)->w.grownBy w' v.ownBlock->(v'.ownBlock=v.ownBlock\/v'.ownBlock=some w.heap.size)->K (a.put o.dst v') w') :
  o.wp P a w K Q:=by
 obtain ⟨v',w',hr,h2,h3,h4⟩:=run_append_list (P:=P) base t o.type e i z size bytes ht hi hz hsize hby hzs hsz v xv hown hsl hone h63 hbytes hbase;unfold Oper.wp execOp;simp only [ho,resolve,invoke,builtin,Sem.run_bind,Sem.run_pure,Result.andThen_ok,List.map_toArray,List.map_cons,List.map_nil,hs,hx,hr];exact h v' w' h2 h3 h4
end
section
def lead (i:Nat) (p:Nat->Bool):Nat:=((List.range i).find? p).getD i
theorem lead_hit {i k:Nat} {p:Nat->Bool} (hk:k<i) (h1:p k=true) (h:∀ j,j<k->p j=false):lead i p=k:=by
 have:(List.range i).find? p=some k:=by
  rw [List.find?_range_eq_some];exact ⟨h1,by simpa using hk,fun j hj=>by simp [h j hj]⟩
 rw [lead,this]; rfl
theorem lead_self {i:Nat} {p:Nat->Bool} (h:∀ j,j<i->p j=false):lead i p=i:=by
 have:(List.range i).find? p=none:=by
  rw [List.find?_eq_none];intro x hx;rw [h x (List.mem_range.1 hx)]; simp
 rw [lead,this]; rfl
theorem lead_cases (i:Nat) (p:Nat->Bool):lead i p=i\/(lead i p<i/\p (lead i p)=true):=by
 unfold lead;cases h:(List.range i).find? p with
 | none=>exact Or.inl rfl
 | some k=>exact Or.inr ⟨List.mem_range.1 (List.mem_of_find?_eq_some h),List.find?_some h⟩
theorem lead_congr {i:Nat} {p q:Nat->Bool} (h:∀ j,j<i->p j=q j):lead i p=lead i q:=by
 unfold lead
 congr 1
 have:∀ (l:List Nat),(∀ j,j∈l->p j=q j)->l.find? p=l.find? q:=by
  intro l
  induction l with
  | nil=>intro _; rfl
  | cons x l ih =>
   intro hl;rw [List.find?_cons,List.find?_cons,hl x (List.mem_cons_self ..),ih (fun j hj=>hl j (List.mem_cons_of_mem _ hj))]
 exact this _ (fun j hj=>h j (List.mem_range.1 hj))
def leads (q:Nat->Nat->Bool):Nat->List Nat
 | 0=>[]
 | n+1=>leads q n++[lead n fun k=>(leads q n).getD k 0==k&&q n k]
theorem leads_length (q:Nat->Nat->Bool):∀ n,(leads q n).length=n
 | 0=>rfl
 | n+1=>by simp [leads,leads_length q n]
def leadF (q:Nat->Nat->Bool) (i:Nat):Nat:=(leads q (i+1)).getD i 0
theorem leads_get (q:Nat->Nat->Bool):∀ (n i:Nat),i<n->(leads q n).getD i 0=leadF q i
 | 0,i,h=>absurd h (Nat.not_lt_zero _)
 | n+1,i,h=>by
  by_cases hi:i=n
  ·rw [hi]; rfl
  ·have:=leads_get q n i (by omega);rw [<- this,leads,List.getD_eq_getElem?_getD,List.getD_eq_getElem?_getD,List.getElem?_append_left (by rw [leads_length]; omega)]
theorem leadF_eq (q:Nat->Nat->Bool) (i:Nat):leadF q i=lead i fun k=>leadF q k==k&&q i k:=by
 have:leadF q i=lead i fun k=>(leads q i).getD k 0==k&&q i k:=by
  rw [leadF,leads,List.getD_eq_getElem?_getD,List.getElem?_append_right (by rw [leads_length]; omega),leads_length,Nat.sub_self]; rfl
 rw [this];exact lead_congr (fun j hj=>by rw [leads_get q i j hj])
theorem leadF_le (q:Nat->Nat->Bool) (i:Nat):leadF q i<=i:=by
 rw [leadF_eq];rcases lead_cases i (fun k=>leadF q k==k&&q i k) with h | ⟨h,_⟩ <;> omega
theorem leadF_lead (q:Nat->Nat->Bool) (i:Nat):leadF q (leadF q i)=leadF q i:=by
 have h0:=leadF_eq q i;rcases lead_cases i (fun k=>leadF q k==k&&q i k) with h | ⟨_,h⟩
 ·rw [h] at h0; rw [h0,h0]
 ·rw [<- h0] at h;simp only [Bool.and_eq_true,beq_iff_eq] at h;exact h.1
theorem leadF_with (q:Nat->Nat->Bool) (i:Nat):leadF q i=i\/q i (leadF q i)=true:=by
 have h0:=leadF_eq q i;rcases lead_cases i (fun k=>leadF q k==k&&q i k) with h | ⟨_,h⟩
 ·rw [h] at h0; exact Or.inl h0
 ·rw [<- h0] at h;simp only [Bool.and_eq_true] at h;exact Or.inr h.2
def Leading (C:Nat->Nat):Prop:=∀ i,C i<=i/\C (C i)=C i
theorem leading_leadF (q:Nat->Nat->Bool):Leading (leadF q):=fun i=>⟨leadF_le q i,leadF_lead q i⟩
def parted (C:Nat->Nat) (q:Nat->Nat->Bool):Nat->Nat:=leadF fun i k=>C k==C i&&q i k
theorem parted_le {C:Nat->Nat} (q:Nat->Nat->Bool) (i:Nat):C (parted C q i)=C i:=by
 rcases leadF_with (fun i k=>C k==C i&&q i k) i with h | h
 ·unfold parted; rw [h]
 ·simp only [Bool.and_eq_true,beq_iff_eq] at h;exact h.1
theorem parted_keeps {C:Nat->Nat} (hC:Leading C) (q:Nat->Nat->Bool) {i:Nat} (h:C i=i):parted C q i=i:=by
 have h1:=parted_le (C:=C) q i;have h2:=leadF_le (fun i k=>C k==C i&&q i k) i;have h3:=(hC (parted C q i)).1;show parted C q i=i
 have h4:parted C q i<=i:=h2;omega
theorem parted_new {C:Nat->Nat} (hC:Leading C) (q:Nat->Nat->Bool) {i:Nat} (h:parted C q i≠C i):parted C q (parted C q i)=parted C q i/\C (parted C q i)≠parted C q i:=by
 refine ⟨leadF_lead _ i,fun h1=>h ?_⟩;rw [parted_le (C:=C) q i] at h1;exact h1.symm
def leaders (n:Nat) (C:Nat->Nat):Nat:=((List.range n).filter fun i=>C i==i).length
theorem filter_le {p q:Nat->Bool}:∀ (l:List Nat),(∀ i,i∈l->p i=true->q i=true)->(l.filter p).length<=(l.filter q).length
 | [],_=>Nat.le_refl _
 | x :: l,h=>by
  have ih:=filter_le l (fun i hi=>h i (List.mem_cons_of_mem _ hi));have hx:=h x (List.mem_cons_self ..);rw [List.filter_cons,List.filter_cons];cases hp:p x <;> cases hq:q x <;> simp_all <;> omega
theorem filter_lt {p q:Nat->Bool}:∀ (l:List Nat),(∀ i,i∈l->p i=true->q i=true)->(∃ j,j∈l/\q j=true/\p j=false)->(l.filter p).length<(l.filter q).length
 | [],_,⟨j,hj,_⟩=>by cases hj
 | x :: l,h,⟨j,hj,h1,h2⟩=>by
  have hle:=filter_le l (fun i hi=>h i (List.mem_cons_of_mem _ hi));have hx:=h x (List.mem_cons_self ..);rw [List.filter_cons,List.filter_cons];rcases List.mem_cons.1 hj with rfl | hj
  ·rw [h1,h2]; simp; omega
  ·have ih:=filter_lt l (fun i hi=>h i (List.mem_cons_of_mem _ hi)) ⟨j,hj,h1,h2⟩;cases hp:p x <;> cases hq:q x <;> simp_all <;> omega
theorem leaders_lt {n:Nat} {C:Nat->Nat} (hC:Leading C) (q:Nat->Nat->Bool) {i:Nat} (hi:i<n) (h:parted C q i≠C i):leaders n C<leaders n (parted C q):=by
 obtain ⟨h1,h2⟩:=parted_new hC q h;refine filter_lt _ (fun j _ hj=>?_) ⟨parted C q i,List.mem_range.2 (Nat.lt_of_le_of_lt (leadF_le _ i) hi),by simpa using h1,by simpa using h2⟩;rw [beq_iff_eq] at hj ⊢;exact parted_keeps hC q hj
theorem leaders_le (n:Nat) (C:Nat->Nat):leaders n C<=n:=by
 have:=List.length_filter_le (fun i=>C i==i) (List.range n);rw [List.length_range] at this;exact this
end
section
open Go.RowKit Go.Proofs
theorem range_any_false {n:Nat} {p:Nat->Bool} (h:∀ i,i<n->p i=false):(List.range n).any p=false:=by
 simp only [List.any_eq_false,List.mem_range];intro i hi; simp [h i hi]
theorem range_any_true {n k:Nat} {p:Nat->Bool} (hk:k<n) (h:p k=true):(List.range n).any p=true:=by
 simp only [List.any_eq_true,List.mem_range];exact ⟨k,hk,h⟩
theorem indexFunc82 (F:FuncId) (hF:Enters Tryz.prog F) (cap:Array Value) (a:Option Addr) (n c:Nat) (hn:n*8<=140737488351232) (f:Nat->Nat->Value) (w:World) (I J:Nat->World->Prop)
  (hI:∀ k w1,I k w1->∀ i,i<n->∃ b off,a=some ⟨b,off,none⟩/\w1.cell? ⟨b,off+i,none⟩=some (f i 0))
  (hf:∀ k w1,k<n->I k w1->Calls Tryz.prog F (#[f k 0]++cap) w1 (fun e w2=>(e=.returned (.bool false)/\I (k+1) w2)\/(e=.returned (.bool true)/\J k w2)))
  (h0:I 0 w) :
  Calls Tryz.prog 82 #[.slice a n c,.func (.func F) #[] cap] w fun e w2=>(e=.returned (.int .i64 (-1))/\I n w2)\/(∃ k:Nat,k<n/\e=.returned (.int .i64 k)/\J k w2):=by
 have HI:=dh hI; clear hI;have Hf:=dh hf; clear hf;have H0:=dh h0; clear h0
 go_enter Tryz.func82,Tryz.ntmps82
 go_wp2;go_loopw [5,8] (fun _ i wr=>∃ k:Nat,k<=n/\i=.int .i64 k/\Hid (I k wr)) (fun _ i _=>n-(intOf i).toNat)
 case atStart=>exact ⟨0,Nat.zero_le _,rfl,H0.out⟩
 case round =>
  obtain ⟨k,hk,rfl,hIk⟩:=hrel;by_cases hlt:k<n
  ·obtain ⟨b,off,rfl,hc0⟩:=HI.out k wr hIk.out k hlt;have hcall:=dh (Hf.out k wr hlt hIk.out);have hE:∀ (args:Array Value) (w:World),(callFunc F args).run Tryz.prog w=.ok (.enter F args) w:=hF;go_wp2_with fail;refine hcall.out.mono ?_;rintro e w2 (⟨rfl,hI2⟩ | ⟨rfl,hJ2⟩)
   ·have HI2:=dh hI2; clear hI2;go_wp2;go_roundw
    case rel=>exact ⟨k+1,by omega,by go_num,HI2⟩
    case measure=>simp [intOf]; omega
   ·have HJ2:=dh hJ2; clear hJ2;go_wp2;go_ret;exact Or.inr ⟨k,hlt,rfl,HJ2.out⟩
  ·have:k=n:=by omega
   subst this;go_wp2;go_ret;exact Or.inl ⟨rfl,hIk.out⟩
theorem containsFunc52 (F:FuncId) (hF:Enters Tryz.prog F) (cap:Array Value) (a:Option Addr) (n c:Nat) (hn:n*8<=140737488351232) (f:Nat->Nat->Value) (w:World) (I J:Nat->World->Prop)
  (hI:∀ k w1,I k w1->∀ i,i<n->∃ b off,a=some ⟨b,off,none⟩/\w1.cell? ⟨b,off+i,none⟩=some (f i 0))
  (hf:∀ k w1,k<n->I k w1->Calls Tryz.prog F (#[f k 0]++cap) w1 (fun e w2=>(e=.returned (.bool false)/\I (k+1) w2)\/(e=.returned (.bool true)/\J k w2)))
  (h0:I 0 w) :
  Calls Tryz.prog 52 #[.slice a n c,.func (.func F) #[] cap] w fun e w2=>(e=.returned (.bool false)/\I n w2)\/(∃ k:Nat,k<n/\e=.returned (.bool true)/\J k w2):=by
 have hix:=dh (indexFunc82 F hF cap a n c hn f w I J hI hf h0);clear hI hf h0
 go_enter Tryz.func52,Tryz.ntmps52
 go_wp2_with fail;refine hix.out.mono ?_;rintro e w2 (⟨rfl,h⟩ | ⟨k,hk,rfl,h⟩)
 ·have H:=dh h; clear h;go_wp2;go_ret;exact Or.inl ⟨by simp,H.out⟩
 ·have H:=dh h; clear h;go_wp2;go_ret;exact Or.inr ⟨k,hk,by simp,H.out⟩
theorem containsFunc52_p (F:FuncId) (hF:Enters Tryz.prog F) (cap:Array Value) (a:Option Addr) (n c:Nat) (hn:n*8<=140737488351232) (f:Nat->Nat->Value) (w:World) (p:Nat->Bool)
  (hI:∀ w1,Ext w w1->∀ i,i<n->∃ b off,a=some ⟨b,off,none⟩/\w1.cell? ⟨b,off+i,none⟩=some (f i 0))
  (hf:∀ k w1,k<n->Ext w w1->Calls Tryz.prog F (#[f k 0]++cap) w1 (fun e w2=>e=.returned (.bool (p k))/\Ext w1 w2)) :
  Calls Tryz.prog 52 #[.slice a n c,.func (.func F) #[] cap] w fun e w2=>e=.returned (.bool ((List.range n).any p))/\Ext w w2:=by
 refine (containsFunc52 F hF cap a n c hn f w (fun k w1=>Ext w w1/\∀ i,i<k->p i=false) (fun k w1=>Ext w w1/\p k=true) (fun k w1 h=>hI w1 h.1)
  (fun k w1 hk h=>(hf k w1 hk h.1).mono ?_) ⟨Ext.refl w,fun i hi=>by omega⟩).mono ?_
 ·rintro e w2 ⟨rfl,hE⟩;cases hp:p k
  ·refine Or.inl ⟨rfl,h.1.trans hE,fun i hi=>?_⟩;by_cases hik:i=k
   ·rw [hik]; exact hp
   ·exact h.2 i (by omega)
  ·exact Or.inr ⟨rfl,h.1.trans hE,rfl⟩
 ·rintro e w2 (⟨rfl,hE,h⟩ | ⟨k,hk,rfl,hE,h⟩)
  ·exact ⟨by rw [range_any_false h],hE⟩
  ·exact ⟨by rw [range_any_true hk h],hE⟩
theorem indexFunc179 (F:FuncId) (hF:Enters Tryz.prog F) (cap:Array Value) (a:Option Addr) (n c:Nat) (hn:n*8<=140737488351232) (f:Nat->Nat->Value) (w:World) (I J:Nat->World->Prop)
  (hI:∀ k w1,I k w1->∀ i,i<n->∃ b off,a=some ⟨b,off,none⟩/\w1.cell? ⟨b,off+i,none⟩=some (f i 0))
  (hf:∀ k w1,k<n->I k w1->Calls Tryz.prog F (#[f k 0]++cap) w1 (fun e w2=>(e=.returned (.bool false)/\I (k+1) w2)\/(e=.returned (.bool true)/\J k w2)))
  (h0:I 0 w) :
  Calls Tryz.prog 179 #[.slice a n c,.func (.func F) #[] cap] w fun e w2=>(e=.returned (.int .i64 (-1))/\I n w2)\/(∃ k:Nat,k<n/\e=.returned (.int .i64 k)/\J k w2):=by
 have HI:=dh hI; clear hI;have Hf:=dh hf; clear hf;have H0:=dh h0; clear h0
 go_enter Tryz.func179,Tryz.ntmps179
 go_wp2;go_loopw [5,8] (fun _ i wr=>∃ k:Nat,k<=n/\i=.int .i64 k/\Hid (I k wr)) (fun _ i _=>n-(intOf i).toNat)
 case atStart=>exact ⟨0,Nat.zero_le _,rfl,H0.out⟩
 case round =>
  obtain ⟨k,hk,rfl,hIk⟩:=hrel;by_cases hlt:k<n
  ·obtain ⟨b,off,rfl,hc0⟩:=HI.out k wr hIk.out k hlt;have hcall:=dh (Hf.out k wr hlt hIk.out);have hE:∀ (args:Array Value) (w:World),(callFunc F args).run Tryz.prog w=.ok (.enter F args) w:=hF;go_wp2_with fail;refine hcall.out.mono ?_;rintro e w2 (⟨rfl,hI2⟩ | ⟨rfl,hJ2⟩)
   ·have HI2:=dh hI2; clear hI2;go_wp2;go_roundw
    case rel=>exact ⟨k+1,by omega,by go_num,HI2⟩
    case measure=>simp [intOf]; omega
   ·have HJ2:=dh hJ2; clear hJ2;go_wp2;go_ret;exact Or.inr ⟨k,hlt,rfl,HJ2.out⟩
  ·have:k=n:=by omega
   subst this;go_wp2;go_ret;exact Or.inl ⟨rfl,hIk.out⟩
theorem containsFunc153 (F:FuncId) (hF:Enters Tryz.prog F) (cap:Array Value) (a:Option Addr) (n c:Nat) (hn:n*8<=140737488351232) (f:Nat->Nat->Value) (w:World) (I J:Nat->World->Prop)
  (hI:∀ k w1,I k w1->∀ i,i<n->∃ b off,a=some ⟨b,off,none⟩/\w1.cell? ⟨b,off+i,none⟩=some (f i 0))
  (hf:∀ k w1,k<n->I k w1->Calls Tryz.prog F (#[f k 0]++cap) w1 (fun e w2=>(e=.returned (.bool false)/\I (k+1) w2)\/(e=.returned (.bool true)/\J k w2)))
  (h0:I 0 w) :
  Calls Tryz.prog 153 #[.slice a n c,.func (.func F) #[] cap] w fun e w2=>(e=.returned (.bool false)/\I n w2)\/(∃ k:Nat,k<n/\e=.returned (.bool true)/\J k w2):=by
 have hix:=dh (indexFunc179 F hF cap a n c hn f w I J hI hf h0);clear hI hf h0
 go_enter Tryz.func153,Tryz.ntmps153
 go_wp2_with fail;refine hix.out.mono ?_;rintro e w2 (⟨rfl,h⟩ | ⟨k,hk,rfl,h⟩)
 ·have H:=dh h; clear h;go_wp2;go_ret;exact Or.inl ⟨by simp,H.out⟩
 ·have H:=dh h; clear h;go_wp2;go_ret;exact Or.inr ⟨k,hk,by simp,H.out⟩
theorem containsFunc153_p (F:FuncId) (hF:Enters Tryz.prog F) (cap:Array Value) (a:Option Addr) (n c:Nat) (hn:n*8<=140737488351232) (f:Nat->Nat->Value) (w:World) (p:Nat->Bool)
  (hI:∀ w1,Ext w w1->∀ i,i<n->∃ b off,a=some ⟨b,off,none⟩/\w1.cell? ⟨b,off+i,none⟩=some (f i 0))
  (hf:∀ k w1,k<n->Ext w w1->Calls Tryz.prog F (#[f k 0]++cap) w1 (fun e w2=>e=.returned (.bool (p k))/\Ext w1 w2)) :
  Calls Tryz.prog 153 #[.slice a n c,.func (.func F) #[] cap] w fun e w2=>e=.returned (.bool ((List.range n).any p))/\Ext w w2:=by
 refine (containsFunc153 F hF cap a n c hn f w (fun k w1=>Ext w w1/\∀ i,i<k->p i=false) (fun k w1=>Ext w w1/\p k=true) (fun k w1 h=>hI w1 h.1)
  (fun k w1 hk h=>(hf k w1 hk h.1).mono ?_) ⟨Ext.refl w,fun i hi=>by omega⟩).mono ?_
 ·rintro e w2 ⟨rfl,hE⟩;cases hp:p k
  ·refine Or.inl ⟨rfl,h.1.trans hE,fun i hi=>?_⟩;by_cases hik:i=k
   ·rw [hik]; exact hp
   ·exact h.2 i (by omega)
  ·exact Or.inr ⟨rfl,h.1.trans hE,rfl⟩
 ·rintro e w2 (⟨rfl,hE,h⟩ | ⟨k,hk,rfl,hE,h⟩)
  ·exact ⟨by rw [range_any_false h],hE⟩
  ·exact ⟨by rw [range_any_true hk h],hE⟩
theorem indexFunc199 (F:FuncId) (hF:Enters Tryz.prog F) (cap:Array Value) (a:Option Addr) (n c:Nat) (hn:n*8<=140737488351232) (f:Nat->Nat->Value) (w:World) (I J:Nat->World->Prop)
  (hI:∀ k w1,I k w1->∀ i,i<n->∃ b off,a=some ⟨b,off,none⟩/\w1.cell? ⟨b,off+i*2,none⟩=some (f i 0)/\w1.cell? ⟨b,off+i*2+1,none⟩=some (f i 1))
  (hf:∀ k w1,k<n->I k w1->Calls Tryz.prog F (#[.agg #[f k 0,f k 1]]++cap) w1 (fun e w2=>(e=.returned (.bool false)/\I (k+1) w2)\/(e=.returned (.bool true)/\J k w2)))
  (h0:I 0 w) :
  Calls Tryz.prog 199 #[.slice a n c,.func (.func F) #[] cap] w fun e w2=>(e=.returned (.int .i64 (-1))/\I n w2)\/(∃ k:Nat,k<n/\e=.returned (.int .i64 k)/\J k w2):=by
 have HI:=dh hI; clear hI;have Hf:=dh hf; clear hf;have H0:=dh h0; clear h0
 go_enter Tryz.func199,Tryz.ntmps199
 go_wp2;go_loopw [5,8] (fun _ i wr=>∃ k:Nat,k<=n/\i=.int .i64 k/\Hid (I k wr)) (fun _ i _=>n-(intOf i).toNat)
 case atStart=>exact ⟨0,Nat.zero_le _,rfl,H0.out⟩
 case round =>
  obtain ⟨k,hk,rfl,hIk⟩:=hrel;by_cases hlt:k<n
  ·obtain ⟨b,off,rfl,hc0,hc1⟩:=HI.out k wr hIk.out k hlt;have hcall:=dh (Hf.out k wr hlt hIk.out);have hE:∀ (args:Array Value) (w:World),(callFunc F args).run Tryz.prog w=.ok (.enter F args) w:=hF;go_wp2_with fail;refine hcall.out.mono ?_;rintro e w2 (⟨rfl,hI2⟩ | ⟨rfl,hJ2⟩)
   ·have HI2:=dh hI2; clear hI2;go_wp2;go_roundw
    case rel=>exact ⟨k+1,by omega,by go_num,HI2⟩
    case measure=>simp [intOf]; omega
   ·have HJ2:=dh hJ2; clear hJ2;go_wp2;go_ret;exact Or.inr ⟨k,hlt,rfl,HJ2.out⟩
  ·have:k=n:=by omega
   subst this;go_wp2;go_ret;exact Or.inl ⟨rfl,hIk.out⟩
theorem containsFunc182 (F:FuncId) (hF:Enters Tryz.prog F) (cap:Array Value) (a:Option Addr) (n c:Nat) (hn:n*8<=140737488351232) (f:Nat->Nat->Value) (w:World) (I J:Nat->World->Prop)
  (hI:∀ k w1,I k w1->∀ i,i<n->∃ b off,a=some ⟨b,off,none⟩/\w1.cell? ⟨b,off+i*2,none⟩=some (f i 0)/\w1.cell? ⟨b,off+i*2+1,none⟩=some (f i 1))
  (hf:∀ k w1,k<n->I k w1->Calls Tryz.prog F (#[.agg #[f k 0,f k 1]]++cap) w1 (fun e w2=>(e=.returned (.bool false)/\I (k+1) w2)\/(e=.returned (.bool true)/\J k w2)))
  (h0:I 0 w) :
  Calls Tryz.prog 182 #[.slice a n c,.func (.func F) #[] cap] w fun e w2=>(e=.returned (.bool false)/\I n w2)\/(∃ k:Nat,k<n/\e=.returned (.bool true)/\J k w2):=by
 have hix:=dh (indexFunc199 F hF cap a n c hn f w I J hI hf h0);clear hI hf h0
 go_enter Tryz.func182,Tryz.ntmps182
 go_wp2_with fail;refine hix.out.mono ?_;rintro e w2 (⟨rfl,h⟩ | ⟨k,hk,rfl,h⟩)
 ·have H:=dh h; clear h;go_wp2;go_ret;exact Or.inl ⟨by simp,H.out⟩
 ·have H:=dh h; clear h;go_wp2;go_ret;exact Or.inr ⟨k,hk,by simp,H.out⟩
theorem containsFunc182_p (F:FuncId) (hF:Enters Tryz.prog F) (cap:Array Value) (a:Option Addr) (n c:Nat) (hn:n*8<=140737488351232) (f:Nat->Nat->Value) (w:World) (p:Nat->Bool)
  (hI:∀ w1,Ext w w1->∀ i,i<n->∃ b off,a=some ⟨b,off,none⟩/\w1.cell? ⟨b,off+i*2,none⟩=some (f i 0)/\w1.cell? ⟨b,off+i*2+1,none⟩=some (f i 1))
  (hf:∀ k w1,k<n->Ext w w1->Calls Tryz.prog F (#[.agg #[f k 0,f k 1]]++cap) w1 (fun e w2=>e=.returned (.bool (p k))/\Ext w1 w2)) :
  Calls Tryz.prog 182 #[.slice a n c,.func (.func F) #[] cap] w fun e w2=>e=.returned (.bool ((List.range n).any p))/\Ext w w2:=by
 refine (containsFunc182 F hF cap a n c hn f w (fun k w1=>Ext w w1/\∀ i,i<k->p i=false) (fun k w1=>Ext w w1/\p k=true) (fun k w1 h=>hI w1 h.1)
  (fun k w1 hk h=>(hf k w1 hk h.1).mono ?_) ⟨Ext.refl w,fun i hi=>by omega⟩).mono ?_
 ·rintro e w2 ⟨rfl,hE⟩;cases hp:p k
  ·refine Or.inl ⟨rfl,h.1.trans hE,fun i hi=>?_⟩;by_cases hik:i=k
   ·rw [hik]; exact hp
   ·exact h.2 i (by omega)
  ·exact Or.inr ⟨rfl,h.1.trans hE,rfl⟩
 ·rintro e w2 (⟨rfl,hE,h⟩ | ⟨k,hk,rfl,hE,h⟩)
  ·exact ⟨by rw [range_any_false h],hE⟩
  ·exact ⟨by rw [range_any_true hk h],hE⟩
theorem indexFunc200 (F:FuncId) (hF:Enters Tryz.prog F) (cap:Array Value) (a:Option Addr) (n c:Nat) (hn:n*8<=140737488351232) (f:Nat->Nat->Value) (w:World) (I J:Nat->World->Prop)
  (hI:∀ k w1,I k w1->∀ i,i<n->∃ b off,a=some ⟨b,off,none⟩/\w1.cell? ⟨b,off+i*5,none⟩=some (f i 0)/\w1.cell? ⟨b,off+i*5+1,none⟩=some (f i 1)/\w1.cell? ⟨b,off+i*5+2,none⟩=some (f i 2)/\w1.cell? ⟨b,off+i*5+3,none⟩=some (f i 3)/\w1.cell? ⟨b,off+i*5+4,none⟩=some (f i 4))
  (hf:∀ k w1,k<n->I k w1->Calls Tryz.prog F (#[.agg #[f k 0,f k 1,f k 2,f k 3,f k 4]]++cap) w1 (fun e w2=>(e=.returned (.bool false)/\I (k+1) w2)\/(e=.returned (.bool true)/\J k w2)))
  (h0:I 0 w) :
  Calls Tryz.prog 200 #[.slice a n c,.func (.func F) #[] cap] w fun e w2=>(e=.returned (.int .i64 (-1))/\I n w2)\/(∃ k:Nat,k<n/\e=.returned (.int .i64 k)/\J k w2):=by
 have HI:=dh hI; clear hI;have Hf:=dh hf; clear hf;have H0:=dh h0; clear h0
 go_enter Tryz.func200,Tryz.ntmps200
 go_wp2;go_loopw [5,8] (fun _ i wr=>∃ k:Nat,k<=n/\i=.int .i64 k/\Hid (I k wr)) (fun _ i _=>n-(intOf i).toNat)
 case atStart=>exact ⟨0,Nat.zero_le _,rfl,H0.out⟩
 case round =>
  obtain ⟨k,hk,rfl,hIk⟩:=hrel;by_cases hlt:k<n
  ·obtain ⟨b,off,rfl,hc0,hc1,hc2,hc3,hc4⟩:=HI.out k wr hIk.out k hlt;have hcall:=dh (Hf.out k wr hlt hIk.out);have hE:∀ (args:Array Value) (w:World),(callFunc F args).run Tryz.prog w=.ok (.enter F args) w:=hF;go_wp2_with fail;refine hcall.out.mono ?_;rintro e w2 (⟨rfl,hI2⟩ | ⟨rfl,hJ2⟩)
   ·have HI2:=dh hI2; clear hI2;go_wp2;go_roundw
    case rel=>exact ⟨k+1,by omega,by go_num,HI2⟩
    case measure=>simp [intOf]; omega
   ·have HJ2:=dh hJ2; clear hJ2;go_wp2;go_ret;exact Or.inr ⟨k,hlt,rfl,HJ2.out⟩
  ·have:k=n:=by omega
   subst this;go_wp2;go_ret;exact Or.inl ⟨rfl,hIk.out⟩
theorem containsFunc188 (F:FuncId) (hF:Enters Tryz.prog F) (cap:Array Value) (a:Option Addr) (n c:Nat) (hn:n*8<=140737488351232) (f:Nat->Nat->Value) (w:World) (I J:Nat->World->Prop)
  (hI:∀ k w1,I k w1->∀ i,i<n->∃ b off,a=some ⟨b,off,none⟩/\w1.cell? ⟨b,off+i*5,none⟩=some (f i 0)/\w1.cell? ⟨b,off+i*5+1,none⟩=some (f i 1)/\w1.cell? ⟨b,off+i*5+2,none⟩=some (f i 2)/\w1.cell? ⟨b,off+i*5+3,none⟩=some (f i 3)/\w1.cell? ⟨b,off+i*5+4,none⟩=some (f i 4))
  (hf:∀ k w1,k<n->I k w1->Calls Tryz.prog F (#[.agg #[f k 0,f k 1,f k 2,f k 3,f k 4]]++cap) w1 (fun e w2=>(e=.returned (.bool false)/\I (k+1) w2)\/(e=.returned (.bool true)/\J k w2)))
  (h0:I 0 w) :
  Calls Tryz.prog 188 #[.slice a n c,.func (.func F) #[] cap] w fun e w2=>(e=.returned (.bool false)/\I n w2)\/(∃ k:Nat,k<n/\e=.returned (.bool true)/\J k w2):=by
 have hix:=dh (indexFunc200 F hF cap a n c hn f w I J hI hf h0);clear hI hf h0
 go_enter Tryz.func188,Tryz.ntmps188
 go_wp2_with fail;refine hix.out.mono ?_;rintro e w2 (⟨rfl,h⟩ | ⟨k,hk,rfl,h⟩)
 ·have H:=dh h; clear h;go_wp2;go_ret;exact Or.inl ⟨by simp,H.out⟩
 ·have H:=dh h; clear h;go_wp2;go_ret;exact Or.inr ⟨k,hk,by simp,H.out⟩
theorem containsFunc188_p (F:FuncId) (hF:Enters Tryz.prog F) (cap:Array Value) (a:Option Addr) (n c:Nat) (hn:n*8<=140737488351232) (f:Nat->Nat->Value) (w:World) (p:Nat->Bool)
  (hI:∀ w1,Ext w w1->∀ i,i<n->∃ b off,a=some ⟨b,off,none⟩/\w1.cell? ⟨b,off+i*5,none⟩=some (f i 0)/\w1.cell? ⟨b,off+i*5+1,none⟩=some (f i 1)/\w1.cell? ⟨b,off+i*5+2,none⟩=some (f i 2)/\w1.cell? ⟨b,off+i*5+3,none⟩=some (f i 3)/\w1.cell? ⟨b,off+i*5+4,none⟩=some (f i 4))
  (hf:∀ k w1,k<n->Ext w w1->Calls Tryz.prog F (#[.agg #[f k 0,f k 1,f k 2,f k 3,f k 4]]++cap) w1 (fun e w2=>e=.returned (.bool (p k))/\Ext w1 w2)) :
  Calls Tryz.prog 188 #[.slice a n c,.func (.func F) #[] cap] w fun e w2=>e=.returned (.bool ((List.range n).any p))/\Ext w w2:=by
 refine (containsFunc188 F hF cap a n c hn f w (fun k w1=>Ext w w1/\∀ i,i<k->p i=false) (fun k w1=>Ext w w1/\p k=true) (fun k w1 h=>hI w1 h.1)
  (fun k w1 hk h=>(hf k w1 hk h.1).mono ?_) ⟨Ext.refl w,fun i hi=>by omega⟩).mono ?_
 ·rintro e w2 ⟨rfl,hE⟩;cases hp:p k
  ·refine Or.inl ⟨rfl,h.1.trans hE,fun i hi=>?_⟩;by_cases hik:i=k
   ·rw [hik]; exact hp
   ·exact h.2 i (by omega)
  ·exact Or.inr ⟨rfl,h.1.trans hE,rfl⟩
 ·rintro e w2 (⟨rfl,hE,h⟩ | ⟨k,hk,rfl,hE,h⟩)
  ·exact ⟨by rw [range_any_false h],hE⟩
  ·exact ⟨by rw [range_any_true hk h],hE⟩
theorem indexFunc202 (F:FuncId) (hF:Enters Tryz.prog F) (cap:Array Value) (a:Option Addr) (n c:Nat) (hn:n*8<=140737488351232) (f:Nat->Nat->Value) (w:World) (I J:Nat->World->Prop)
  (hI:∀ k w1,I k w1->∀ i,i<n->∃ b off,a=some ⟨b,off,none⟩/\w1.cell? ⟨b,off+i*2,none⟩=some (f i 0)/\w1.cell? ⟨b,off+i*2+1,none⟩=some (f i 1))
  (hf:∀ k w1,k<n->I k w1->Calls Tryz.prog F (#[.agg #[f k 0,f k 1]]++cap) w1 (fun e w2=>(e=.returned (.bool false)/\I (k+1) w2)\/(e=.returned (.bool true)/\J k w2)))
  (h0:I 0 w) :
  Calls Tryz.prog 202 #[.slice a n c,.func (.func F) #[] cap] w fun e w2=>(e=.returned (.int .i64 (-1))/\I n w2)\/(∃ k:Nat,k<n/\e=.returned (.int .i64 k)/\J k w2):=by
 have HI:=dh hI; clear hI;have Hf:=dh hf; clear hf;have H0:=dh h0; clear h0
 go_enter Tryz.func202,Tryz.ntmps202
 go_wp2;go_loopw [5,8] (fun _ i wr=>∃ k:Nat,k<=n/\i=.int .i64 k/\Hid (I k wr)) (fun _ i _=>n-(intOf i).toNat)
 case atStart=>exact ⟨0,Nat.zero_le _,rfl,H0.out⟩
 case round =>
  obtain ⟨k,hk,rfl,hIk⟩:=hrel;by_cases hlt:k<n
  ·obtain ⟨b,off,rfl,hc0,hc1⟩:=HI.out k wr hIk.out k hlt;have hcall:=dh (Hf.out k wr hlt hIk.out);have hE:∀ (args:Array Value) (w:World),(callFunc F args).run Tryz.prog w=.ok (.enter F args) w:=hF;go_wp2_with fail;refine hcall.out.mono ?_;rintro e w2 (⟨rfl,hI2⟩ | ⟨rfl,hJ2⟩)
   ·have HI2:=dh hI2; clear hI2;go_wp2;go_roundw
    case rel=>exact ⟨k+1,by omega,by go_num,HI2⟩
    case measure=>simp [intOf]; omega
   ·have HJ2:=dh hJ2; clear hJ2;go_wp2;go_ret;exact Or.inr ⟨k,hlt,rfl,HJ2.out⟩
  ·have:k=n:=by omega
   subst this;go_wp2;go_ret;exact Or.inl ⟨rfl,hIk.out⟩
theorem containsFunc191 (F:FuncId) (hF:Enters Tryz.prog F) (cap:Array Value) (a:Option Addr) (n c:Nat) (hn:n*8<=140737488351232) (f:Nat->Nat->Value) (w:World) (I J:Nat->World->Prop)
  (hI:∀ k w1,I k w1->∀ i,i<n->∃ b off,a=some ⟨b,off,none⟩/\w1.cell? ⟨b,off+i*2,none⟩=some (f i 0)/\w1.cell? ⟨b,off+i*2+1,none⟩=some (f i 1))
  (hf:∀ k w1,k<n->I k w1->Calls Tryz.prog F (#[.agg #[f k 0,f k 1]]++cap) w1 (fun e w2=>(e=.returned (.bool false)/\I (k+1) w2)\/(e=.returned (.bool true)/\J k w2)))
  (h0:I 0 w) :
  Calls Tryz.prog 191 #[.slice a n c,.func (.func F) #[] cap] w fun e w2=>(e=.returned (.bool false)/\I n w2)\/(∃ k:Nat,k<n/\e=.returned (.bool true)/\J k w2):=by
 have hix:=dh (indexFunc202 F hF cap a n c hn f w I J hI hf h0);clear hI hf h0
 go_enter Tryz.func191,Tryz.ntmps191
 go_wp2_with fail;refine hix.out.mono ?_;rintro e w2 (⟨rfl,h⟩ | ⟨k,hk,rfl,h⟩)
 ·have H:=dh h; clear h;go_wp2;go_ret;exact Or.inl ⟨by simp,H.out⟩
 ·have H:=dh h; clear h;go_wp2;go_ret;exact Or.inr ⟨k,hk,by simp,H.out⟩
theorem containsFunc191_p (F:FuncId) (hF:Enters Tryz.prog F) (cap:Array Value) (a:Option Addr) (n c:Nat) (hn:n*8<=140737488351232) (f:Nat->Nat->Value) (w:World) (p:Nat->Bool)
  (hI:∀ w1,Ext w w1->∀ i,i<n->∃ b off,a=some ⟨b,off,none⟩/\w1.cell? ⟨b,off+i*2,none⟩=some (f i 0)/\w1.cell? ⟨b,off+i*2+1,none⟩=some (f i 1))
  (hf:∀ k w1,k<n->Ext w w1->Calls Tryz.prog F (#[.agg #[f k 0,f k 1]]++cap) w1 (fun e w2=>e=.returned (.bool (p k))/\Ext w1 w2)) :
  Calls Tryz.prog 191 #[.slice a n c,.func (.func F) #[] cap] w fun e w2=>e=.returned (.bool ((List.range n).any p))/\Ext w w2:=by
 refine (containsFunc191 F hF cap a n c hn f w (fun k w1=>Ext w w1/\∀ i,i<k->p i=false) (fun k w1=>Ext w w1/\p k=true) (fun k w1 h=>hI w1 h.1)
  (fun k w1 hk h=>(hf k w1 hk h.1).mono ?_) ⟨Ext.refl w,fun i hi=>by omega⟩).mono ?_
 ·rintro e w2 ⟨rfl,hE⟩;cases hp:p k
  ·refine Or.inl ⟨rfl,h.1.trans hE,fun i hi=>?_⟩;by_cases hik:i=k
   ·rw [hik]; exact hp
   ·exact h.2 i (by omega)
  ·exact Or.inr ⟨rfl,h.1.trans hE,rfl⟩
 ·rintro e w2 (⟨rfl,hE,h⟩ | ⟨k,hk,rfl,hE,h⟩)
  ·exact ⟨by rw [range_any_false h],hE⟩
  ·exact ⟨by rw [range_any_true hk h],hE⟩
end
end Go.Proofs.YtjffkeoajkhbmaaGreat
