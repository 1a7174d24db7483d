/- What types says of the methods and overrides of an object, and of brands. A region that draws its order, walked once: what only reads is taken as soon as it may, what makes memory when nothing else may come up. -/
import Derived.OrdersHeld
import Derived.Test.YtjffkeoajkhbmaaGreatOW0
import Derived.Test.YtjffkeoajkhbmaaGreatOW2
namespace Go.Proofs.YtjffkeoajkhbmaaGreat
set_option linter.unusedSimpArgs false
set_option linter.unusedVariables false
set_option maxRecDepth 100000
set_option maxHeartbeats 8000000
section
open Go.RowKit Go.Proofs
def methB (n:Nat) (m:Meth):Bool:=signedB n m.sig&&(m.proc.size==0||isSymbolB m.proc)
theorem empty_iff (s:BA):s.toList.isEmpty=(s.size==0):=by
 rw [ByteArray.toList_eq];cases s with | mk d=>cases d with | mk l=>cases l <;> rfl
theorem size_zero {s:BA} (h:s.toList=[]):(s.size==0)=true:=by rw [<- empty_iff,h]; rfl
theorem size_pos {s:BA} (h:¬ s.toList=[]):(s.size==0)=false:=by rw [<- empty_iff,List.isEmpty_eq_false_iff]; exact h
theorem meth189 (bg:Nat) (a:Option Addr) (n c:Nat) (hn:n*8<=140737488351232) (m:Meth) (aa:Option Addr) (al ac:Nat) (ra:Option Addr) (rl rc:Nat) (w:World)
  (hg:w.cell? ⟨bg,0,none⟩=some (.slice a n c)) (hp:m.proc.size<=140737488351232)
  (hia:Ints w (.slice aa al ac) m.sig.args) (hsr:Strs w (.slice ra rl rc) m.sig.raises) :
  Calls Tryz.prog 189 #[.agg #[.string m.name,.slice aa al ac,.int .i64 m.sig.result,.slice ra rl rc,.string m.proc],.pointer (some ⟨bg,0,none⟩)] w fun e w'=>e=.returned (.bool (!methB n m))/\Ext w w':=by
 have hl:=cell_lt hg;have hsg:=dh (signed190 a n c hn aa al ac ra rl rc m.sig _ (Ints.mono (Ext.alloc w (.cells #[.string m.name,.slice aa al ac,.int .i64 m.sig.result,.slice ra rl rc,.string m.proc] 88)) hia) (Strs.mono (Ext.alloc _ _) hsr))
 go_enter Tryz.func189,Tryz.ntmps189
 go_wp2_with fail;refine hsg.out.mono ?_;rintro e w2 ⟨rfl,hE⟩;have h4:=hE.cell (cell_new w #[.string m.name,.slice aa al ac,.int .i64 m.sig.result,.slice ra rl rc,.string m.proc] 88 4 _ rfl);have HE:=dh hE; clear hE;go_wp2_with (go_at_call 86; refine (isSymbol86 _ hp _).mono ?_; rintro e wN ⟨rfl,hE⟩; have HE:=dh hE; clear hE)
 ·go_ret;exact ⟨ret_bool (by rw [methB,‹signedB n m.sig=true›,size_zero ‹_›]; rfl),by (repeat (first | exact Ext.refl _ | (refine Ext.trans ?_ (Hid.out (by assumption))) | (refine Ext.trans ?_ (Ext.alloc _ _)) | (refine Ext.trans ?_ (Ext.drew _)) | (refine below_drewN ?_ _)))⟩
 ·go_ret;exact ⟨ret_bool (by rw [methB,‹signedB n m.sig=true›,empty_iff,size_pos ‹_›]; rfl),by (repeat (first | exact Ext.refl _ | (refine Ext.trans ?_ (Hid.out (by assumption))) | (refine Ext.trans ?_ (Ext.alloc _ _)) | (refine Ext.trans ?_ (Ext.drew _)) | (refine below_drewN ?_ _)))⟩
 ·go_ret;exact ⟨ret_bool (by rw [methB,(by simpa using ‹¬signedB n m.sig=true›:signedB n m.sig=false)]; rfl),by (repeat (first | exact Ext.refl _ | (refine Ext.trans ?_ (Hid.out (by assumption))) | (refine Ext.trans ?_ (Ext.alloc _ _)) | (refine Ext.trans ?_ (Ext.drew _)) | (refine below_drewN ?_ _)))⟩
theorem names_eq {α:Type} [Inhabited α] (xs:List α) (f:α->BA):(List.range xs.length).map (fun k=>Value.string (f (nth xs k)))=(xs.map f).map Value.string:=by
 conv=>rhs; rw [<- range_map_nth xs]
 simp
theorem enters174:Enters Tryz.prog 174:=enters_of Tryz.func174 (by kernel_rfl) rfl
theorem enters175:Enters Tryz.prog 175:=enters_of Tryz.func175 (by kernel_rfl) rfl
theorem name174 (p:Part) (w:World):Calls Tryz.prog 174 #[.agg #[.string p.name,.int .i64 p.type]] w fun e w'=>e=.returned (.string p.name)/\Ext w w':=by
 go_enter Tryz.func174,Tryz.ntmps174
 go_wp2;go_ret;exact ⟨rfl,by (repeat (first | exact Ext.refl _ | (refine Ext.trans ?_ (Hid.out (by assumption))) | (refine Ext.trans ?_ (Ext.alloc _ _)) | (refine Ext.trans ?_ (Ext.drew _)) | (refine below_drewN ?_ _)))⟩
theorem name175 (p:Part) (w:World):Calls Tryz.prog 175 #[.agg #[.string p.name,.int .i64 p.type]] w fun e w'=>e=.returned (.string p.name)/\Ext w w':=by
 go_enter Tryz.func175,Tryz.ntmps175
 go_wp2;go_ret;exact ⟨rfl,by (repeat (first | exact Ext.refl _ | (refine Ext.trans ?_ (Hid.out (by assumption))) | (refine Ext.trans ?_ (Ext.alloc _ _)) | (refine Ext.trans ?_ (Ext.drew _)) | (refine below_drewN ?_ _)))⟩
def NamesPost {α:Type} (xs:List α) (f:α->BA) (w:World) (e:Ending) (w':World):Prop :=
 ∃ va vc,e=.returned (.slice va xs.length vc)/\Strs w' (.slice va xs.length vc) (xs.map f)/\Ext w w'
theorem names_post {α:Type} [Inhabited α] {xs:List α} {f:α->BA} {w w':World} {v:Value} (h:w'.ownsRow w.heap.size 9 1 v xs.length ((List.range xs.length).map fun k=>Value.string (f (nth xs k)))) (hE:Ext w w')
  (hn:xs.length*8<=maxBytes) (hb:∀ x,x∈xs->(f x).size<=maxBytes):NamesPost xs f w (.returned v) w':=by
 rw [names_eq] at h;have hs:=owns_strs h hn (fun s hs=>by
  obtain ⟨x,hx,rfl⟩:=List.mem_map.1 hs;exact hb x hx)
 have hs':=hs;obtain ⟨va,vc,hv,_⟩:=hs;subst hv;rw [List.length_map] at hs' ⊢;exact ⟨va,vc,rfl,hs',hE⟩
theorem mem_nth {α:Type} [Inhabited α] {xs:List α} {x:α} (h:x∈xs):∃ i,i<xs.length/\nth xs i=x:=by
 obtain ⟨i,hi,rfl⟩:=List.getElem_of_mem h;exact ⟨i,hi,nth_eq hi⟩
theorem names184 (ma:Option Addr) (ml mc:Nat) (xs:List Meth) (w:World) (hm:Meths w (.slice ma ml mc) xs) :
  Calls Tryz.prog 184 #[.slice ma ml mc,.func (.func 185) #[] #[]] w (NamesPost xs (·.name) w):=by
 have hb:=(SlW.bound hm).2;obtain rfl:=SlW.len hm;refine (turned184 185 enters185 #[] ma _ mc xs (fun k=>(nth xs k).name) w hm (fun k w1 aa al ac ra rl rc hk hE h1 h2=>name185 _ _ _ _ _ _ _ _ _ w1)).mono ?_;rintro e w2 ⟨v,rfl,hown,hE⟩;refine names_post hown hE (by unfold maxBytes; omega) (fun x hx=>?_);obtain ⟨i,hi,rfl⟩:=mem_nth hx;obtain ⟨b,off,aa,al,ac,ra,rl,rc,_,_,_,_,_,_,_,_,_,_,_,h,_⟩:=Meths.at hm hi;exact h
theorem names186 (ma:Option Addr) (ml mc:Nat) (xs:List Over) (w:World) (hm:Overs w (.slice ma ml mc) xs) :
  Calls Tryz.prog 186 #[.slice ma ml mc,.func (.func 187) #[] #[]] w (NamesPost xs (·.name) w):=by
 have hb:=(SlW.bound hm).2;obtain rfl:=SlW.len hm;refine (turned186 187 enters187 #[] ma _ mc xs (fun k=>(nth xs k).name) w hm (fun k w1 hk hE=>name187 _ w1)).mono ?_;rintro e w2 ⟨v,rfl,hown,hE⟩;refine names_post hown hE (by unfold maxBytes; omega) (fun x hx=>?_);obtain ⟨i,hi,rfl⟩:=mem_nth hx;obtain ⟨b,off,_,_,_,_,h,_⟩:=Overs.at hm hi;exact h
theorem names173 (F:Nat) (hF:Enters Tryz.prog F) (ma:Option Addr) (ml mc:Nat) (xs:List Part) (w:World) (hm:Parts w (.slice ma ml mc) xs)
  (hf:∀ (p:Part) (w:World),Calls Tryz.prog F #[.agg #[.string p.name,.int .i64 p.type]] w fun e w'=>e=.returned (.string p.name)/\Ext w w') :
  Calls Tryz.prog 173 #[.slice ma ml mc,.func (.func F) #[] #[]] w (NamesPost xs (·.name) w):=by
 have hb:=(SlW.bound hm).2;obtain rfl:=SlW.len hm;refine (turned173 F hF #[] ma _ mc xs (fun k=>(nth xs k).name) w hm (fun k w1 hk hE=>hf _ w1)).mono ?_;rintro e w2 ⟨v,rfl,hown,hE⟩;refine names_post hown hE (by unfold maxBytes; omega) (fun x hx=>?_);obtain ⟨i,hi,rfl⟩:=mem_nth hx;obtain ⟨b,off,_,_,_,_,h,_⟩:=Parts.at hm hi;exact h
theorem u8s_new (w:World) (l:List Int) (hl:l.length<=100):U8s (w.alloc (.cells (l.map (Value.int .u8)).toArray 5)) (.slice (some ⟨w.heap.size,0,none⟩) l.length l.length) l:=by
 refine ⟨some ⟨w.heap.size,0,none⟩,l.length,rfl,Nat.le_refl _,by unfold maxBytes; omega,fun i x hi=>⟨w.heap.size,0,[.int .u8 x],rfl,rfl,rfl,fun j u hj=>?_⟩⟩
 match j,hj with
 | 0,hj =>
  cases hj;rw [Nat.zero_add,Nat.mul_one,Nat.add_zero];exact cell_new w _ 5 i _ (by simp [hi])
theorem contains182_p (F:FuncId) (hF:Enters Tryz.prog F) (cap:Array Value) (a:Option Addr) (n c:Nat) (xs:List Part) (w:World) (p:Part->Bool) (hx:Parts w (.slice a n c) xs)
  (hf:∀ k w1,k<n->Ext w w1->Calls Tryz.prog F (#[.agg #[.string (nth xs k).name,.int .i64 (nth xs k).type]]++cap) w1 (fun e w2=>e=.returned (.bool (p (nth xs k)))/\Ext w1 w2)) :
  Calls Tryz.prog 182 #[.slice a n c,.func (.func F) #[] cap] w fun e w2=>e=.returned (.bool (xs.any p))/\Ext w w2:=by
 have hb:=(SlW.bound hx).2;obtain rfl:=SlW.len hx;rw [<- any_range xs p];exact containsFunc182_p F hF cap a _ c (by omega) (fun k j=>if j=0 then .string (nth xs k).name else .int .i64 (nth xs k).type) w _ (fun w1 hE i hi=>by
  obtain ⟨b,off,ha,_,hc0,hc1,_⟩:=Parts.at (Parts.mono hE hx) hi;exact ⟨b,off,ha,hc0,hc1⟩) hf
theorem contains191_p (F:FuncId) (hF:Enters Tryz.prog F) (cap:Array Value) (a:Option Addr) (n c:Nat) (xs:List Over) (w:World) (p:Over->Bool) (hx:Overs w (.slice a n c) xs)
  (hf:∀ k w1,k<n->Ext w w1->Calls Tryz.prog F (#[.agg #[.string (nth xs k).name,.string (nth xs k).proc]]++cap) w1 (fun e w2=>e=.returned (.bool (p (nth xs k)))/\Ext w1 w2)) :
  Calls Tryz.prog 191 #[.slice a n c,.func (.func F) #[] cap] w fun e w2=>e=.returned (.bool (xs.any p))/\Ext w w2:=by
 have hb:=(SlW.bound hx).2;obtain rfl:=SlW.len hx;rw [<- any_range xs p];exact containsFunc191_p F hF cap a _ c (by omega) (fun k j=>if j=0 then .string (nth xs k).name else .string (nth xs k).proc) w _ (fun w1 hE i hi=>by
  obtain ⟨b,off,ha,_,hc0,hc1,_⟩:=Overs.at (Overs.mono hE hx) hi;exact ⟨b,off,ha,hc0,hc1⟩) hf
theorem contains188_m (F:FuncId) (hF:Enters Tryz.prog F) (cap:Array Value) (a:Option Addr) (n c:Nat) (xs:List Meth) (w:World) (p:Meth->Bool) (hx:Meths w (.slice a n c) xs)
  (hf:∀ k w1 (aa:Option Addr) (al ac:Nat) (ra:Option Addr) (rl rc:Nat),k<n->Ext w w1->Ints w1 (.slice aa al ac) (nth xs k).sig.args->Strs w1 (.slice ra rl rc) (nth xs k).sig.raises ->
   Calls Tryz.prog F (#[.agg #[.string (nth xs k).name,.slice aa al ac,.int .i64 (nth xs k).sig.result,.slice ra rl rc,.string (nth xs k).proc]]++cap) w1 (fun e w2=>e=.returned (.bool (p (nth xs k)))/\Ext w1 w2)) :
  Calls Tryz.prog 188 #[.slice a n c,.func (.func F) #[] cap] w fun e w2=>e=.returned (.bool (xs.any p))/\Ext w w2:=by
 have hb:=(SlW.bound hx).2;obtain rfl:=SlW.len hx;rw [<- any_range xs p];have key:∀ k,k<xs.length->∃ (aa:Option Addr) (al ac:Nat) (ra:Option Addr) (rl rc:Nat),(∀ j v,(#[Value.string (nth xs k).name,.slice aa al ac,.int .i64 (nth xs k).sig.result,.slice ra rl rc,.string (nth xs k).proc])[j]? = some v ->
   ((a.bind fun ad=>w.cell? ⟨ad.block,ad.off+k*5+j,none⟩).getD undef)=v)/\Ints w (.slice aa al ac) (nth xs k).sig.args/\Strs w (.slice ra rl rc) (nth xs k).sig.raises:=by
  intro k hk;obtain ⟨b,off,aa,al,ac,ra,rl,rc,rfl,_,hc0,hc1,hc2,hc3,hc4,h1,h2,_⟩:=Meths.at hx hk;refine ⟨aa,al,ac,ra,rl,rc,fun j v hj=>?_,h1,h2⟩
  match j,hj with
  | 0,hj=>cases hj; simp [hc0]
  | 1,hj=>cases hj; simp [hc1]
  | 2,hj=>cases hj; simp [hc2]
  | 3,hj=>cases hj; simp [hc3]
  | 4,hj=>cases hj; simp [hc4]
  | j+5,hj=>simp at hj
 refine containsFunc188_p F hF cap a _ c (by omega) (fun k j=>(a.bind fun ad=>w.cell? ⟨ad.block,ad.off+k*5+j,none⟩).getD undef) w _ (fun w1 hE i hi=>?_) (fun k w1 hk hE=>?_)
 ·obtain ⟨aa,al,ac,ra,rl,rc,hv,_,_⟩:=key i hi;obtain ⟨b,off,aa',al',ac',ra',rl',rc',ha,_,hc0,hc1,hc2,hc3,hc4,_⟩:=Meths.at hx hi;subst ha;refine ⟨b,off,rfl,?_,?_,?_,?_,?_⟩
  ·rw [hE.cell hc0]; simp [hc0]
  ·rw [hE.cell hc1]; simp [hc1]
  ·rw [hE.cell hc2]; simp [hc2]
  ·rw [hE.cell hc3]; simp [hc3]
  ·rw [hE.cell hc4]; simp [hc4]
 ·obtain ⟨aa,al,ac,ra,rl,rc,hv,h1,h2⟩:=key k hk;have:=hf k w1 aa al ac ra rl rc hk hE (Ints.mono hE h1) (Strs.mono hE h2);rw [show #[Value.agg #[(a.bind fun ad=>w.cell? ⟨ad.block,ad.off+k*5+0,none⟩).getD undef,(a.bind fun ad=>w.cell? ⟨ad.block,ad.off+k*5+1,none⟩).getD undef,(a.bind fun ad=>w.cell? ⟨ad.block,ad.off+k*5+2,none⟩).getD undef,
   (a.bind fun ad=>w.cell? ⟨ad.block,ad.off+k*5+3,none⟩).getD undef,(a.bind fun ad=>w.cell? ⟨ad.block,ad.off+k*5+4,none⟩).getD undef]] =
   #[Value.agg #[.string (nth xs k).name,.slice aa al ac,.int .i64 (nth xs k).sig.result,.slice ra rl rc,.string (nth xs k).proc]] by
    rw [hv 0 _ rfl,hv 1 _ rfl,hv 2 _ rfl,hv 3 _ rfl,hv 4 _ rfl]; rfl]
  exact this
theorem object176 (a:Option Addr) (n c:Nat) (g:List Ty) (t:Ty) (pa:Option Addr) (pl pc:Nat) (ma:Option Addr) (ml mc:Nat) (oa:Option Addr) (ol oc:Nat) (w:World)
  (hg:Graph w (.slice a n c) g) (hm:Meths w (.slice ma ml mc) t.methods) (ho:Overs w (.slice oa ol oc) t.overs) :
  Calls Tryz.prog 176 #[.agg #[.slice a n c],.agg (tyCells t (.slice pa pl pc) (.slice ma ml mc) (.slice oa ol oc)).toArray] w fun e w'=>e=.returned (.bool (objectB g t))/\Ext w w':=by
 unfold tyCells;have hb:=(SlW.bound hg).2;obtain rfl:=SlW.len hg;have hspec:objectB g t=(!(t.methods.any fun m=>!methB g.length m)&&!(t.overs.any fun o=>!isSymbolB o.proc)&&differentB (t.methods.map (·.name)) 8&&differentB (t.overs.map (·.name)) 8&&overB g t.super [12,6,7,8,13]):=by
  unfold objectB;rw [List.not_any_eq_all_not,List.not_any_eq_all_not];simp only [Bool.not_not]
  rfl
 have Hspec:=dh hspec; clear hspec
 go_enter Tryz.func176,Tryz.ntmps176
 go_upto_region 1 with (fail);obtain ⟨W,hW⟩:∃ W:World,W=(w.alloc (.cells #[.slice a g.length c] 118)).alloc (.cells #[.int .u8 t.kind,.int .i64 t.low,.int .i64 t.high,.bool t.branded,.string t.brand,.string t.opq,.int .i64 t.super,.slice pa pl pc,.slice ma ml mc,.slice oa ol oc] 50):=⟨_,rfl⟩;have hEW:Ext w W:=by rw [hW]; exact by (repeat (first | exact Ext.refl _ | (refine Ext.trans ?_ (Hid.out (by assumption))) | (refine Ext.trans ?_ (Ext.alloc _ _)) | (refine Ext.trans ?_ (Ext.drew _)) | (refine below_drewN ?_ _)))
 have hbx:W.cell? ⟨w.heap.size,0,none⟩=some (.slice a g.length c):=by rw [hW]; simp
 have h6:W.cell? ⟨w.heap.size+1,6,none⟩=some (.int .i64 t.super):=by rw [hW]; simp
 have h8:W.cell? ⟨w.heap.size+1,8,none⟩=some (.slice ma ml mc):=by rw [hW]; simp
 have h9:W.cell? ⟨w.heap.size+1,9,none⟩=some (.slice oa ol oc):=by rw [hW]; simp
 rw [<- hW];clear hW;have hg:=Graph.mono hEW hg;have hm:=Meths.mono hEW hm;have ho:=Overs.mono hEW ho;have HEW:=dh hEW; clear hEW;go_wp2_with fail;refine (names184 _ _ _ _ _ hm).mono ?_;rintro e w1 ⟨va,vc,rfl,hs1,hE⟩;have hg:=Graph.mono hE hg;have hm:=Meths.mono hE hm;have ho:=Overs.mono hE ho;have hbx:=hE.cell hbx;have h6:=hE.cell h6;have h8:=hE.cell h8;have h9:=hE.cell h9;have HE1:=dh hE; clear hE;go_wp2_with fail;refine (names186 _ _ _ _ _ ho).mono ?_;rintro e w2 ⟨ua,uc,rfl,hs2,hE⟩;have hg:=Graph.mono hE hg;have hm:=Meths.mono hE hm;have ho:=Overs.mono hE ho;have hs1:=Strs.mono hE hs1;have hbx:=hE.cell hbx;have h6:=hE.cell h6;have h8:=hE.cell h8;have h9:=hE.cell h9;have HE2:=dh hE; clear hE;go_wp2_with fail;refine (contains188_m 189 enters189 #[.pointer (some ⟨w.heap.size,0,none⟩)] _ _ _ _ w2 (fun m=>!methB g.length m) hm
  (fun k w3 aa al ac ra rl rc hk hE h1 h2=>meth189 _ a _ c (by omega) (nth t.methods k) aa al ac ra rl rc w3 (hE.cell hbx) ?_ h1 h2)).mono ?_
 ·obtain ⟨b,off,aa,al,ac,ra,rl,rc,_,_,_,_,_,_,_,_,_,_,_,_,h⟩:=Meths.at hm hk;exact h
 rintro e w3 ⟨rfl,hE⟩;have hg:=Graph.mono hE hg;have ho:=Overs.mono hE ho;have hs1:=Strs.mono hE hs1;have hs2:=Strs.mono hE hs2;have hbx:=hE.cell hbx;have h6:=hE.cell h6;have h9:=hE.cell h9;have HE3:=dh hE; clear hE;generalize (t.methods.any fun m=>!methB g.length m)=b1 at *;cases b1
 ·go_wp2_with fail;refine (contains191_p 192 enters192 #[] _ _ _ _ w3 (fun o=>!isSymbolB o.proc) ho (fun k w4 hk hE=>proc192 _ ?_ w4)).mono ?_
  ·obtain ⟨b,off,_,_,_,_,_,h⟩:=Overs.at ho hk;exact h
  rintro e w4 ⟨rfl,hE⟩;have hg:=Graph.mono hE hg;have hs1:=Strs.mono hE hs1;have hs2:=Strs.mono hE hs2;have hbx:=hE.cell hbx;have h6:=hE.cell h6;have HE4:=dh hE; clear hE;generalize (t.overs.any fun o=>!isSymbolB o.proc)=b2 at *;cases b2
  ·go_wp2_with fail;refine (different172 _ _ _ _ 8 _ hs1).mono ?_;rintro e w5 ⟨rfl,hE⟩;have hg:=Graph.mono hE hg;have hs2:=Strs.mono hE hs2;have hbx:=hE.cell hbx;have h6:=hE.cell h6;have HE5:=dh hE; clear hE;cases hd1:differentB (t.methods.map (·.name)) 8
   ·go_wp2_with fail;go_ret;exact ⟨ret_bool (by rw [Hspec.out,hd1]; rfl),by (repeat (first | exact Ext.refl _ | (refine Ext.trans ?_ (Hid.out (by assumption))) | (refine Ext.trans ?_ (Ext.alloc _ _)) | (refine Ext.trans ?_ (Ext.drew _)) | (refine below_drewN ?_ _)))⟩
   ·go_wp2_with fail;refine (different172 _ _ _ _ 8 _ hs2).mono ?_;rintro e w6 ⟨rfl,hE⟩;have hg:=Graph.mono hE hg;have hbx:=hE.cell hbx;have h6:=hE.cell h6;have HE6:=dh hE; clear hE;cases hd2:differentB (t.overs.map (·.name)) 8
    ·go_wp2_with fail;go_ret;exact ⟨ret_bool (by rw [Hspec.out,hd1,hd2]; rfl),by (repeat (first | exact Ext.refl _ | (refine Ext.trans ?_ (Hid.out (by assumption))) | (refine Ext.trans ?_ (Ext.alloc _ _)) | (refine Ext.trans ?_ (Ext.drew _)) | (refine below_drewN ?_ _)))⟩
    ·go_wp2_with fail;refine (over177 a _ c g _ _ _ [12,6,7,8,13] t.super _ (Graph.mono (Ext.alloc _ _) hg) (u8s_new w6 [12,6,7,8,13] (by decide))).mono ?_;rintro e w7 ⟨rfl,hE⟩;have HE7:=dh hE; clear hE;go_wp2_with fail;go_ret;exact ⟨ret_bool (by rw [Hspec.out,hd1,hd2]; rfl),by (repeat (first | exact Ext.refl _ | (refine Ext.trans ?_ (Hid.out (by assumption))) | (refine Ext.trans ?_ (Ext.alloc _ _)) | (refine Ext.trans ?_ (Ext.drew _)) | (refine below_drewN ?_ _)))⟩
  ·go_wp2_with fail;go_ret;exact ⟨ret_bool (by rw [Hspec.out]; rfl),by (repeat (first | exact Ext.refl _ | (refine Ext.trans ?_ (Hid.out (by assumption))) | (refine Ext.trans ?_ (Ext.alloc _ _)) | (refine Ext.trans ?_ (Ext.drew _)) | (refine below_drewN ?_ _)))⟩
 ·go_wp2_with fail;go_ret;exact ⟨ret_bool (by rw [Hspec.out]; rfl),by (repeat (first | exact Ext.refl _ | (refine Ext.trans ?_ (Hid.out (by assumption))) | (refine Ext.trans ?_ (Ext.alloc _ _)) | (refine Ext.trans ?_ (Ext.drew _)) | (refine below_drewN ?_ _)))⟩
end
section
open Go.RowKit Go.Proofs
section
variable {P:Program} {ops:Array Oper} {Q:Exit->Act->World->Prop} {md:Region.Mode} {S:World->Prop}
def wpX (P:Program) (md:Region.Mode) (ops:Array Oper) (fin:Nat) (Q:Exit->Act->World->Prop) (S:World->Prop):Nat->Array Bool->Act->World->Prop
 | 0,listed,a,w=>Region.ready md ops listed=[]/\Q .normal a w
 | fuel+1,listed,a,w =>
  (Region.ready md ops listed=[]->Q .normal a w) /\
  ∀ i∈Region.ready md ops listed,wpOp P ops Q i (fun a' w'=>(i≠fin->S w')/\wpX P md ops fin Q S fuel (listed.setIfInBounds i true) a' w') a w
def finOk (md:Region.Mode) (ops:Array Oper) (fin:Nat):Bool :=
 match ops[fin]? with
 | none=>true
 | some o=>(List.range ops.size).all fun k=>k==fin||o.after.any fun e=>Region.binds md e&&e.on==k
variable {fin:Nat}
theorem wpAny_of_X:∀ (fuel:Nat) (listed:Array Bool) (a:Act) (w:World),wpX P md ops fin Q S fuel listed a w->wpAny P md ops Q fuel listed a w
 | 0,_,_,_,h=>h
 | fuel+1,_,_,_,h=>⟨h.1,fun i hi=>wpOp_mono (fun a' w' h'=>wpAny_of_X fuel _ a' w' h'.2) (h.2 i hi)⟩
theorem wpX_mono {S':World->Prop} (hS:∀ w,S' w->S w):∀ (fuel:Nat) (listed:Array Bool) (a:Act) (w:World),wpX P md ops fin Q S' fuel listed a w->wpX P md ops fin Q S fuel listed a w
 | 0,_,_,_,h=>h
 | fuel+1,_,_,_,h=>⟨h.1,fun i hi=>wpOp_mono (fun a' w' h'=>⟨fun hn=>hS _ (h'.1 hn),wpX_mono hS fuel _ a' w' h'.2⟩) (h.2 i hi)⟩
theorem wpX_first (hfin:finOk md ops fin=true) {i:Nat} {oi:Oper} {v:Value} (hi:ops[i]? = some oi) (hsel:∀ (j:Nat) (o:Oper) cs b,ops[j]? = some o->o.op≠.select cs b)
  (hQ:∀ c a w,Q (.panic c) (a.put oi.dst v) w->Q (.panic c) a w) :
  ∀ (fuel:Nat) (listed:Array Bool) (a:Act) (w:World),
   (∀ j oj,ops[j]? = some oj->j≠i->listed.getD j true=false->(∀ e∈oj.after,Region.binds md e=true->e.on≠i)->oi.apart ops oj=true) ->
   i∈Region.ready md ops listed->YieldsIf P ops S oi v a->S w ->
   wpX P md ops fin Q S fuel (listed.setIfInBounds i true) (a.put oi.dst v) w->wpX P md ops fin Q S (fuel+1) listed a w:=by
 intro fuel
 induction fuel with
 | zero =>
  intro listed a w _ hr hy hS H;refine ⟨fun h=>(by rw [h] at hr; cases hr),fun j hj=>?_⟩;by_cases hji:j=i
  ·subst hji; exact hy.wpOp hi hS ⟨fun _=>hS,H⟩
  ·have:=ready_mono hj hji;rw [H.1] at this;cases this
 | succ fuel ih =>
  intro listed a w hfree hr hy hS H;refine ⟨fun h=>(by rw [h] at hr; cases hr),fun j hj=>?_⟩;by_cases hji:j=i
  ·subst hji; exact hy.wpOp hi hS ⟨fun _=>hS,H⟩
  ·have h1:=H.2 j (ready_mono hj hji);obtain ⟨hjun,oj,hoj,hall⟩:=mem_ready.1 hj;have hnot:∀ e∈oj.after,Region.binds md e=true->e.on≠i:=fun e he hb heq=>by
    have h1:=hall e he hb;have h0:=(mem_ready.1 hr).1;rw [heq] at h1;rcases Nat.lt_or_ge i listed.size with h' | h'
    ·simp [h'] at h0 h1; rw [h0] at h1; cases h1
    ·simp [Array.getElem?_eq_none h'] at h1
   have hnf:j≠fin:=by
    intro hjf;subst hjf;unfold finOk at hfin;rw [hoj] at hfin;have hlt:i<ops.size:=(Array.getElem?_eq_some_iff.1 hi).1;have:=List.all_eq_true.1 hfin i (List.mem_range.2 hlt);simp only [Bool.or_eq_true,beq_iff_eq,Ne.symm hji,false_or,Array.any_eq_true,Bool.and_eq_true] at this;obtain ⟨k,hk,hb,he⟩:=this;exact hnot _ (Array.getElem_mem hk) hb he
   have h2:=wpOp_putIf hoj (hfree j oj hoj hji hjun hnot) (fun cs b=>hsel i oi cs b hi) (fun cs b=>hsel j oj cs b hoj) hQ hy h1;have hfree':∀ k ok,ops[k]? = some ok->k≠i->(listed.setIfInBounds j true).getD k true=false ->
     (∀ e∈ok.after,Region.binds md e=true->e.on≠i)->oi.apart ops ok=true:=fun k ok hk hki hun hno=>by
    refine hfree k ok hk hki ?_ hno;by_cases hjk:j=k
    ·subst hjk; exact hjun
    ·rw [getD_set_ne true hjk] at hun; exact hun
   refine wpOp_mono (fun a' w' h3=>⟨fun _=>h3.2.1 hnf,ih (listed.setIfInBounds j true) a' w' hfree' (ready_mono hr (Ne.symm hji)) h3.1 (h3.2.1 hnf) ?_⟩) h2;rw [Array.setIfInBounds_comm _ _ hji];exact h3.2.2
def wpE (P:Program) (md:Region.Mode) (ops:Array Oper) (fin:Nat) (Q:Exit->Act->World->Prop) (fuel:Nat) (listed:Array Bool) (a:Act) (w:World):Prop :=
 finOk md ops fin=true/\wpX P md ops fin Q (Ext w) fuel listed a w
theorem wp_region_E {id:Nat} {a:Act} {w:World} (fin:Nat) (hm:P.follows .mixedOrders=true)
  (h:wpE P .any ops fin Q ops.size (Array.replicate ops.size false) a w.drew):(Code.region id ops true).wp P Q a w :=
 wp_region_any hm (wpAny_of_X _ _ _ _ h.2)
theorem wpE_take {i:Nat} {oi:Oper} {v:Value} {fuel:Nat} {listed:Array Bool} {a:Act} {w:World} (hi:ops[i]? = some oi)
  (hs:Region.noSelect ops=true) (hf:Region.free md ops listed i=true) (hr:(Region.ready md ops listed).contains i=true)
  (hQ:∀ c a w,Q (.panic c) (a.put oi.dst v) w->Q (.panic c) a w) (hy:YieldsIf P ops (Ext w) oi v a)
  (h:wpE P md ops fin Q fuel (listed.setIfInBounds i true) (a.put oi.dst v) w):wpE P md ops fin Q (fuel+1) listed a w :=
 ⟨h.1,wpX_first h.1 hi (Region.noSelect_spec hs) hQ fuel listed a w (Region.free_spec hi hf) (by simpa using hr) hy (Ext.refl w) h.2⟩
theorem tE {i:Nat} {oi:Oper} {v:Value} {fuel:Nat} {listed:Array Bool} {a:Act} {w:World} (h0:∀ w',Ext w w'->(execOp a.eval oi).run P w'=.ok (.value v) w')
  (h:wpE P md ops fin Q fuel (listed.setIfInBounds i true) (a.put oi.dst v) w) (hi:ops[i]? = some oi:=by exact rfl)
  (hs:Region.noSelect ops=true:=by kernel_rfl) (hf:Region.free md ops listed i=true:=by kernel_rfl) (hr:(Region.ready md ops listed).contains i=true:=by kernel_rfl)
  (hQ:∀ c a w,Q (.panic c) (a.put oi.dst v) w->Q (.panic c) a w:=by exact fun _ _ _ h=>h) (hw:Region.wanted oi (yielded ops a.tmps)=true:=by kernel_rfl):wpE P md ops fin Q (fuel+1) listed a w :=
 wpE_take hi hs hf hr hQ (Or.inl ⟨hw,h0⟩) h
theorem wpE_only {i:Nat} {oi:Oper} {fuel:Nat} {listed:Array Bool} {a:Act} {w:World} (hi:ops[i]? = some oi) (hfin:finOk md ops fin=true) (hr:Region.ready md ops listed=[i])
  (h:∀ K:Act->World->Prop,(∀ a' w',Ext w w'->wpE P md ops fin Q fuel (listed.setIfInBounds i true) a' w'->K a' w') ->
   if Region.wanted oi (yielded ops a.tmps) then oi.wp P a w K Q else K (a.put oi.dst undef) w):wpE P md ops fin Q (fuel+1) listed a w:=by
 refine ⟨hfin,fun h0=>absurd (hr ▸ h0) (by simp),fun j hj=>?_⟩;rw [hr] at hj;obtain rfl:=List.mem_singleton.1 hj;have:=h (fun a' w'=>(j≠fin->Ext w w')/\wpX P md ops fin Q (Ext w) fuel (listed.setIfInBounds j true) a' w')
  (fun a' w' hE hX=>⟨fun _=>hE,wpX_mono (fun u hu=>hE.trans hu) _ _ _ _ hX.2⟩)
 unfold wpOp;simp only [hi];split
 ·rename_i hw; rw [if_pos hw] at this; exact .inl this
 ·rename_i hw; rw [if_neg hw] at this; exact this
theorem wpE_last {oi:Oper} {fuel:Nat} {listed:Array Bool} {a:Act} {w:World} (hi:ops[fin]? = some oi) (hfin:finOk md ops fin=true) (hr:Region.ready md ops listed=[fin])
  (hd:Region.ready md ops (listed.setIfInBounds fin true)=[])
  (h:∀ K:Act->World->Prop,(∀ a' w',Q .normal a' w'->K a' w') ->
   if Region.wanted oi (yielded ops a.tmps) then oi.wp P a w K Q else K (a.put oi.dst undef) w):wpE P md ops fin Q (fuel+1) listed a w:=by
 refine ⟨hfin,fun h0=>absurd (hr ▸ h0) (by simp),fun j hj=>?_⟩;rw [hr] at hj;obtain rfl:=List.mem_singleton.1 hj;have hX:∀ a' w',Q .normal a' w'->wpX P md ops j Q (Ext w) fuel (listed.setIfInBounds j true) a' w':=fun a' w' hq=>by
  cases fuel with
  | zero=>exact ⟨hd,hq⟩
  | succ fuel=>exact ⟨fun _=>hq,by rw [hd]; simp⟩
 have:=h (fun a' w'=>(j≠j->Ext w w')/\wpX P md ops j Q (Ext w) fuel (listed.setIfInBounds j true) a' w')
  (fun a' w' hq=>⟨fun h=>absurd rfl h,hX a' w' hq⟩)
 unfold wpOp;simp only [hi];split
 ·rename_i hw; rw [if_pos hw] at this; exact .inl this
 ·rename_i hw; rw [if_neg hw] at this; exact this
theorem wpE_done {fuel:Nat} {listed:Array Bool} {a:Act} {w:World} (hfin:finOk md ops fin=true) (hr:Region.ready md ops listed=[]) (h:Q .normal a w):wpE P md ops fin Q fuel listed a w:=by
 refine ⟨hfin,?_⟩;cases fuel with
 | zero=>exact ⟨hr,h⟩
 | succ fuel=>exact ⟨fun _=>h,by rw [hr]; simp⟩
def wpM (P:Program) (md:Region.Mode) (ops:Array Oper) (fin bx:Nat) (Q:Exit->Act->World->Prop) (fuel:Nat) (listed:Array Bool) (a:Act) (w:World):Prop :=
 finOk md ops fin=true/\wpX P md ops fin Q (fun u=>w.grownBy u (some bx)) fuel listed a w
theorem wp_region_M {id:Nat} {a:Act} {w:World} (fin bx:Nat) (hm:P.follows .mixedOrders=true)
  (h:wpM P .any ops fin bx Q ops.size (Array.replicate ops.size false) a w.drew):(Code.region id ops true).wp P Q a w :=
 wp_region_any hm (wpAny_of_X _ _ _ _ h.2)
theorem grownBy_refl (w:World) (b:Option Nat):w.grownBy w b:=⟨rfl,rfl,rfl,Nat.le_refl _,fun _ _ _=>rfl⟩
theorem grownBy_ext {w u v:World} {b:Option Nat} (h:w.grownBy u b) (hE:Ext u v):w.grownBy v b :=
 ⟨hE.os.trans h.os,hE.tape.trans h.tape,hE.output.trans h.output,Nat.le_trans h.size hE.size,fun k hk hb=>(hE.block k (Nat.lt_of_lt_of_le hk h.size)).trans (h.block k hk hb)⟩
theorem grownBy_trans {w u v:World} {b:Option Nat} (h:w.grownBy u b) (k:u.grownBy v b):w.grownBy v b :=
 ⟨k.os.trans h.os,k.tape.trans h.tape,k.output.trans h.output,Nat.le_trans h.size k.size,fun j hj hb=>(k.block j (Nat.lt_of_lt_of_le hj h.size) hb).trans (h.block j hj hb)⟩
theorem grownBy_set {w u:World} {b:Nat} (h:w.grownBy u (some b)) (j:Nat) (v:Value):w.grownBy (u.setCell ⟨b,j,none⟩ v) (some b) :=
 grownBy_trans h ⟨rfl,rfl,rfl,by simp [World.setCell],fun k _ hb=>Below.heap_setCell _ _ _ _ (fun e=>hb (by rw [e]))⟩
theorem grownBy_drewN {w u:World} {b:Option Nat} (h:w.grownBy u b) (n:Nat):w.grownBy (u.drewN n) b:=⟨h.os,h.tape,h.output,h.size,h.block⟩
theorem wpM_take {bx i:Nat} {oi:Oper} {v:Value} {fuel:Nat} {listed:Array Bool} {a:Act} {w:World} (hi:ops[i]? = some oi)
  (hs:Region.noSelect ops=true) (hf:Region.free md ops listed i=true) (hr:(Region.ready md ops listed).contains i=true)
  (hQ:∀ c a w,Q (.panic c) (a.put oi.dst v) w->Q (.panic c) a w) (hy:YieldsIf P ops (fun u=>w.grownBy u (some bx)) oi v a)
  (h:wpM P md ops fin bx Q fuel (listed.setIfInBounds i true) (a.put oi.dst v) w):wpM P md ops fin bx Q (fuel+1) listed a w :=
 ⟨h.1,wpX_first h.1 hi (Region.noSelect_spec hs) hQ fuel listed a w (Region.free_spec hi hf) (by simpa using hr) hy (grownBy_refl w _) h.2⟩
theorem wpM_only {bx i:Nat} {oi:Oper} {fuel:Nat} {listed:Array Bool} {a:Act} {w:World} (hi:ops[i]? = some oi) (hfin:finOk md ops fin=true) (hr:Region.ready md ops listed=[i])
  (h:∀ K:Act->World->Prop,(∀ a' w',w.grownBy w' (some bx)->wpE P md ops fin Q fuel (listed.setIfInBounds i true) a' w'->K a' w') ->
   if Region.wanted oi (yielded ops a.tmps) then oi.wp P a w K Q else K (a.put oi.dst undef) w):wpM P md ops fin bx Q (fuel+1) listed a w:=by
 refine ⟨hfin,fun h0=>absurd (hr ▸ h0) (by simp),fun j hj=>?_⟩;rw [hr] at hj;obtain rfl:=List.mem_singleton.1 hj;have:=h (fun a' w'=>(j≠fin->w.grownBy w' (some bx))/\wpX P md ops fin Q (fun u=>w.grownBy u (some bx)) fuel (listed.setIfInBounds j true) a' w')
  (fun a' w' hE hX=>⟨fun _=>hE,wpX_mono (fun u hu=>grownBy_ext hE hu) _ _ _ _ hX.2⟩)
 unfold wpOp;simp only [hi];split
 ·rename_i hw; rw [if_pos hw] at this; exact .inl this
 ·rename_i hw; rw [if_neg hw] at this; exact this
theorem wpM_keep {bx i:Nat} {oi:Oper} {fuel:Nat} {listed:Array Bool} {a:Act} {w:World} (hi:ops[i]? = some oi) (hfin:finOk md ops fin=true) (hr:Region.ready md ops listed=[i])
  (h:∀ K:Act->World->Prop,(∀ a' w',w.grownBy w' (some bx)->wpM P md ops fin bx Q fuel (listed.setIfInBounds i true) a' w'->K a' w') ->
   if Region.wanted oi (yielded ops a.tmps) then oi.wp P a w K Q else K (a.put oi.dst undef) w):wpM P md ops fin bx Q (fuel+1) listed a w:=by
 refine ⟨hfin,fun h0=>absurd (hr ▸ h0) (by simp),fun j hj=>?_⟩;rw [hr] at hj;obtain rfl:=List.mem_singleton.1 hj;have:=h (fun a' w'=>(j≠fin->w.grownBy w' (some bx))/\wpX P md ops fin Q (fun u=>w.grownBy u (some bx)) fuel (listed.setIfInBounds j true) a' w')
  (fun a' w' hE hX=>⟨fun _=>hE,wpX_mono (fun u hu=>grownBy_trans hE hu) _ _ _ _ hX.2⟩)
 unfold wpOp;simp only [hi];split
 ·rename_i hw; rw [if_pos hw] at this; exact .inl this
 ·rename_i hw; rw [if_neg hw] at this; exact this
theorem wpS_only {i:Nat} {oi:Oper} {fuel:Nat} {listed:Array Bool} {a:Act} {w:World} (hi:ops[i]? = some oi) (hr:Region.ready md ops listed=[i])
  (h:∀ K:Act->World->Prop,(∀ a' w',S w'->wpX P md ops fin Q S fuel (listed.setIfInBounds i true) a' w'->K a' w') ->
   if Region.wanted oi (yielded ops a.tmps) then oi.wp P a w K Q else K (a.put oi.dst undef) w):wpX P md ops fin Q S (fuel+1) listed a w:=by
 refine ⟨fun h0=>absurd (hr ▸ h0) (by simp),fun j hj=>?_⟩;rw [hr] at hj;obtain rfl:=List.mem_singleton.1 hj;have:=h (fun a' w'=>(j≠fin->S w')/\wpX P md ops fin Q S fuel (listed.setIfInBounds j true) a' w') (fun a' w' hE hX=>⟨fun _=>hE,hX⟩);unfold wpOp;simp only [hi];split
 ·rename_i hw; rw [if_pos hw] at this; exact .inl this
 ·rename_i hw; rw [if_neg hw] at this; exact this
theorem wpS_two {i j:Nat} {oi oj:Oper} {fuel:Nat} {listed:Array Bool} {a:Act} {w:World} (hi:ops[i]? = some oi) (hj:ops[j]? = some oj) (hr:Region.ready md ops listed=[i,j])
  (h:∀ K:Act->World->Prop,(∀ a' w',S w'->wpX P md ops fin Q S fuel (listed.setIfInBounds i true) a' w'->K a' w') ->
   if Region.wanted oi (yielded ops a.tmps) then oi.wp P a w K Q else K (a.put oi.dst undef) w)
  (h2:∀ K:Act->World->Prop,(∀ a' w',S w'->wpX P md ops fin Q S fuel (listed.setIfInBounds j true) a' w'->K a' w') ->
   if Region.wanted oj (yielded ops a.tmps) then oj.wp P a w K Q else K (a.put oj.dst undef) w):wpX P md ops fin Q S (fuel+1) listed a w:=by
 refine ⟨fun h0=>absurd (hr ▸ h0) (by simp),fun k hk=>?_⟩;rw [hr] at hk;rcases List.mem_cons.1 hk with rfl | hk
 ·have:=h (fun a' w'=>(k≠fin->S w')/\wpX P md ops fin Q S fuel (listed.setIfInBounds k true) a' w') (fun a' w' hE hX=>⟨fun _=>hE,hX⟩);unfold wpOp;simp only [hi];split
  ·rename_i hw; rw [if_pos hw] at this; exact .inl this
  ·rename_i hw; rw [if_neg hw] at this; exact this
 ·obtain rfl:=List.mem_singleton.1 hk;have:=h2 (fun a' w'=>(k≠fin->S w')/\wpX P md ops fin Q S fuel (listed.setIfInBounds k true) a' w') (fun a' w' hE hX=>⟨fun _=>hE,hX⟩);unfold wpOp;simp only [hj];split
  ·rename_i hw; rw [if_pos hw] at this; exact .inl this
  ·rename_i hw; rw [if_neg hw] at this; exact this
theorem wpS_done {fuel:Nat} {listed:Array Bool} {a:Act} {w:World} (hr:Region.ready md ops listed=[]) (h:Q .normal a w):wpX P md ops fin Q S fuel listed a w:=by
 cases fuel with
 | zero=>exact ⟨hr,h⟩
 | succ fuel=>exact ⟨fun _=>h,by rw [hr]; simp⟩
end
section
variable {P:Program} {ops:Array Oper} {Q:Exit->Act->World->Prop} {md:Region.Mode} {fin:Nat}
theorem Zf (i:Nat) {oi:Oper} {v:Value} {fuel:Nat} {listed l1:Array Bool} {a a1:Act} {w:World} (hi:ops[i]? = some oi) (h0:∀ w',Ext w w'->(execOp a.eval oi).run P w'=.ok (.value v) w') (h:wpE P md ops fin Q fuel l1 a1 w) (hs:Region.noSelect ops=true:=by kernel_rfl) (hf:Region.free md ops listed i=true:=by kernel_rfl) (hr:(Region.ready md ops listed).contains i=true:=by kernel_rfl) (hQ:∀ c a w,Q (.panic c) (a.put oi.dst v) w->Q (.panic c) a w:=by exact fun _ _ _ h=>h) (hw:Region.wanted oi (yielded ops a.tmps)=true:=by kernel_rfl) (hp:a.put oi.dst v=a1:=by first | ((try simp only [Act.put,nm]); with_reducible rfl) | (simp only [Act.put,nm]; done)) (hl1:listed.setIfInBounds i true=l1:=by first | ((try simp only [Act.put,nm]); with_reducible rfl) | (simp only [Act.put,nm]; done)):wpE P md ops fin Q (fuel+1) listed a w:=by
 subst hp; subst hl1; exact wpE_take hi hs hf hr hQ (Or.inl ⟨hw,h0⟩) h
theorem Zg (i:Nat) {oi:Oper} {v:Value} {fuel:Nat} {listed l1:Array Bool} {a a1:Act} {w:World} (h:wpE P md ops fin Q fuel l1 a1 w) (hi:ops[i]? = some oi:=by exact rfl) (h0:∀ w',Ext w w'->(execOp a.eval oi).run P w'=.ok (.value v) w':=by intro w9 hE; clear hE; first | (go_simp; done) | (go_simp; with_reducible rfl)) (hs:Region.noSelect ops=true:=by kernel_rfl) (hf:Region.free md ops listed i=true:=by kernel_rfl) (hr:(Region.ready md ops listed).contains i=true:=by kernel_rfl) (hQ:∀ c a w,Q (.panic c) (a.put oi.dst v) w->Q (.panic c) a w:=by exact fun _ _ _ h=>h) (hw:Region.wanted oi (yielded ops a.tmps)=true:=by kernel_rfl) (hp:a.put oi.dst v=a1:=by first | ((try simp only [Act.put,nm]); with_reducible rfl) | (simp only [Act.put,nm]; done)) (hl1:listed.setIfInBounds i true=l1:=by first | ((try simp only [Act.put,nm]); with_reducible rfl) | (simp only [Act.put,nm]; done)):wpE P md ops fin Q (fuel+1) listed a w :=
 Zf i hi h0 h hs hf hr hQ hw hp hl1
theorem Zc (i:Nat) {oi:Oper} {v:Value} {fuel:Nat} {listed l1:Array Bool} {a a1:Act} {w:World} {ad:Addr} {u:Value} (hc:w.cell? ad=some u) (h:wpE P md ops fin Q fuel l1 a1 w) (hi:ops[i]? = some oi:=by exact rfl) (h0:∀ w',w'.cell? ad=some u->(execOp a.eval oi).run P w'=.ok (.value v) w':=by intro w9 hc; first | (go_simp; done) | (go_simp; with_reducible rfl)) (hs:Region.noSelect ops=true:=by kernel_rfl) (hf:Region.free md ops listed i=true:=by kernel_rfl) (hr:(Region.ready md ops listed).contains i=true:=by kernel_rfl) (hQ:∀ c a w,Q (.panic c) (a.put oi.dst v) w->Q (.panic c) a w:=by exact fun _ _ _ h=>h) (hw:Region.wanted oi (yielded ops a.tmps)=true:=by kernel_rfl) (hp:a.put oi.dst v=a1:=by first | ((try simp only [Act.put,nm]); with_reducible rfl) | (simp only [Act.put,nm]; done)) (hl1:listed.setIfInBounds i true=l1:=by first | ((try simp only [Act.put,nm]); with_reducible rfl) | (simp only [Act.put,nm]; done)):wpE P md ops fin Q (fuel+1) listed a w :=
 Zf i hi (fun w' hE=>h0 w' (hE.cell hc)) h hs hf hr hQ hw hp hl1
theorem Zo (i:Nat) {oi:Oper} {fuel:Nat} {listed:Array Bool} {a:Act} {w:World} (h:∀ K:Act->World->Prop,(∀ a' w',Ext w w'->wpE P md ops fin Q fuel (listed.setIfInBounds i true) a' w'->K a' w') ->
  if Region.wanted oi (yielded ops a.tmps) then oi.wp P a w K Q else K (a.put oi.dst undef) w) (hi:ops[i]? = some oi:=by exact rfl) (hfin:finOk md ops fin=true:=by kernel_rfl) (hr:Region.ready md ops listed=[i]:=by kernel_rfl):wpE P md ops fin Q (fuel+1) listed a w:=wpE_only hi hfin hr h
theorem Zs (i:Nat) {oi:Oper} {fuel:Nat} {listed l1:Array Bool} {a a1:Act} {w:World} (h:wpE P md ops fin Q fuel l1 a1 w) (hi:ops[i]? = some oi:=by exact rfl) (hs:Region.noSelect ops=true:=by kernel_rfl) (hf:Region.free md ops listed i=true:=by kernel_rfl) (hr:(Region.ready md ops listed).contains i=true:=by kernel_rfl) (hQ:∀ c a w,Q (.panic c) (a.put oi.dst undef) w->Q (.panic c) a w:=by exact fun _ _ _ h=>h) (hw:Region.wanted oi (yielded ops a.tmps)=false:=by kernel_rfl) (hp:a.put oi.dst undef=a1:=by first | ((try simp only [Act.put,nm]); with_reducible rfl) | (simp only [Act.put,nm]; done)) (hl1:listed.setIfInBounds i true=l1:=by first | ((try simp only [Act.put,nm]); with_reducible rfl) | (simp only [Act.put,nm]; done)):wpE P md ops fin Q (fuel+1) listed a w:=by
 subst hp; subst hl1; exact wpE_take hi hs hf hr hQ (Or.inr ⟨hw,rfl⟩) h
theorem Zd {fuel:Nat} {listed:Array Bool} {a:Act} {w:World} (h:Q .normal a w) (hfin:finOk md ops fin=true:=by kernel_rfl) (hr:Region.ready md ops listed=[]:=by kernel_rfl):wpE P md ops fin Q fuel listed a w:=wpE_done hfin hr h
theorem Zr (fin:Nat) {id:Nat} {a:Act} {w:World} (h:wpE P .any ops fin Q ops.size (Array.replicate ops.size false) a w.drew) (hm:P.follows .mixedOrders=true:=by kernel_rfl):(Code.region id ops true).wp P Q a w:=wp_region_E fin hm h
end
end
end Go.Proofs.YtjffkeoajkhbmaaGreat
