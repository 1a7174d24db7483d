/- The law SubMoved, walked. -/
import Derived.Test.YtjffkeoajkhbmaaGreatOX32
import Derived.Test.YtjffkeoajkhbmaaGreatOX38
namespace Go.Proofs.YtjffkeoajkhbmaaGreat
set_option linter.unusedSimpArgs false
set_option linter.unusedVariables false
set_option maxRecDepth 100000
set_option maxHeartbeats 8000000
open Go.RowKit Go.Proofs Go.Shelf
theorem own_kept {α:Type} {R:α->List Value->Prop} {e:TypeId} {sz:Nat} {w w':World} {base:Nat} {v:Value} {xs:List α} {c:Option Nat} (h:OwnL R e sz w base v xs) (hg:w.grownBy w' c) (hn:v.ownBlock=none\/v.ownBlock≠c):OwnL R e sz w' base v xs:=by
 obtain ⟨css,h1,h2,h3,h4⟩:=h;exact ⟨css,h1,h2,h3,h4.kept hg hn⟩
structure TwoL (w0 wr:World) (v u:Value) (xs ys:List Reveal):Prop where
 ext:Ext w0 wr
 a:OwnL RevealC 43 3 wr w0.heap.size v xs
 b:OwnL RevealC 43 3 wr w0.heap.size u ys
 ne:∀ j,v.ownBlock=some j->u.ownBlock≠some j
section
variable {w0 wr w2:World} {v u v':Value} {xs ys:List Reveal}
theorem TwoL.mono (h:TwoL w0 wr v u xs ys) (hE:Ext wr w2):TwoL w0 w2 v u xs ys:=⟨h.ext.trans hE,h.a.later hE,h.b.later hE,h.ne⟩
theorem none_or {o:Option Nat} {c:Nat} (h:∀ j,o=some j->j≠c):o=none\/o≠some c:=by
 cases o with
 | none=>exact Or.inl rfl
 | some j=>exact Or.inr fun e=>h j rfl (Option.some.inj e)
theorem TwoL.set {c j:Nat} {x:Value} (h:TwoL w0 wr v u xs ys) (hc:w0.heap.size<=c) (h1:∀ j,v.ownBlock=some j->j≠c) (h2:∀ j,u.ownBlock=some j->j≠c):TwoL w0 (wr.setCell ⟨c,j,none⟩ x) v u xs ys :=
 ⟨Below.setCell h.ext hc _,own_kept h.a (grown_set (grownBy_refl wr _)) (none_or h1),own_kept h.b (grown_set (grownBy_refl wr _)) (none_or h2),h.ne⟩
theorem TwoL.push1 {y:Reveal} {w3:World} (h:TwoL w0 wr v u xs ys) (hO:OwnL RevealC 43 3 w3 w0.heap.size v' (xs++[y])) (hg:wr.grownBy w3 v.ownBlock) (hat:v'.ownBlock=v.ownBlock\/v'.ownBlock=some wr.heap.size):TwoL w0 w3 v' u (xs++[y]) ys:=by
 refine ⟨own_grown h.a h.ext hg,hO,own_kept h.b hg ?_,fun j hj hu=>?_⟩
 ·cases hu:u.ownBlock with
  | none=>exact Or.inl rfl
  | some k=>exact Or.inr fun e=>h.ne k e.symm hu
 ·rcases hat with hat | hat
  ·exact h.ne j (by rw [<- hat]; exact hj) hu
  ·have h1:=(h.b.lt j hu).2;rw [hat] at hj;have:=Option.some.inj hj;omega
theorem TwoL.push2 {y:Reveal} {w3:World} (h:TwoL w0 wr v u xs ys) (hO:OwnL RevealC 43 3 w3 w0.heap.size v' (ys++[y])) (hg:wr.grownBy w3 u.ownBlock) (hat:v'.ownBlock=u.ownBlock\/v'.ownBlock=some wr.heap.size):TwoL w0 w3 v v' xs (ys++[y]):=by
 refine ⟨own_grown h.b h.ext hg,own_kept h.a hg ?_,hO,fun j hj hu=>?_⟩
 ·cases hv:v.ownBlock with
  | none=>exact Or.inl rfl
  | some k=>exact Or.inr fun e=>h.ne k hv e.symm
 ·rcases hat with hat | hat
  ·exact h.ne j hj (by rw [<- hat]; exact hu)
  ·have h1:=(h.a.lt j hj).2;rw [hat] at hu;have:=Option.some.inj hu;omega
end
theorem nums_len (L:List Nat) (f:Nat->Nat):(numsOf (L.map f)).length=L.length:=by rw [nums_len9,List.length_map]
def BelowOk (W:World) (v:Nat) (F:Nat->Nat) (n:Nat) (q:Nat->Nat->Bool):Prop:=∀ wx,Ext W wx->∀ a b,a<n->b<n->Calls Tryz.prog 17 #[.pointer (some ⟨v,0,none⟩),.int .i64 (F a),.int .i64 (F b)] wx fun e w'=>e=.returned (.tuple #[.bool (q a b),.int .i64 0])/\Ext wx w'
def AssignOk (W:World) (v:Nat) (F:Nat->Nat) (n:Nat) (q:Nat->Nat->Int × Int × Int × Int):Prop:=∀ wx,Ext W wx->∀ a b,a<n->b<n->Calls Tryz.prog 28 #[.pointer (some ⟨v,0,none⟩),.int .i64 (F a),.int .i64 (F b)] wx fun e w' =>
 e=.returned (.tuple #[.agg #[.int .u8 (q a b).1,.int .i64 (q a b).2.1,.int .i64 (q a b).2.2.1],.int .i64 (q a b).2.2.2])/\Ext wx w'
def LineOk (W:World) (v:Nat) (F:Nat->Nat) (n:Nat) (G:Nat->Nat) (L:Nat->List Nat):Prop:=∀ wx,Ext W wx->∀ a,a<n->Calls Tryz.prog 26 #[.pointer (some ⟨v,0,none⟩),.int .i64 (F a)] wx fun e w' =>
 ∃ pa pc,e=.returned (.tuple #[.slice pa (L a).length pc,.int .i64 0])/\Ints w' (.slice pa (L a).length pc) (numsOf ((L a).map G))/\Ext wx w'
theorem below_ok {W:World} {v:Nat} {g h:List Ty} {rs rs':List Reveal} {F:Nat->Nat} (hA:EnvA W v h rs') (hg:openE g rs=0) (hF:∀ i,i<g.length->F i<h.length) (h4:h.length<=400) (hq:∀ a b,a<g.length->b<g.length->belowQ h rs' (F a:Nat) (F b:Nat)=belowQ g rs a b):BelowOk W v F g.length (fun a b=>(belowQ g rs a b).1):=fun wx hE a b ha hb=>by
 have h1:=belowA (hA.mono hE) (F a:Nat) (F b:Nat) (i64_nat (hF a ha) h4) (i64_nat (hF b hb) h4);rw [hq a b ha hb] at h1;obtain ⟨p,e1,_⟩:=below_val hg ha hb;rw [e1] at h1;show Calls _ _ _ _ (fun e w'=>e=.returned (.tuple #[.bool (belowQ g rs a b).1,.int .i64 0])/\Ext wx w')
 rw [e1];exact h1
theorem assign_ok {W:World} {v:Nat} {g h:List Ty} {rs rs':List Reveal} {F:Nat->Nat} (hA:EnvA W v h rs') (hF:∀ i,i<g.length->F i<h.length) (h4:h.length<=400) (hq:∀ a b,a<g.length->b<g.length->assignQ h rs' (F a:Nat) (F b:Nat)=assignQ g rs a b):AssignOk W v F g.length (fun a b=>assignQ g rs a b):=fun wx hE a b ha hb=>by
 have h1:=assignA (hA.mono hE) (F a:Nat) (F b:Nat) (i64_nat (hF a ha) h4) (i64_nat (hF b hb) h4);rw [hq a b ha hb] at h1;exact h1
theorem line_ok9 {W:World} {v:Nat} {g h:List Ty} {rs rs':List Reveal} {F G:Nat->Nat} (hA:EnvA W v h rs') (hF:∀ i,i<g.length->F i<h.length) (h4:h.length<=400) (hq:∀ a,a<g.length->lineL h rs' (F a)=(lineL g rs a).map G):LineOk W v F g.length G (lineL g rs):=fun wx hE a ha=>by
 refine (lineA (hA.mono hE) (F a:Nat) (i64_nat (hF a ha) h4)).mono ?_;have h0:askedR h.length [((F a:Nat):Int)]=0:=asked_in (fun i hi=>by
  rw [List.mem_singleton] at hi;have:=hF a ha;omega)
 rintro e w' ⟨pa,pn,pc,he,hp,hE2⟩;rw [h0] at he;unfold lineQ at hp;rw [if_pos h0,Int.toNat_natCast,hq a ha] at hp;have hn:pn=(lineL g rs a).length:=by rw [SlW.len hp,nums_len]
 subst hn;exact ⟨pa,pc,he,hp,hE2⟩
theorem subMoved12 (ga:Option Addr) (gn gc:Nat) (g:List Ty) (ra:Option Addr) (rn rc:Nat) (rs:List Reveal) (oa:Option Addr) (on oc:Nat) (ord:List Int) (w:World) (hg:Graph w (.slice ga gn gc) g) (hre:Reveals w (.slice ra rn rc) rs) (ho:Ints w (.slice oa on oc) ord) :
  Calls Tryz.prog 12 #[.slice ga gn gc,.slice ra rn rc,.slice oa on oc] w (Holds w):=by
 obtain rfl:=SlW.len hg;obtain rfl:=SlW.len hre;obtain rfl:=SlW.len ho;have Hg:=dh hg;have Hre:=dh hre;have Ho:=dh ho;clear hg hre ho
 go_enter Tryz.func12,Tryz.ntmps12
 go_wp2_with fail;refine (little13 _ _ _ g w Hg.out).mono ?_;rintro e w1 ⟨bl,rfl,hE,hl⟩;have HE:=dh hE;clear hE hl;cases bl
 ·go_wp2_with fail;refine (ordered15 _).mono ?_;rintro e wN ⟨rfl,hE⟩;have HE:=dh (HE.out.trans hE);clear hE;go_wp2_with fail;go_ret;exact ⟨rfl,HE.out⟩
 go_wp2_with fail;refine (few14 _ _ _ rs w1 (Reveals.mono HE.out Hre.out)).mono ?_;rintro e w2 ⟨bf,rfl,hE,hf⟩;have HE:=dh (HE.out.trans hE);have Hf:=dh hf;clear hE hf;cases bf
 ·go_wp2_with fail;refine (ordered15 _).mono ?_;rintro e wN ⟨rfl,hE⟩;have HE:=dh (HE.out.trans hE);clear hE;go_wp2_with fail;go_ret;exact ⟨rfl,HE.out⟩
 have hrl:=(Hf.out rfl).2;clear Hf;rcases Nat.lt_or_ge 24 ord.length with h24 | h24
 ·have h24i:(24:Int)<ord.length:=by omega
  go_wp2_with fail;refine (ordered15 _).mono ?_;rintro e wN ⟨rfl,hE⟩;have HE:=dh (HE.out.trans hE);clear hE;go_wp2_with fail;go_ret;exact ⟨rfl,HE.out⟩
 have h24i:¬ (24:Int)<ord.length:=by omega
 go_wp2_with fail;refine (permutation40 oa _ oc ord g.length w2 (Ints.mono HE.out Ho.out) (by omega)).mono ?_;rintro e w3 ⟨bp,rfl,hE,hp⟩;have HE:=dh (HE.out.trans hE);have Hp:=dh hp;clear hE hp h24i;cases bp
 ·go_wp2_with fail;refine (ordered15 _).mono ?_;rintro e wN ⟨rfl,hE⟩;have HE:=dh (HE.out.trans hE);clear hE;go_wp2_with fail;go_ret;exact ⟨rfl,HE.out⟩
 obtain ⟨hlen,hin,hinj⟩:=Hp.out rfl;have Hlen:=dh hlen;have hle1:ord.length<=g.length:=by omega
 have hle2:g.length<=ord.length:=by omega
 clear Hp hlen;go_wp2_with fail;refine (check41 ga _ gc g w3 (Graph.mono HE.out Hg.out)).mono ?_;rintro e w4 ⟨rfl,hE⟩;have HE:=dh (HE.out.trans hE);clear hE;by_cases hck:(checkB g).2=0;rotate_left
 ·have hne:((checkB g).2 != 0)=true:=by simpa using hck
  go_wp2_with fail;refine (ordered15 _).mono ?_;rintro e wN ⟨rfl,hE⟩;have HE:=dh (HE.out.trans hE);clear hE;go_wp2_with fail;go_ret;exact ⟨rfl,HE.out⟩
 rw [hck];generalize (checkB g).1=c1;have h400:=(check_ok hck).1;go_wp2_with fail;refine (merge42 ga _ gc g w4 (Graph.mono HE.out Hg.out) hck).mono ?_;rintro e w5 ⟨ma,mn,mc,ta,tc,rfl,hmg,hto,hE⟩;have HE:=dh (HE.out.trans hE);have Hmg:=dh hmg;have Hto:=dh hto;obtain ⟨f,hf⟩:∃ f:Nat->Nat,f=fun i=>(nth ord i).toNat:=⟨_,rfl⟩
 have Hfl:=dh (show ∀ i,i<g.length->nth ord i=(f i:Int)/\f i<g.length from fun i hi=>by
  have:=hin i hi;rw [hf];show nth ord i=((nth ord i).toNat:Int)/\(nth ord i).toNat<g.length
  omega)
 have Hfi:=dh (show ∀ i j,i<g.length->j<g.length->f i=f j->i=j from fun i j hi hj e=>by
  have h1:=Hfl.out i hi;have h2:=Hfl.out j hj;rcases Nat.lt_trichotomy i j with h | h | h
  ·exact absurd (by rw [h1.1,h2.1,e]) (hinj i j h hj)
  ·exact h
  ·exact absurd (by rw [h1.1,h2.1,e]) (hinj j i h hi))
 have Hf:=dh hf;have Hin:=dh hin;have Hinj:=dh hinj;have Hck:=dh hck;have Hmm:=dh (merge_morph (check_ok hck).2.1);clear hE hmg hto hf hin hinj hck;obtain ⟨i0,hi0,hz0,hz1,hz2⟩:=info_parts info43;have HT:=dh (show TwoL w5 w5 (.slice none 0 0) (.slice none 0 0) ((rs.map (relR f)).take 0) ((rs.map (relR (toM g))).take 0) from ⟨Ext.refl _,OwnL.nil _,OwnL.nil _,fun j h=>by cases h⟩);go_wp2_with fail;go_loopw [9,10,14,15] (fun v9 v10 v14 _ wr=>∃ k:Nat,k<=rs.length/\v14=.int .i64 k/\(∃ b m d,v9=.slice b m d)/\(∃ b m d,v10=.slice b m d)/\Hid (TwoL w5 wr v9 v10 ((rs.map (relR f)).take k) ((rs.map (relR (toM g))).take k)/\∀ j,j<k->0<=(nth rs j).type/\(nth rs j).type<g.length)) (fun _ _ i _ _=>rs.length-(intOf i).toNat)
 case atStart=>exact ⟨0,Nat.zero_le _,rfl,⟨_,_,_,rfl⟩,⟨_,_,_,rfl⟩,dh ⟨HT.out,fun j hj=>absurd hj (Nat.not_lt_zero _)⟩⟩
 case round =>
  clear HT;obtain ⟨k,hk,rfl,⟨b9,m9,d9,rfl⟩,⟨b10,m10,d10,rfl⟩,hH⟩:=hrel;have HT:=dh hH.out.1;have Hty:=dh hH.out.2;clear hH;by_cases hkn:k<rs.length
  ·have hko:(k:Int)<rs.length:=by omega
   obtain ⟨rb,rof,hab,hlt2,u0,u1,u2,hrn,hr0,hr1⟩:=Reveals.at Hre.out hkn;obtain ⟨r,hr⟩:∃ r,r=nth rs k:=⟨_,rfl⟩;rw [<- hr] at u0 u1 u2 hrn hr0 hr1;have Hr:=dh hr;have t0:=(HE.out.trans HT.out.ext).cell u0;have t1:=(HE.out.trans HT.out.ext).cell u1;have t2:=(HE.out.trans HT.out.ext).cell u2;have Hu2:=dh u2;clear hr u0 u1 u2;subst hab;have HEb:=dh ((HE.out.trans HT.out.ext).trans (Ext.alloc wr (.cells #[.string r.name,.bool r.full,.int .i64 r.type] 43)));by_cases h1:r.type<0
   ·have HE:=HEb;go_wp2_with fail;refine (ordered15 _).mono ?_;rintro e wN ⟨rfl,hE⟩;have HE:=dh (HE.out.trans hE);clear hE;go_wp2_with fail;go_ret;exact ⟨rfl,HE.out⟩
   by_cases h2:r.type<g.length;rotate_left
   ·have h3:(g.length:Int)<=r.type:=by omega
    have HE:=HEb;go_wp2_with fail;refine (ordered15 _).mono ?_;rintro e wN ⟨rfl,hE⟩;have HE:=dh (HE.out.trans hE);clear hE;go_wp2_with fail;go_ret;exact ⟨rfl,HE.out⟩
   obtain ⟨sn,hsn⟩:∃ s:Nat,r.type=s:=⟨r.type.toNat,by omega⟩;have hsg:sn<g.length:=by omega
   have hso:sn<ord.length:=by omega
   have hfs:=(Hfl.out sn hsg).2;have htm:=Hmm.out.lt sn hsg;have hml:=merge_le g;have lt2:=cell_lt t2;go_upto_region 16 with (fail);obtain ⟨W1,hW1⟩:∃ W1:World,W1=wr.alloc (.cells #[.string r.name,.bool r.full,.int .i64 sn] 43):=⟨_,rfl⟩;have hE1:Ext wr W1:=by rw [hW1]; exact Ext.alloc _ _
   have hb1:W1.heap[wr.heap.size]? = some (.cells #[.string r.name,.bool r.full,.int .i64 sn] 43 (0,0)):=by rw [hW1]; exact heap_alloc_new _ _
   rw [<- hW1];clear hW1 t0 t1 lt2;have T1:=dh (HT.out.mono hE1);have Hlt9:=dh (show ∀ j,(Value.slice b9 m9 d9).ownBlock=some j->j≠wr.heap.size from fun j hj=>by have:=(HT.out.a.lt j hj).2; omega);have Hlt10:=dh (show ∀ j,(Value.slice b10 m10 d10).ownBlock=some j->j≠wr.heap.size from fun j hj=>by have:=(HT.out.b.lt j hj).2; omega);have Hxlo:=dh (show w5.heap.size<=wr.heap.size from HT.out.ext.size);have Hu2:=dh (show w.cell? ⟨rb,rof+k*3+2,none⟩=some (.int .i64 sn) by rw [<- hsn]; exact Hu2.out);have tt:=(HE.out.trans T1.out.ext).cell Hu2.out;obtain ⟨lb,lo,hla,hllt,dl,-⟩:=Ints.at (Ints.mono (HE.out.trans T1.out.ext) Ho.out) hso;rw [(Hfl.out sn hsg).1] at dl;have c2:=row_cell hb1 (j:=2) rfl;have r2:=row_free hb1 2;have Hb1:=dh hb1;clear hb1 hE1 t2 hllt;subst hla;go_upto_region 17 with (fail);obtain ⟨W2,hW2⟩:∃ W2:World,W2=W1.setCell ⟨wr.heap.size,2,none⟩ (.int .i64 (f sn)):=⟨_,rfl⟩;have hb2:W2.heap[wr.heap.size]? = some (.cells #[.string r.name,.bool r.full,.int .i64 (f sn)] 43 (0,0)):=by
    rw [hW2];have:=row_set (j:=2) (v:=.int .i64 (f sn)) Hb1.out
    simpa using this
   have T2:=dh (show TwoL w5 W2 (.slice b9 m9 d9) (.slice b10 m10 d10) ((rs.map (relR f)).take k) ((rs.map (relR (toM g))).take k) by rw [hW2]; exact T1.out.set Hxlo.out Hlt9.out Hlt10.out);rw [<- hW2];clear hW2 tt dl c2 r2 Hb1 T1;have c0:=row_cell hb2 (j:=0) rfl;have c1':=row_cell hb2 (j:=1) rfl;have c2:=row_cell hb2 (j:=2) rfl;have hT2:=T2.out.mono (Ext.alloc W2 (.cells #[.string r.name,.bool r.full,.int .i64 (f sn)] 43));have hone:SlW (fun _=>RevealC) 3 (W2.alloc (.cells #[.string r.name,.bool r.full,.int .i64 (f sn)] 43)) (.slice (some ⟨W2.heap.size,0,none⟩) 1 1) [relR f r]:=by
    have hz:relR f r=⟨r.name,r.full,(f sn:Int)⟩:=by unfold relR; rw [hsn,Int.toNat_natCast]
    rw [hz];exact one_reveal (r:=⟨r.name,r.full,(f sn:Int)⟩) (heap_alloc_new _ _) ⟨hrn,by show _<=((f sn:Nat):Int); omega,by show ((f sn:Nat):Int)<=_; omega⟩
   have hsz:=hT2.ext.size;have hb2':=((Ext.alloc W2 (.cells #[.string r.name,.bool r.full,.int .i64 (f sn)] 43)).block _ (row_lt hb2)).trans hb2;have Hb2:=dh hb2';clear hb2 hb2';go_wp2_with (at_builtin; refine wpList_append_list rfl (.tmp 113) (.tmp 115) 24 rfl w5.heap.size 43 i0 (.agg #[.string ⟨#[]⟩,.bool false,.int .i64 0]) 3 32 Tryz.underlying24 hi0 hz0 hz1 hz2 rfl (by decide) _ _ rfl hT2.a rfl hone reveal_cells ?c1 ?c2 ?c3 ?_)
   case c1=>first | (unfold maxLen; simp; omega) | (unfold maxLen; omega)
   case c2=>first | (simp; omega) | omega
   case c3=>have h:=hsz; rw [World.size_alloc] at h; exact h
   intro v9' W3 hO3 hg3 hat3;have T3:=dh (hT2.push1 hO3 hg3 (by rw [World.size_alloc]; exact hat3));have hb3:=(hg3.block wr.heap.size (row_lt Hb2.out) (fun e=>Hlt9.out _ e.symm rfl)).trans Hb2.out;have Hlt9':=dh (show ∀ j,v9'.ownBlock=some j->j≠wr.heap.size from fun j hj=>by
    rcases hat3 with h | h
    ·exact Hlt9.out j (by rw [<- h]; exact hj)
    ·rw [h] at hj;have h4:=Option.some.inj hj;have h5:=row_lt Hb2.out;rw [World.size_alloc] at h5;have h6:=T2.out.ext.size;omega)
   obtain ⟨y9,z9,q9,rfl⟩:∃ b m d,v9'=.slice b m d:=by
    obtain ⟨_,_,_,_,hrow⟩:=hO3;obtain ⟨x,y,e⟩:=owns_slice hrow;exact ⟨_,_,_,e⟩
   clear hT2 hone hO3 hg3 hat3 hsz Hb2 c0 c1' c2 T2 Hlt9;have tt:=(HE.out.trans T3.out.ext).cell Hu2.out;obtain ⟨eb,eo,hea,hel,el,-⟩:=Ints.at (Ints.mono T3.out.ext Hto.out) hsg;rw [nth_range hsg] at el;have c2:=row_cell hb3 (j:=2) rfl;have r2:=row_free hb3 2;have Hb3:=dh hb3;clear hb3 hel;subst hea;go_upto_region 19 with (fail);obtain ⟨W4,hW4⟩:∃ W4:World,W4=W3.setCell ⟨wr.heap.size,2,none⟩ (.int .i64 (toM g sn)):=⟨_,rfl⟩;have hb4:W4.heap[wr.heap.size]? = some (.cells #[.string r.name,.bool r.full,.int .i64 (toM g sn)] 43 (0,0)):=by
    rw [hW4];have:=row_set (j:=2) (v:=.int .i64 (toM g sn)) Hb3.out
    simpa using this
   have T4:=dh (show TwoL w5 W4 (.slice y9 z9 q9) (.slice b10 m10 d10) ((rs.map (relR f)).take k++[relR f r]) ((rs.map (relR (toM g))).take k) by rw [hW4]; exact T3.out.set Hxlo.out Hlt9'.out Hlt10.out);rw [<- hW4];clear hW4 tt el c2 r2 Hb3 T3;have c0:=row_cell hb4 (j:=0) rfl;have c1':=row_cell hb4 (j:=1) rfl;have c2:=row_cell hb4 (j:=2) rfl;have hT4:=T4.out.mono (Ext.alloc W4 (.cells #[.string r.name,.bool r.full,.int .i64 (toM g sn)] 43));have hone:SlW (fun _=>RevealC) 3 (W4.alloc (.cells #[.string r.name,.bool r.full,.int .i64 (toM g sn)] 43)) (.slice (some ⟨W4.heap.size,0,none⟩) 1 1) [relR (toM g) r]:=by
    have hz:relR (toM g) r=⟨r.name,r.full,(toM g sn:Int)⟩:=by unfold relR; rw [hsn,Int.toNat_natCast]
    rw [hz];exact one_reveal (r:=⟨r.name,r.full,(toM g sn:Int)⟩) (heap_alloc_new _ _) ⟨hrn,by show _<=((toM g sn:Nat):Int); omega,by show ((toM g sn:Nat):Int)<=_; omega⟩
   have hsz:=hT4.ext.size;clear hb4;go_wp2_with (at_builtin; refine wpList_append_list rfl (.tmp 126) (.tmp 128) 24 rfl w5.heap.size 43 i0 (.agg #[.string ⟨#[]⟩,.bool false,.int .i64 0]) 3 32 Tryz.underlying24 hi0 hz0 hz1 hz2 rfl (by decide) _ _ rfl hT4.b rfl hone reveal_cells ?c4 ?c5 ?c6 ?_)
   case c4=>first | (unfold maxLen; simp; omega) | (unfold maxLen; omega)
   case c5=>first | (simp; omega) | omega
   case c6=>exact hsz
   intro v10' W5 hO5 hg5 hat5;have T5:=dh (hT4.push2 hO5 hg5 (by rw [World.size_alloc]; exact hat5));have hv10:∃ b m d,v10'=.slice b m d:=by
    obtain ⟨_,_,_,_,hrow⟩:=hO5;obtain ⟨x,y,e⟩:=owns_slice hrow;exact ⟨_,_,_,e⟩
   have Hs1:=dh (show (rs.map (relR f)).take (k+1)=(rs.map (relR f)).take k++[relR f r] by rw [take_snoc (by simpa using hkn),rel_rev hkn,<- Hr.out]);have Hs2:=dh (show (rs.map (relR (toM g))).take (k+1)=(rs.map (relR (toM g))).take k++[relR (toM g) r] by rw [take_snoc (by simpa using hkn),rel_rev hkn,<- Hr.out]);have Hty2:=dh (show ∀ j,j<k+1->0<=(nth rs j).type/\(nth rs j).type<g.length from fun j hj=>by
    by_cases e:j=k
    ·rw [e,<- Hr.out]; omega
    ·exact Hty.out j (by omega))
   clear hT4 hone hO5 hg5 hat5 hsz c0 c1' c2 T4 Hlt10 Hlt9' Hxlo hsn;go_wp2_with fail;go_roundw
   case rel=>exact ⟨k+1,by omega,by go_num,⟨_,_,_,rfl⟩,hv10,dh ⟨by rw [Hs1.out,Hs2.out]; exact T5.out,Hty2.out⟩⟩
   case measure=>simp [intOf]; omega
  ·have hkn:k=rs.length:=by omega
   subst hkn;rename World=>V;have HE:=dh (HE.out.trans HT.out.ext);have hR9:Reveals V (.slice b9 m9 d9) (rs.map (relR f)):=by
    have:=HT.out.a;rw [List.take_of_length_le (by simp)] at this;exact this.slw (by rw [List.length_map]; unfold maxBytes; omega)
   have hR10:Reveals V (.slice b10 m10 d10) (rs.map (relR (toM g))):=by
    have:=HT.out.b;rw [List.take_of_length_le (by simp)] at this;exact this.slw (by rw [List.length_map]; unfold maxBytes; omega)
   have HR9:=dh hR9;have HR10:=dh hR10;have Hmg:=dh (Graph.mono HT.out.ext Hmg.out);have Hto:=dh (Ints.mono HT.out.ext Hto.out);clear hR9 hR10 HT hi0 hz0 hz1 hz2;have Ho1:=dh (Hmm.out.opn Hck.out (Hmm.out.check (by have:=merge_le g; omega) Hck.out) Hty.out);go_wp2_with fail;refine (inB (Graph.mono HE.out Hg.out) (Reveals.mono HE.out Hre.out)).mono ?_;rintro e W6 ⟨p1,rfl,hE,h1⟩;have HE:=dh (HE.out.trans hE);have HR9:=dh (Reveals.mono hE HR9.out);have HR10:=dh (Reveals.mono hE HR10.out);have Hmg:=dh (Graph.mono hE Hmg.out);have Hto:=dh (Ints.mono hE Hto.out);have H1:=dh h1;clear hE h1;have hturn:=turned43 ga _ gc g oa _ oc ord W6 (Graph.mono HE.out Hg.out) (Ints.mono HE.out Ho.out) Hlen.out Hin.out Hinj.out Hck.out;rw [<- Hf.out] at hturn;have Hturn:=dh hturn;clear hturn;go_wp2_with fail;refine Hturn.out.mono ?_;rintro e W7 ⟨ha,hc,h,rfl,hhl,hhn,hhg,hE⟩;have HM:=dh (show Morph f g h from ⟨fun i hi=>by have:=(Hfl.out i hi).2; omega,fun j hj=>onto_of (fun i hi=>(Hfl.out i hi).2) Hfi.out (by omega),hhn⟩);have Hhl:=dh hhl;have Hhg:=dh hhg;have Hch:=dh (HM.out.check (by omega) Hck.out);have Ho2:=dh (HM.out.opn Hck.out Hch.out Hty.out);have HE:=dh (HE.out.trans hE);have H1:=dh (fun h0=>by obtain ⟨vb,e,hA⟩:=H1.out h0; exact (⟨vb,e,hA.mono hE⟩:∃ vb,p1=some ⟨vb,0,none⟩/\EnvA W7 vb g rs));have HR9:=dh (Reveals.mono hE HR9.out);have HR10:=dh (Reveals.mono hE HR10.out);have Hmg:=dh (Graph.mono hE Hmg.out);have Hto:=dh (Ints.mono hE Hto.out);clear hE hhl hhn hhg Hturn;go_wp2_with fail;refine (inB (g:=h) (rs:=rs.map (relR f)) (by have:=Hhg.out; exact this) HR9.out).mono ?_;rintro e W8 ⟨p2,he,hE,h2⟩;rw [Ho2.out] at he;subst he;have HE:=dh (HE.out.trans hE);have H1:=dh (fun h0=>by obtain ⟨vb,e,hA⟩:=H1.out h0; exact (⟨vb,e,hA.mono hE⟩:∃ vb,p1=some ⟨vb,0,none⟩/\EnvA W8 vb g rs));have HR10:=dh (Reveals.mono hE HR10.out);have Hmg:=dh (Graph.mono hE Hmg.out);have Hto:=dh (Ints.mono hE Hto.out);have H2:=dh h2;clear hE h2 HR9 Hhg;go_wp2_with fail;refine (inB (g:=mergeG g) (rs:=rs.map (relR (toM g))) Hmg.out HR10.out).mono ?_;rintro e W9 ⟨p3,he,hE,h3⟩;rw [Ho1.out] at he;subst he;have HE:=dh (HE.out.trans hE);have H1:=dh (fun h0=>by obtain ⟨vb,e,hA⟩:=H1.out h0; exact (⟨vb,e,hA.mono hE⟩:∃ vb,p1=some ⟨vb,0,none⟩/\EnvA W9 vb g rs));have H2:=dh (fun h0=>by obtain ⟨vb,e,hA⟩:=H2.out h0; exact (⟨vb,e,hA.mono hE⟩:∃ vb,p2=some ⟨vb,0,none⟩/\EnvA W9 vb h (rs.map (relR f))));have H3:=dh h3;have Hto:=dh (Ints.mono hE Hto.out);clear hE h3 HR10 Hmg;obtain ⟨er,her⟩:∃ er,er=openE g rs:=⟨_,rfl⟩;rw [<- her];have Her:=dh her;clear her;have i1:(er != er)=false:=by simp
   by_cases hz:er=0;rotate_left
   ·have i2:(er != 0)=true:=by simpa using hz
    clear hz;go_wp2_with fail;refine (ordered15 _).mono ?_;rintro e wN ⟨rfl,hE⟩;have HE:=dh (HE.out.trans hE);clear hE;go_wp2_with fail;go_ret;exact ⟨rfl,HE.out⟩
   have H0:=dh (Her.out.symm.trans hz);subst hz;clear Her;obtain ⟨v1,rfl,hA1⟩:=H1.out H0.out;obtain ⟨v2,rfl,hA2⟩:=H2.out (Ho2.out.trans H0.out);obtain ⟨v3,rfl,hA3⟩:=H3.out (Ho1.out.trans H0.out);have HA1:=dh hA1;have HA2:=dh hA2;have HA3:=dh hA3;clear hA1 hA2 hA3 H1 H2 H3;have HB1:=dh (below_ok (F:=fun i=>i) HA1.out H0.out (fun i hi=>hi) h400 (fun a b _ _=>rfl));have HB2:=dh (below_ok (F:=f) HA2.out H0.out (fun i hi=>HM.out.lt i hi) (by have:=Hhl.out; omega) (fun a b ha hb=>HM.out.below H0.out (Ho2.out.trans H0.out) ha hb));have HB3:=dh (below_ok (F:=toM g) HA3.out H0.out (fun i hi=>Hmm.out.lt i hi) (by have:=merge_le g; omega) (fun a b ha hb=>Hmm.out.below H0.out (Ho1.out.trans H0.out) ha hb));have HS1:=dh (assign_ok (F:=fun i=>i) HA1.out (fun i hi=>hi) h400 (fun a b _ _=>rfl));have HS2:=dh (assign_ok (F:=f) HA2.out (fun i hi=>HM.out.lt i hi) (by have:=Hhl.out; omega) (fun a b ha hb=>HM.out.assign H0.out (Ho2.out.trans H0.out) ha hb));have HL1:=dh (line_ok9 (F:=fun i=>i) (G:=fun i=>i) HA1.out (fun i hi=>hi) h400 (fun a _=>by show lineL g rs a=(lineL g rs a).map fun i=>i; rw [List.map_id']));have HL2:=dh (line_ok9 (F:=f) (G:=f) HA2.out (fun i hi=>HM.out.lt i hi) (by have:=Hhl.out; omega) (fun a ha=>HM.out.line Hhl.out Hfi.out H0.out ha));have HLt:=dh (show ∀ a,a<g.length->OutOk g.length (lineL g rs a) from fun a ha=>by
    obtain ⟨_,_,_,hr,hbad⟩:=opens H0.out;exact (lineV_keeps (lineS_lt hr (fun k hk=>rev_in (hbad k hk))) (g.length+1) [] a ⟨List.nodup_nil,fun x hx=>by cases hx⟩ ha).1)
   obtain ⟨bq,hbq⟩:∃ bq:Nat->Nat->Bool,bq=fun a b:Nat=>(belowQ g rs a b).1:=⟨_,rfl⟩
   obtain ⟨sq,hsq⟩:∃ sq:Nat->Nat->Int × Int × Int × Int,sq=fun a b:Nat=>assignQ g rs a b:=⟨_,rfl⟩
   rw [<- hbq] at HB1 HB2 HB3;rw [<- hsq] at HS1 HS2;clear hbq hsq HA1 HA2 HA3 Ho1 Ho2 Hmm HM Hhl Hch Hck Hf Hin Hinj Hlen Hty i1;have HX:=dh (Ext.refl W9);go_wp2_with fail;go_loopw [22,23,24,25,26,27,28,29,30,31,32,33,34,35,36,37,38] (fun v22 _ _ _ _ _ _ _ _ _ _ _ _ _ _ _ _ wr=>∃ a:Nat,a<=g.length/\v22=.int .i64 a/\Hid (Ext W9 wr)) (fun i _ _ _ _ _ _ _ _ _ _ _ _ _ _ _ _ _=>g.length-(intOf i).toNat)
   case atStart=>exact ⟨0,Nat.zero_le _,rfl,HX⟩
   case round =>
    clear HX;obtain ⟨a,hak,rfl,HX⟩:=hrel;rename World=>wx;by_cases han:a<g.length
    ·have hao:(a:Int)<g.length:=by omega
     have hol:a<ord.length:=by omega
     go_wp2_with fail;refine (HL1.out wx HX.out a han).mono ?_;rintro e X1 ⟨pa,pc,rfl,hp,hE⟩;have HX:=dh (HX.out.trans hE);obtain ⟨lb,lo,hla,hllt,dl,-⟩:=Ints.at (Ints.mono (HE.out.trans HX.out) Ho.out) hol;rw [(Hfl.out a han).1] at dl;obtain ⟨L,hL⟩:∃ L,L=lineL g rs a:=⟨_,rfl⟩;have Hok:=dh (HLt.out a han);rw [<- hL] at hp Hok ⊢;rw [List.map_id'] at hp;have Hp:=dh hp;have Hline2:=dh (HL2.out X1 HX.out a han);rw [<- hL] at Hline2;have HLeq:=dh hL;clear hE hp hllt hL;subst hla;go_wp2_with fail;refine Hline2.out.mono ?_;rintro e X2 ⟨qa,qc,rfl,hq,hE⟩;have HX:=dh (HX.out.trans hE);have Hp:=dh (Ints.mono hE Hp.out);have Hq:=dh hq;have hLb:=(SlW.bound hq).2;clear hE hq Hline2 dl;go_wp2_with fail;go_loopw [27] (fun v27 wr=>∃ k:Nat,k<=L.length/\v27=.int .i64 k/\Hid (Ext X2 wr)) (fun i _=>L.length-(intOf i).toNat)
     case atStart=>exact ⟨0,Nat.zero_le _,rfl,dh (Ext.refl _)⟩
     case round =>
      obtain ⟨k,hk,rfl,HY⟩:=hrel;rename World=>wy;by_cases hkl:k<L.length
      ·have hko:(k:Int)<L.length:=by omega
       obtain ⟨b1,o1,e1,-,c1',-⟩:=Ints.at (Ints.mono HY.out Hp.out) hkl;obtain ⟨b2,o2,e2,-,c2',-⟩:=Ints.at (Ints.mono HY.out Hq.out) hkl;rw [nth_nums hkl] at c1';rw [nth_nums (by rw [List.length_map]; exact hkl),nth_map9 f L hkl] at c2';obtain ⟨x,hx⟩:∃ x,x=nth L k:=⟨_,rfl⟩;rw [<- hx] at c1' c2';have hxn:x<g.length:=by rw [hx]; exact Hok.out.lt _ (nth_mem hkl)
       have hxo:x<ord.length:=by omega
       obtain ⟨b3,o3,e3,-,dx,-⟩:=Ints.at (Ints.mono (HE.out.trans (HX.out.trans HY.out)) Ho.out) hxo;cases e3;rw [(Hfl.out x hxn).1] at dx;have hne:((f x:Int) != (f x:Int))=false:=by simp
       clear hx;subst e1 e2;go_upto_region 37 with (fail)
       go_quiet (fail)
       go_wp2_with fail;go_roundw
       case rel=>exact ⟨k+1,by omega,by go_num,dh (below_drewN HY.out _)⟩
       case measure=>simp [intOf]; omega
      ·have hkl:k=L.length:=by omega
       subst hkl;have HX:=dh (HX.out.trans HY.out);clear HY Hp Hq Hok;go_wp2_with fail;go_loopw [28,29,30,31,32,33,34,35,36,37,38] (fun v28 _ _ _ _ _ _ _ _ _ _ wr=>∃ b:Nat,b<=g.length/\v28=.int .i64 b/\Hid (Ext W9 wr)) (fun i _ _ _ _ _ _ _ _ _ _ _=>g.length-(intOf i).toNat)
       case atStart=>exact ⟨0,Nat.zero_le _,rfl,HX⟩
       case round =>
        clear HX;obtain ⟨b,hbk,rfl,HX⟩:=hrel;rename World=>wz;by_cases hbn:b<g.length
        ·have hbo:(b:Int)<g.length:=by omega
         have hol2:b<ord.length:=by omega
         go_wp2_with fail;refine (HB1.out wz HX.out a b han hbn).mono ?_;rintro e Y1 ⟨rfl,hE⟩;have HX:=dh (HX.out.trans hE);clear hE;obtain ⟨b3,o3,e3,-,da,-⟩:=Ints.at (Ints.mono (HE.out.trans HX.out) Ho.out) hol;cases e3;obtain ⟨b3,o3,e3,-,db,-⟩:=Ints.at (Ints.mono (HE.out.trans HX.out) Ho.out) hol2;cases e3;rw [(Hfl.out a han).1] at da;rw [(Hfl.out b hbn).1] at db;go_upto_region 43 with (fail);refine Zr 99 ?_;change wpE _ _ _ _ _ _ _ _ (World.drew _);refine Zg 0 ?_;refine Zg 1 ?_;refine Zg 2 ?_;refine Zg 3 ?_;refine Zc 4 da ?_;refine Zg 5 ?_;refine Zg 6 ?_;refine Zg 7 ?_;refine Zc 8 db ?_;refine Zo 9 fun K hK=>?_;go_simp;refine (HB2.out _ (HX.out.trans (Ext.drew _)) a b han hbn).mono ?_;rintro e Y2 ⟨rfl,hE⟩;have HX2:=dh (HX.out.trans ((Ext.drew _).trans hE));refine hK _ _ (hE) ?_; clear hK K;clear hE da db;refine Zg 10 ?_;refine Zg 11 ?_;refine Zg 12 ?_;refine Zg 13 ?_;refine Zg 14 ?_;refine Zd ?_;clear HX;obtain ⟨mb,mo,e4,-,ea,-⟩:=Ints.at (Ints.mono HX2.out Hto.out) han;obtain ⟨b3,o3,e3,-,eb,-⟩:=Ints.at (Ints.mono HX2.out Hto.out) hbn;rw [nth_range han] at ea;rw [nth_range hbn] at eb;subst e4;cases e3;go_upto_region 44 with (fail);refine Zr 99 ?_;change wpE _ _ _ _ _ _ _ _ (World.drew _);refine Zg 0 ?_;refine Zg 1 ?_;refine Zg 2 ?_;refine Zg 3 ?_;refine Zc 4 ea ?_;refine Zg 5 ?_;refine Zg 6 ?_;refine Zg 7 ?_;refine Zc 8 eb ?_;refine Zo 9 fun K hK=>?_;go_simp;refine (HB3.out _ (HX2.out.trans (Ext.drew _)) a b han hbn).mono ?_;rintro e Y3 ⟨rfl,hE⟩;have HX3:=dh (HX2.out.trans ((Ext.drew _).trans hE));refine hK _ _ (hE) ?_; clear hK K;clear hE ea eb;refine Zg 10 ?_;refine Zg 11 ?_;refine Zg 12 ?_;refine Zg 13 ?_;refine Zg 14 ?_;refine Zd ?_;clear HX2;go_wp2_with fail;refine (HS1.out Y3 HX3.out a b han hbn).mono ?_;rintro e Y4 ⟨rfl,hE⟩;obtain ⟨x1,hx1⟩:∃ x,x=(sq a b).1:=⟨_,rfl⟩;obtain ⟨x2,hx2⟩:∃ x,x=(sq a b).2.1:=⟨_,rfl⟩;obtain ⟨x3,hx3⟩:∃ x,x=(sq a b).2.2.1:=⟨_,rfl⟩;obtain ⟨x4,hx4⟩:∃ x,x=(sq a b).2.2.2:=⟨_,rfl⟩;have HS3:=dh (show ∀ wx,Ext W9 wx->Calls Tryz.prog 28 #[.pointer (some ⟨v2,0,none⟩),.int .i64 (f a),.int .i64 (f b)] wx fun e w'=>e=.returned (.tuple #[.agg #[.int .u8 x1,.int .i64 x2,.int .i64 x3],.int .i64 x4])/\Ext wx w' from fun wx hE=>by
          rw [hx1,hx2,hx3,hx4]; exact HS2.out wx hE a b han hbn)
         rw [<- hx1,<- hx2,<- hx3,<- hx4];clear hx1 hx2 hx3 hx4;have HBX:=dh (show AsBox (Y4.alloc (.cells #[.int .u8 x1,.int .i64 x2,.int .i64 x3] 56)) Y4.heap.size x1 x2 x3 from heap_alloc_new _ _);have HX:=dh ((HX3.out.trans hE).trans (Ext.alloc Y4 (.cells #[.int .u8 x1,.int .i64 x2,.int .i64 x3] 56)));clear hE HX3;obtain ⟨Z,hZ⟩:∃ Z:World,Z=Y4.alloc (.cells #[.int .u8 x1,.int .i64 x2,.int .i64 x3] 56):=⟨_,rfl⟩;rw [<- hZ] at HBX HX;have HZX:=HX;go_upto_region 46 with (fail);rw [<- hZ];clear hZ HX;generalize Y4.heap.size=xb at HBX ⊢;obtain ⟨b3,o3,e3,-,da,-⟩:=Ints.at (Ints.mono (HE.out.trans HZX.out) Ho.out) hol;cases e3;obtain ⟨b3,o3,e3,-,db,-⟩:=Ints.at (Ints.mono (HE.out.trans HZX.out) Ho.out) hol2;cases e3;rw [(Hfl.out a han).1] at da;rw [(Hfl.out b hbn).1] at db;go_cut [37,38] (fun v37 v38 wr=>∃ yb:Nat,v37=.pointer (some ⟨yb,0,none⟩)/\v38=.int .i64 x4/\Hid (Ext Z wr/\AsBox wr yb x1 x2 x3))
         case first =>
          refine Zr 99 ?_;change wpE _ _ _ _ _ _ _ _ (World.drew _);refine Zg 0 ?_;refine Zg 1 ?_;refine Zg 2 ?_;refine Zg 3 ?_;refine Zc 4 da ?_;refine Zg 5 ?_;refine Zg 6 ?_;refine Zg 7 ?_;refine Zc 8 db ?_;clear da db;refine ⟨by kernel_rfl,?_⟩;refine wpS_two (i:=9) (j:=13) rfl rfl (by kernel_rfl) (fun K hK=>?_) (fun K hK=>?_)
          ·go_simp;refine (HS3.out _ (HZX.out.trans (Ext.drew _))).mono ?_;rintro e U ⟨rfl,hE⟩;refine hK _ _ hE ?_; clear hK K;try simp only [Act.put,nm]
           refine tS (i:=10) (v:=?_) (by kernel_rfl) rfl (by kernel_rfl) (by kernel_rfl) (by kernel_rfl) (fun _ _ _ h=>h) (Or.inl ⟨by kernel_rfl,fun w9 _=>?_⟩) hE ?_;rotate_left
           ·first | (go_simp; done) | (go_simp; with_reducible rfl)
           try simp only [Act.put,nm]
           refine tS (i:=11) (v:=?_) (by kernel_rfl) rfl (by kernel_rfl) (by kernel_rfl) (by kernel_rfl) (fun _ _ _ h=>h) (Or.inl ⟨by kernel_rfl,fun w9 _=>?_⟩) hE ?_;rotate_left
           ·first | (go_simp; done) | (go_simp; with_reducible rfl)
           try simp only [Act.put,nm]
           refine tS (i:=12) (v:=?_) (by kernel_rfl) rfl (by kernel_rfl) (by kernel_rfl) (by kernel_rfl) (fun _ _ _ h=>h) (Or.inl ⟨by kernel_rfl,fun w9 _=>?_⟩) hE ?_;rotate_left
           ·first | (go_simp; done) | (go_simp; with_reducible rfl)
           try simp only [Act.put,nm]
           refine wpS_only (i:=13) rfl (by kernel_rfl) (fun K hK=>?_);go_simp;refine hK _ _ (hE.trans (Ext.alloc _ _)) ?_; clear hK K;try simp only [Act.put,nm]
           have hnb:AsBox (U.alloc (.cells #[.int .u8 x1,.int .i64 x2,.int .i64 x3] 56)) U.heap.size x1 x2 x3:=heap_alloc_new _ _;have hzb:=AsBox.new U;have e0:=hzb.cell (j:=0) rfl;have e1:=hzb.cell (j:=1) rfl;have e2:=hzb.cell (j:=2) rfl;have f0:=hzb.free 0;have f1:=hzb.free 1;have f2:=hzb.free 2;have hE3:=hE.trans (Ext.alloc U (.cells #[.int .u8 x1,.int .i64 x2,.int .i64 x3] 56));refine wpS_only (i:=14) rfl (by kernel_rfl) (fun K hK=>?_);go_simp;refine hK _ _ hE3 ?_; clear hK K;try simp only [Act.put,nm]
           refine wpS_only (i:=15) rfl (by kernel_rfl) (fun K hK=>?_);go_simp;refine hK _ _ hE3 ?_; clear hK K;try simp only [Act.put,nm]
           refine wpS_done (by kernel_rfl) ?_;go_wp2_with fail;go_meet;exact ⟨_,rfl,rfl,dh ⟨(Ext.drew Z).trans hE3,hnb⟩⟩
          ·go_simp;obtain ⟨A,hA⟩:∃ A:World,A=(Z.alloc (.cells #[.int .u8 0,.int .i64 0,.int .i64 0] 56)).drew:=⟨_,rfl⟩;have hZs:∃ nb,nb=Z.heap.size:=⟨_,rfl⟩;have hEA:Ext Z.drew A:=by rw [hA]; exact Ext.alloc Z.drew _
           have hnb0:AsBox A Z.heap.size 0 0 0:=by rw [hA]; exact AsBox.ext (AsBox.new Z) (Ext.drew _)
           rw [<- hA];clear hA;refine hK _ _ hEA ?_; clear hK K;try simp only [Act.put,nm]
           refine wpS_only (i:=9) rfl (by kernel_rfl) (fun K hK=>?_);go_simp;refine (HS3.out _ (HZX.out.trans ((Ext.drew _).trans hEA))).mono ?_;rintro e U ⟨rfl,hE⟩;have hnb:=hnb0.ext hE;have hE:=hEA.trans hE;refine hK _ _ hE ?_; clear hK K;try simp only [Act.put,nm]
           refine tS (i:=10) (v:=?_) (by kernel_rfl) rfl (by kernel_rfl) (by kernel_rfl) (by kernel_rfl) (fun _ _ _ h=>h) (Or.inl ⟨by kernel_rfl,fun w9 _=>?_⟩) hE ?_;rotate_left
           ·first | (go_simp; done) | (go_simp; with_reducible rfl)
           try simp only [Act.put,nm]
           refine tS (i:=11) (v:=?_) (by kernel_rfl) rfl (by kernel_rfl) (by kernel_rfl) (by kernel_rfl) (fun _ _ _ h=>h) (Or.inl ⟨by kernel_rfl,fun w9 _=>?_⟩) hE ?_;rotate_left
           ·first | (go_simp; done) | (go_simp; with_reducible rfl)
           try simp only [Act.put,nm]
           refine tS (i:=12) (v:=?_) (by kernel_rfl) rfl (by kernel_rfl) (by kernel_rfl) (by kernel_rfl) (fun _ _ _ h=>h) (Or.inl ⟨by kernel_rfl,fun w9 _=>?_⟩) hE ?_;rotate_left
           ·first | (go_simp; done) | (go_simp; with_reducible rfl)
           try simp only [Act.put,nm]
           have e0:=hnb.cell (j:=0) rfl;have e1:=hnb.cell (j:=1) rfl;have e2:=hnb.cell (j:=2) rfl;have f0:=hnb.free 0;have f1:=hnb.free 1;have f2:=hnb.free 2;have hE3:Ext Z.drew (((U.setCell ⟨Z.heap.size,0,none⟩ (.int .u8 x1)).setCell ⟨Z.heap.size,1,none⟩ (.int .i64 x2)).setCell ⟨Z.heap.size,2,none⟩ (.int .i64 x3)):=ext_set3 hE (Nat.le_refl _) _ _ _;refine wpS_only (i:=14) rfl (by kernel_rfl) (fun K hK=>?_);go_simp;refine hK _ _ hE3 ?_; clear hK K;try simp only [Act.put,nm]
           refine wpS_only (i:=15) rfl (by kernel_rfl) (fun K hK=>?_);go_simp;refine hK _ _ hE3 ?_; clear hK K;try simp only [Act.put,nm]
           refine wpS_done (by kernel_rfl) ?_;go_wp2_with fail;go_meet;exact ⟨_,rfl,rfl,dh ⟨(Ext.drew Z).trans hE3,AsBox.set3 hnb x1 x2 x3⟩⟩
         case rest =>
          obtain ⟨yb,rfl,rfl,hH⟩:=hcut;have HBX:=dh (HBX.out.ext hH.out.1);have HBY:=dh hH.out.2;have HX:=dh (HZX.out.trans hH.out.1);clear da db hH HZX;generalize bq a b=bb;have e0:=HBX.out.cell (j:=0) rfl;have e1:=HBX.out.cell (j:=1) rfl;have e2:=HBX.out.cell (j:=2) rfl;have y0:=HBY.out.cell (j:=0) rfl;have y1:=HBY.out.cell (j:=1) rfl;have y2:=HBY.out.cell (j:=2) rfl;have j0:(bb != bb)=false:=by simp
          have j1:(x1==x1)=true:=by simp
          have j2:(x2==x2)=true:=by simp
          have j3:(x3==x3)=true:=by simp
          have j4:(x4 != x4)=false:=by simp
          go_wp2_with fail;go_roundw
          case rel=>exact ⟨b+1,by omega,by go_num,HX⟩
          case measure=>simp [intOf]; omega
        ·have hbn:b=g.length:=by omega
         subst hbn;go_wp2_with fail;go_roundw
         case rel=>exact ⟨a+1,by omega,by go_num,HX⟩
         case measure=>simp [intOf]; omega
    ·have han:a=g.length:=by omega
     subst han;have HE:=dh (HE.out.trans HX.out);go_wp2_with fail;refine (ordered15 _).mono ?_;rintro e wN ⟨rfl,hE⟩;have HE:=dh (HE.out.trans hE);clear hE;go_wp2_with fail;go_ret;exact ⟨rfl,HE.out⟩
end Go.Proofs.YtjffkeoajkhbmaaGreat
