/- types.turned, where what is made is of one cell. slices.Index, Contains and Equal at elements of one cell and at overrides. What types says of the parts of a type: signatures, methods, overrides, brands, kinds. What types says of signatures, and of the kind of a type. -/
import Derived.Test.YtjffkeoajkhbmaaGreatOW0
import Derived.Test.YtjffkeoajkhbmaaGreatOW1
namespace Go.Proofs.YtjffkeoajkhbmaaGreat
set_option linter.unusedSimpArgs false
set_option linter.unusedVariables false
set_option maxRecDepth 100000
set_option maxHeartbeats 8000000
section
open Go.RowKit Go.Proofs
theorem turned78 (F:FuncId) (hF:Enters Tryz.prog F) (cap:Array Value) (a:Option Addr) (n c:Nat) (xs:List Int) (g:Nat->Int) (w:World)
  (hx:Ints w (.slice a n c) xs)
  (hf:∀ k w1,k<n->Ext w w1->Calls Tryz.prog F (#[.int .i64 (nth xs k)]++cap) w1 (fun e w2=>e=.returned (.int .i64 (g k))/\Ext w1 w2)) :
  Calls Tryz.prog 78 #[.slice a n c,.func (.func F) #[] cap] w fun e w2=>∃ v,e=.returned v/\w2.ownsRow w.heap.size 3 1 v n ((List.range n).map fun k=>.int .i64 (g k))/\Ext w w2:=by
 have hn:=(SlW.bound hx).2;have Hf:=dh hf; clear hf;obtain ⟨i0,hi,hz0,hz1,hz2⟩:=info_parts info3
 go_enter Tryz.func78,Tryz.ntmps78
 go_wp2;go_loopw [5,10] (fun v i wr=>∃ k:Nat,k<=n/\i=.int .i64 k/\wr.ownsRow w.heap.size 3 1 v k ((List.range k).map fun k=>.int .i64 (g k))/\Hid (Ext w wr)) (fun _ i _=>n-(intOf i).toNat)
 case atStart=>exact ⟨0,Nat.zero_le _,rfl,World.ownsRow_nil _ _ _ _,Ext.refl w⟩
 case round =>
  obtain ⟨k,hk,rfl,hown,hE⟩:=hrel;by_cases hlt:k<n
  ·obtain ⟨b,off,rfl,hb,hc0,hr0,hr1⟩:=Ints.at (Ints.mono hE.out hx) hlt;have hsz:=hE.out.size;have hEn:∀ (args:Array Value) (w:World),(callFunc F args).run Tryz.prog w=.ok (.enter F args) w:=hF;go_wp2_with fail;refine (Hf.out k _ hlt hE.out).mono ?_;rintro e w2 ⟨rfl,hE2⟩;have hown2:=owns_ext hown hE2;have hE3:=dh (hE.out.trans hE2);have hsz2:=hE2.size;clear hE2;go_wp2_with (at_builtin; refine wpList_append_own _ rfl _ _ 35 rfl w.heap.size 3 i0 (.int .i64 0) 1 8 Tryz.underlying35 hi hz0 hz1 hz2 rfl (by decide) _ _ _ rfl (hown2.alloc _) ⟨w2.heap.size,0,none⟩ 1 1 [.int .i64 (g k)] rfl rfl ?c1 ?c2 ?c3 ?c4 ?c5 ?_)
   case c1=>exact cell_one_new _ _ _
   case c2=>simp [Value.oneCell']
   case c3=>unfold maxLen; omega
   case c4=>omega
   case c5=>simp; omega
   intro v' w3 hown3 hgrow3 _;have hE4:=dh (below_grown hE3.out (by omega) hown2 hgrow3);go_wp2;go_roundw
   case rel=>exact ⟨k+1,by omega,by go_num,by rw [range_snoc]; exact hown3,hE4⟩
   case measure=>simp [intOf]; omega
  ·have:k=n:=by omega
   subst this;go_wp2;go_ret;exact ⟨_,rfl,hown,hE.out⟩
theorem turned173 (F:FuncId) (hF:Enters Tryz.prog F) (cap:Array Value) (a:Option Addr) (n c:Nat) (xs:List Part) (g:Nat->BA) (w:World)
  (hx:Parts w (.slice a n c) xs)
  (hf:∀ k w1,k<n->Ext w w1->Calls Tryz.prog F (#[.agg #[.string (nth xs k).name,.int .i64 (nth xs k).type]]++cap) w1 (fun e w2=>e=.returned (.string (g k))/\Ext w1 w2)) :
  Calls Tryz.prog 173 #[.slice a n c,.func (.func F) #[] cap] w fun e w2=>∃ v,e=.returned v/\w2.ownsRow w.heap.size 9 1 v n ((List.range n).map fun k=>.string (g k))/\Ext w w2:=by
 have hn:=(SlW.bound hx).2;have Hf:=dh hf; clear hf;obtain ⟨i0,hi,hz0,hz1,hz2⟩:=info_parts info9
 go_enter Tryz.func173,Tryz.ntmps173
 go_wp2;go_loopw [5,10] (fun v i wr=>∃ k:Nat,k<=n/\i=.int .i64 k/\wr.ownsRow w.heap.size 9 1 v k ((List.range k).map fun k=>.string (g k))/\Hid (Ext w wr)) (fun _ i _=>n-(intOf i).toNat)
 case atStart=>exact ⟨0,Nat.zero_le _,rfl,World.ownsRow_nil _ _ _ _,Ext.refl w⟩
 case round =>
  obtain ⟨k,hk,rfl,hown,hE⟩:=hrel;by_cases hlt:k<n
  ·obtain ⟨b,off,rfl,hb,hc0,hc1,hs,hi0,hi1⟩:=Parts.at (Parts.mono hE.out hx) hlt;have hsz:=hE.out.size;have hEn:∀ (args:Array Value) (w:World),(callFunc F args).run Tryz.prog w=.ok (.enter F args) w:=hF;go_wp2_with fail;refine (Hf.out k _ hlt (hE.out.trans (Ext.alloc _ _))).mono ?_;rintro e w2 ⟨rfl,hE2⟩;have hown2:=owns_ext (hown.alloc (.cells #[.string (nth xs k).name,.int .i64 (nth xs k).type] 83)) hE2;have hE3:=dh ((hE.out.trans (Ext.alloc _ _)).trans hE2);have hsz2:=hE2.size;simp only [World.size_alloc] at hsz2;clear hE2;go_wp2_with (at_builtin; refine wpList_append_own _ rfl _ _ 84 rfl w.heap.size 9 i0 (.string ⟨#[]⟩) 1 16 Tryz.underlying84 hi hz0 hz1 hz2 rfl (by decide) _ _ _ rfl (hown2.alloc _) ⟨w2.heap.size,0,none⟩ 1 1 [.string (g k)] rfl rfl ?c1 ?c2 ?c3 ?c4 ?c5 ?_)
   case c1=>exact cell_one_new _ _ _
   case c2=>simp [Value.oneCell']
   case c3=>unfold maxLen; omega
   case c4=>omega
   case c5=>simp; omega
   intro v' w3 hown3 hgrow3 _;have hE4:=dh (below_grown hE3.out (by omega) hown2 hgrow3);go_wp2;go_roundw
   case rel=>exact ⟨k+1,by omega,by go_num,by rw [range_snoc]; exact hown3,hE4⟩
   case measure=>simp [intOf]; omega
  ·have:k=n:=by omega
   subst this;go_wp2;go_ret;exact ⟨_,rfl,hown,hE.out⟩
theorem turned184 (F:FuncId) (hF:Enters Tryz.prog F) (cap:Array Value) (a:Option Addr) (n c:Nat) (xs:List Meth) (g:Nat->BA) (w:World)
  (hx:Meths w (.slice a n c) xs)
  (hf:∀ k w1 (aa:Option Addr) (al ac:Nat) (ra:Option Addr) (rl rc:Nat),k<n->Ext w w1->Ints w1 (.slice aa al ac) (nth xs k).sig.args->Strs w1 (.slice ra rl rc) (nth xs k).sig.raises->Calls Tryz.prog F (#[.agg #[.string (nth xs k).name,.slice aa al ac,.int .i64 (nth xs k).sig.result,.slice ra rl rc,.string (nth xs k).proc]]++cap) w1 (fun e w2=>e=.returned (.string (g k))/\Ext w1 w2)) :
  Calls Tryz.prog 184 #[.slice a n c,.func (.func F) #[] cap] w fun e w2=>∃ v,e=.returned v/\w2.ownsRow w.heap.size 9 1 v n ((List.range n).map fun k=>.string (g k))/\Ext w w2:=by
 have hn:=(SlW.bound hx).2;have Hf:=dh hf; clear hf;obtain ⟨i0,hi,hz0,hz1,hz2⟩:=info_parts info9
 go_enter Tryz.func184,Tryz.ntmps184
 go_wp2;go_loopw [5,10] (fun v i wr=>∃ k:Nat,k<=n/\i=.int .i64 k/\wr.ownsRow w.heap.size 9 1 v k ((List.range k).map fun k=>.string (g k))/\Hid (Ext w wr)) (fun _ i _=>n-(intOf i).toNat)
 case atStart=>exact ⟨0,Nat.zero_le _,rfl,World.ownsRow_nil _ _ _ _,Ext.refl w⟩
 case round =>
  obtain ⟨k,hk,rfl,hown,hE⟩:=hrel;by_cases hlt:k<n
  ·obtain ⟨b,off,aa,al,ac,ra,rl,rc,rfl,hb,hc0,hc1,hc2,hc3,hc4,hia,hsr,hi0,hi1,hs0,hs1⟩:=Meths.at (Meths.mono hE.out hx) hlt;have hsz:=hE.out.size;have hEn:∀ (args:Array Value) (w:World),(callFunc F args).run Tryz.prog w=.ok (.enter F args) w:=hF;go_wp2_with fail;refine (Hf.out k _ aa al ac ra rl rc hlt (hE.out.trans (Ext.alloc _ _)) (Ints.mono (Ext.alloc _ _) hia) (Strs.mono (Ext.alloc _ _) hsr)).mono ?_;rintro e w2 ⟨rfl,hE2⟩;have hown2:=owns_ext (hown.alloc (.cells #[.string (nth xs k).name,.slice aa al ac,.int .i64 (nth xs k).sig.result,.slice ra rl rc,.string (nth xs k).proc] 88)) hE2;have hE3:=dh ((hE.out.trans (Ext.alloc _ _)).trans hE2);have hsz2:=hE2.size;simp only [World.size_alloc] at hsz2;clear hE2;go_wp2_with (at_builtin; refine wpList_append_own _ rfl _ _ 84 rfl w.heap.size 9 i0 (.string ⟨#[]⟩) 1 16 Tryz.underlying84 hi hz0 hz1 hz2 rfl (by decide) _ _ _ rfl (hown2.alloc _) ⟨w2.heap.size,0,none⟩ 1 1 [.string (g k)] rfl rfl ?c1 ?c2 ?c3 ?c4 ?c5 ?_)
   case c1=>exact cell_one_new _ _ _
   case c2=>simp [Value.oneCell']
   case c3=>unfold maxLen; omega
   case c4=>omega
   case c5=>simp; omega
   intro v' w3 hown3 hgrow3 _;have hE4:=dh (below_grown hE3.out (by omega) hown2 hgrow3);go_wp2;go_roundw
   case rel=>exact ⟨k+1,by omega,by go_num,by rw [range_snoc]; exact hown3,hE4⟩
   case measure=>simp [intOf]; omega
  ·have:k=n:=by omega
   subst this;go_wp2;go_ret;exact ⟨_,rfl,hown,hE.out⟩
theorem turned186 (F:FuncId) (hF:Enters Tryz.prog F) (cap:Array Value) (a:Option Addr) (n c:Nat) (xs:List Over) (g:Nat->BA) (w:World)
  (hx:Overs w (.slice a n c) xs)
  (hf:∀ k w1,k<n->Ext w w1->Calls Tryz.prog F (#[.agg #[.string (nth xs k).name,.string (nth xs k).proc]]++cap) w1 (fun e w2=>e=.returned (.string (g k))/\Ext w1 w2)) :
  Calls Tryz.prog 186 #[.slice a n c,.func (.func F) #[] cap] w fun e w2=>∃ v,e=.returned v/\w2.ownsRow w.heap.size 9 1 v n ((List.range n).map fun k=>.string (g k))/\Ext w w2:=by
 have hn:=(SlW.bound hx).2;have Hf:=dh hf; clear hf;obtain ⟨i0,hi,hz0,hz1,hz2⟩:=info_parts info9
 go_enter Tryz.func186,Tryz.ntmps186
 go_wp2;go_loopw [5,10] (fun v i wr=>∃ k:Nat,k<=n/\i=.int .i64 k/\wr.ownsRow w.heap.size 9 1 v k ((List.range k).map fun k=>.string (g k))/\Hid (Ext w wr)) (fun _ i _=>n-(intOf i).toNat)
 case atStart=>exact ⟨0,Nat.zero_le _,rfl,World.ownsRow_nil _ _ _ _,Ext.refl w⟩
 case round =>
  obtain ⟨k,hk,rfl,hown,hE⟩:=hrel;by_cases hlt:k<n
  ·obtain ⟨b,off,rfl,hb,hc0,hc1,hs,hs1⟩:=Overs.at (Overs.mono hE.out hx) hlt;have hsz:=hE.out.size;have hEn:∀ (args:Array Value) (w:World),(callFunc F args).run Tryz.prog w=.ok (.enter F args) w:=hF;go_wp2_with fail;refine (Hf.out k _ hlt (hE.out.trans (Ext.alloc _ _))).mono ?_;rintro e w2 ⟨rfl,hE2⟩;have hown2:=owns_ext (hown.alloc (.cells #[.string (nth xs k).name,.string (nth xs k).proc] 169)) hE2;have hE3:=dh ((hE.out.trans (Ext.alloc _ _)).trans hE2);have hsz2:=hE2.size;simp only [World.size_alloc] at hsz2;clear hE2;go_wp2_with (at_builtin; refine wpList_append_own _ rfl _ _ 84 rfl w.heap.size 9 i0 (.string ⟨#[]⟩) 1 16 Tryz.underlying84 hi hz0 hz1 hz2 rfl (by decide) _ _ _ rfl (hown2.alloc _) ⟨w2.heap.size,0,none⟩ 1 1 [.string (g k)] rfl rfl ?c1 ?c2 ?c3 ?c4 ?c5 ?_)
   case c1=>exact cell_one_new _ _ _
   case c2=>simp [Value.oneCell']
   case c3=>unfold maxLen; omega
   case c4=>omega
   case c5=>simp; omega
   intro v' w3 hown3 hgrow3 _;have hE4:=dh (below_grown hE3.out (by omega) hown2 hgrow3);go_wp2;go_roundw
   case rel=>exact ⟨k+1,by omega,by go_num,by rw [range_snoc]; exact hown3,hE4⟩
   case measure=>simp [intOf]; omega
  ·have:k=n:=by omega
   subst this;go_wp2;go_ret;exact ⟨_,rfl,hown,hE.out⟩
end
section
open Go.RowKit Go.Proofs
theorem index130 (a:Option Addr) (n c:Nat) (xs:List Int) (x:Int) (w:World) (hx:Ints w (.slice a n c) xs) :
  Calls Tryz.prog 130 #[.slice a n c,.int .i64 x] w fun e w2=>e=.returned (.int .i64 (idxI (fun y=>x==y) xs))/\w=w2:=by
 have hn:=(SlW.bound hx).2;obtain rfl:=SlW.len hx
 go_enter Tryz.func130,Tryz.ntmps130
 go_wp2
 go_loop [5,8] (fun _ i=>∃ k:Nat,k<=xs.length/\i=.int .i64 k/\Hid (∀ j,j<k->(x==nth xs j)=false)) (fun _ i=>xs.length-(intOf i).toNat)
 case atStart=>exact ⟨0,Nat.zero_le _,rfl,fun j hj=>by omega⟩
 case round =>
  obtain ⟨k,hk,rfl,hno⟩:=hrel;by_cases hlt:k<xs.length
  ·obtain ⟨b,off,rfl,hb,hc0,hr0,hr1⟩:=Ints.at hx hlt;cases hxy:(x==nth xs k)
   ·have hno2:=dh (show ∀ j,j<k+1->(x==nth xs j)=false from fun j hj=>by
     by_cases hjk:j=k
     ·rw [hjk]; exact hxy
     ·exact hno.out j (by omega))
    go_wp2;go_round
    case rel=>exact ⟨k+1,by omega,by go_num,hno2⟩
    case measure=>simp [intOf]; omega
   ·have hres:=dh (idxI_some (p:=fun y=>x==y) hlt hxy hno.out);go_wp2;go_ret;exact ⟨by rw [hres.out]; rfl,rfl⟩
  ·have:k=xs.length:=by omega
   subst this;have hres:=dh (idxI_none (p:=fun y=>x==y) hno.out);go_wp2;go_ret;exact ⟨by rw [hres.out]; rfl,rfl⟩
theorem contains95 (a:Option Addr) (n c:Nat) (xs:List Int) (x:Int) (w:World) (hx:Ints w (.slice a n c) xs) :
  Calls Tryz.prog 95 #[.slice a n c,.int .i64 x] w fun e w2=>e=.returned (.bool (xs.any fun y=>x==y))/\w=w2:=by
 have hix:=dh (index130 a n c xs x w hx);clear hx
 go_enter Tryz.func95,Tryz.ntmps95
 go_wp2_with fail;refine hix.out.mono ?_;rintro e w2 ⟨rfl,rfl⟩;have hres:=dh (idxI_any (fun y=>x==y) xs);generalize idxI (fun y=>x==y) xs=z at *;go_wp2;go_ret;exact ⟨by rw [<- hres.out]; rfl,rfl⟩
theorem index203 (a:Option Addr) (n c:Nat) (xs:List Int) (x:Int) (w:World) (hx:U8s w (.slice a n c) xs) :
  Calls Tryz.prog 203 #[.slice a n c,.int .u8 x] w fun e w2=>e=.returned (.int .i64 (idxI (fun y=>x==y) xs))/\w=w2:=by
 have hn:=(SlW.bound hx).2;obtain rfl:=SlW.len hx
 go_enter Tryz.func203,Tryz.ntmps203
 go_wp2
 go_loop [5,8] (fun _ i=>∃ k:Nat,k<=xs.length/\i=.int .i64 k/\Hid (∀ j,j<k->(x==nth xs j)=false)) (fun _ i=>xs.length-(intOf i).toNat)
 case atStart=>exact ⟨0,Nat.zero_le _,rfl,fun j hj=>by omega⟩
 case round =>
  obtain ⟨k,hk,rfl,hno⟩:=hrel;by_cases hlt:k<xs.length
  ·obtain ⟨b,off,rfl,hb,hc0⟩:=U8s.at hx hlt;cases hxy:(x==nth xs k)
   ·have hno2:=dh (show ∀ j,j<k+1->(x==nth xs j)=false from fun j hj=>by
     by_cases hjk:j=k
     ·rw [hjk]; exact hxy
     ·exact hno.out j (by omega))
    go_wp2;go_round
    case rel=>exact ⟨k+1,by omega,by go_num,hno2⟩
    case measure=>simp [intOf]; omega
   ·have hres:=dh (idxI_some (p:=fun y=>x==y) hlt hxy hno.out);go_wp2;go_ret;exact ⟨by rw [hres.out]; rfl,rfl⟩
  ·have:k=xs.length:=by omega
   subst this;have hres:=dh (idxI_none (p:=fun y=>x==y) hno.out);go_wp2;go_ret;exact ⟨by rw [hres.out]; rfl,rfl⟩
theorem contains193 (a:Option Addr) (n c:Nat) (xs:List Int) (x:Int) (w:World) (hx:U8s w (.slice a n c) xs) :
  Calls Tryz.prog 193 #[.slice a n c,.int .u8 x] w fun e w2=>e=.returned (.bool (xs.any fun y=>x==y))/\w=w2:=by
 have hix:=dh (index203 a n c xs x w hx);clear hx
 go_enter Tryz.func193,Tryz.ntmps193
 go_wp2_with fail;refine hix.out.mono ?_;rintro e w2 ⟨rfl,rfl⟩;have hres:=dh (idxI_any (fun y=>x==y) xs);generalize idxI (fun y=>x==y) xs=z at *;go_wp2;go_ret;exact ⟨by rw [<- hres.out]; rfl,rfl⟩
theorem index100 (a:Option Addr) (n c:Nat) (xs:List BA) (x:BA) (w:World) (hx:Strs w (.slice a n c) xs) :
  Calls Tryz.prog 100 #[.slice a n c,.string x] w fun e w2=>e=.returned (.int .i64 (idxI (fun y=>x==y) xs))/\w=w2:=by
 have hn:=(SlW.bound hx).2;obtain rfl:=SlW.len hx
 go_enter Tryz.func100,Tryz.ntmps100
 go_wp2
 go_loop [5,8] (fun _ i=>∃ k:Nat,k<=xs.length/\i=.int .i64 k/\Hid (∀ j,j<k->(x==nth xs j)=false)) (fun _ i=>xs.length-(intOf i).toNat)
 case atStart=>exact ⟨0,Nat.zero_le _,rfl,fun j hj=>by omega⟩
 case round =>
  obtain ⟨k,hk,rfl,hno⟩:=hrel;by_cases hlt:k<xs.length
  ·obtain ⟨b,off,rfl,hb,hc0,hr0⟩:=Strs.at hx hlt;cases hxy:(x==nth xs k)
   ·have hxy2:=hxy; rw [beq_toListBytes] at hxy2; have hno2:=dh (show ∀ j,j<k+1->(x==nth xs j)=false from fun j hj=>by
     by_cases hjk:j=k
     ·rw [hjk]; exact hxy
     ·exact hno.out j (by omega))
    go_wp2;go_round
    case rel=>exact ⟨k+1,by omega,by go_num,hno2⟩
    case measure=>simp [intOf]; omega
   ·have hxy2:=hxy; rw [beq_toListBytes] at hxy2; have hres:=dh (idxI_some (p:=fun y=>x==y) hlt hxy hno.out);go_wp2;go_ret;exact ⟨by rw [hres.out]; rfl,rfl⟩
  ·have:k=xs.length:=by omega
   subst this;have hres:=dh (idxI_none (p:=fun y=>x==y) hno.out);go_wp2;go_ret;exact ⟨by rw [hres.out]; rfl,rfl⟩
end
section
open Go.RowKit Go.Proofs
theorem has99 (a:Option Addr) (n c:Nat) (hn:n*8<=140737488351232) (i:Int) (w:World) :
  Calls Tryz.prog 99 #[.agg #[.slice a n c],.int .i64 i] w fun e w'=>e=.returned (.bool (hasI n i))/\Ext w w':=by
 go_enter Tryz.func99,Tryz.ntmps99
 go_wp2
 all_goals go_ret
 all_goals refine ⟨ret_bool (Bool.eq_iff_iff.2 ?_),Ext.alloc _ _⟩
 all_goals simp [hasI]
 all_goals omega
theorem enters201:Enters Tryz.prog 201:=enters_of Tryz.func201 (by kernel_rfl) rfl
theorem enters183:Enters Tryz.prog 183:=enters_of Tryz.func183 (by kernel_rfl) rfl
theorem enters185:Enters Tryz.prog 185:=enters_of Tryz.func185 (by kernel_rfl) rfl
theorem enters187:Enters Tryz.prog 187:=enters_of Tryz.func187 (by kernel_rfl) rfl
theorem enters189:Enters Tryz.prog 189:=enters_of Tryz.func189 (by kernel_rfl) rfl
theorem enters192:Enters Tryz.prog 192:=enters_of Tryz.func192 (by kernel_rfl) rfl
theorem signed201 (bg:Nat) (a:Option Addr) (n c:Nat) (hn:n*8<=140737488351232) (i:Int) (w:World) (hg:w.cell? ⟨bg,0,none⟩=some (.slice a n c)) :
  Calls Tryz.prog 201 #[.int .i64 i,.pointer (some ⟨bg,0,none⟩)] w fun e w'=>e=.returned (.bool (!hasI n i))/\Ext w w':=by
 go_enter Tryz.func201,Tryz.ntmps201
 go_wp2_with (go_at_call 99; refine (has99 a n c hn i _).mono ?_; rintro e wN ⟨rfl,hE⟩; have HE:=dh hE; clear hE);go_ret;exact ⟨rfl,by (repeat (first | exact Ext.refl _ | (refine Ext.trans ?_ (Hid.out (by assumption))) | (refine Ext.trans ?_ (Ext.alloc _ _)) | (refine Ext.trans ?_ (Ext.drew _)) | (refine below_drewN ?_ _)))⟩
theorem branded183 (bg:Nat) (a:Option Addr) (n c:Nat) (hn:n*8<=140737488351232) (p:Part) (w:World) (hg:w.cell? ⟨bg,0,none⟩=some (.slice a n c)) :
  Calls Tryz.prog 183 #[.agg #[.string p.name,.int .i64 p.type],.pointer (some ⟨bg,0,none⟩)] w fun e w'=>e=.returned (.bool (!hasI n p.type))/\Ext w w':=by
 have hl:=cell_lt hg
 go_enter Tryz.func183,Tryz.ntmps183
 go_wp2_with (go_at_call 99; refine (has99 a n c hn _ _).mono ?_; rintro e wN ⟨rfl,hE⟩; have HE:=dh hE; clear hE);go_ret;exact ⟨rfl,by (repeat (first | exact Ext.refl _ | (refine Ext.trans ?_ (Hid.out (by assumption))) | (refine Ext.trans ?_ (Ext.alloc _ _)) | (refine Ext.trans ?_ (Ext.drew _)) | (refine below_drewN ?_ _)))⟩
theorem name185 (nm pr:BA) (aa:Option Addr) (al ac:Nat) (ra:Option Addr) (rl rc:Nat) (r:Int) (w:World) :
  Calls Tryz.prog 185 #[.agg #[.string nm,.slice aa al ac,.int .i64 r,.slice ra rl rc,.string pr]] w fun e w'=>e=.returned (.string nm)/\Ext w w':=by
 go_enter Tryz.func185,Tryz.ntmps185
 go_wp2;go_ret;exact ⟨rfl,by (repeat (first | exact Ext.refl _ | (refine Ext.trans ?_ (Hid.out (by assumption))) | (refine Ext.trans ?_ (Ext.alloc _ _)) | (refine Ext.trans ?_ (Ext.drew _)) | (refine below_drewN ?_ _)))⟩
theorem name187 (o:Over) (w:World):Calls Tryz.prog 187 #[.agg #[.string o.name,.string o.proc]] w fun e w'=>e=.returned (.string o.name)/\Ext w w':=by
 go_enter Tryz.func187,Tryz.ntmps187
 go_wp2;go_ret;exact ⟨rfl,by (repeat (first | exact Ext.refl _ | (refine Ext.trans ?_ (Hid.out (by assumption))) | (refine Ext.trans ?_ (Ext.alloc _ _)) | (refine Ext.trans ?_ (Ext.drew _)) | (refine below_drewN ?_ _)))⟩
theorem proc192 (o:Over) (ho:o.proc.size<=140737488351232) (w:World):Calls Tryz.prog 192 #[.agg #[.string o.name,.string o.proc]] w fun e w'=>e=.returned (.bool (!isSymbolB o.proc))/\Ext w w':=by
 go_enter Tryz.func192,Tryz.ntmps192
 go_wp2_with (go_at_call 86; refine (isSymbol86 _ ho _).mono ?_; rintro e wN ⟨rfl,hE⟩; have HE:=dh hE; clear hE);go_ret;exact ⟨rfl,by (repeat (first | exact Ext.refl _ | (refine Ext.trans ?_ (Hid.out (by assumption))) | (refine Ext.trans ?_ (Ext.alloc _ _)) | (refine Ext.trans ?_ (Ext.drew _)) | (refine below_drewN ?_ _)))⟩
end
section
open Go.RowKit Go.Proofs
theorem over177 (a:Option Addr) (n c:Nat) (g:List Ty) (ka:Option Addr) (kn kc:Nat) (ks:List Int) (i:Int) (w:World) (hg:Graph w (.slice a n c) g) (hk:U8s w (.slice ka kn kc) ks) :
  Calls Tryz.prog 177 #[.agg #[.slice a n c],.int .i64 i,.slice ka kn kc] w fun e w'=>e=.returned (.bool (overB g i ks))/\Ext w w':=by
 have hb:=(SlW.bound hg).2;obtain rfl:=SlW.len hg;by_cases hi:0<=i/\i<g.length
 ·obtain ⟨h0,h1⟩:=hi;obtain ⟨j,rfl⟩:=Int.eq_ofNat_of_zero_le h0;have hj:j<g.length:=by omega
  have hh:hasI g.length j=true:=by simp [hasI]; omega
  have hs:=dh (show overB g j ks=ks.any (fun y=>(nth g j).kind==y) by
   unfold overB; rw [hh,Int.toNat_natCast,List.contains_eq_any_beq]; simp)
  obtain ⟨b,off,pa,pl,pc,ma,ml,mc,oa,ol,oc,rfl,hlt,T⟩:=Graph.at hg hj;have hc0:=T.c0
  go_enter Tryz.func177,Tryz.ntmps177
  go_wp2_with fail;refine (has99 _ _ _ (by omega) _ _).mono ?_;rintro e w1 ⟨rfl,hE⟩;have HE:=dh hE;have hk1:=U8s.mono hE (U8s.mono (Ext.alloc _ _) hk);have hc1:=hE.cell ((Ext.alloc _ _).cell hc0);have hbx:=hE.cell (cell_new1 w _ 118);clear hE;rw [hh];go_wp2_with fail;refine (contains193 _ _ _ _ _ _ hk1).mono ?_;rintro e w2 ⟨rfl,rfl⟩;go_wp2;go_ret;exact ⟨ret_bool hs.out.symm,by (repeat (first | exact Ext.refl _ | (refine Ext.trans ?_ (Hid.out (by assumption))) | (refine Ext.trans ?_ (Ext.alloc _ _)) | (refine Ext.trans ?_ (Ext.drew _)) | (refine below_drewN ?_ _)))⟩
 ·have hh:hasI g.length i=false:=by simp [hasI]; omega
  have hs:=dh (show overB g i ks=false by unfold overB; rw [hh]; rfl)
  go_enter Tryz.func177,Tryz.ntmps177
  go_wp2_with fail;refine (has99 _ _ _ (by omega) _ _).mono ?_;rintro e w1 ⟨rfl,hE⟩;have HE:=dh hE; clear hE;rw [hh];go_wp2_with fail;go_ret;exact ⟨ret_bool hs.out.symm,by (repeat (first | exact Ext.refl _ | (refine Ext.trans ?_ (Hid.out (by assumption))) | (refine Ext.trans ?_ (Ext.alloc _ _)) | (refine Ext.trans ?_ (Ext.drew _)) | (refine below_drewN ?_ _)))⟩
theorem raises_snoc (rs:List BA) (k:Nat):(List.range (k+1)).all (raiseB rs)=((List.range k).all (raiseB rs)&&raiseB rs k):=by
 rw [List.range_succ,List.all_append,List.all_cons,List.all_nil,Bool.and_true]
theorem alerted_list:alerted.toList=[65,76,69,82,84,69,68]:=by rw [ByteArray.toList_eq]; rfl
theorem raiseB_alert {rs:List BA} {k:Nat} (h:(nth rs k).toList=[65,76,69,82,84,69,68]):raiseB rs k=((k==0)||strLt (nth rs (k-1)) (nth rs k)):=by
 unfold raiseB;rw [beq_toListBytes,alerted_list,h]; rfl
theorem raiseB_other {rs:List BA} {k:Nat} (h:¬ (nth rs k).toList=[65,76,69,82,84,69,68]):raiseB rs k=(isSymbolB (nth rs k)&&((k==0)||strLt (nth rs (k-1)) (nth rs k))):=by
 unfold raiseB;rw [beq_toListBytes,alerted_list,beq_eq_false_iff_ne.2 h]; rfl
theorem signed190 (a:Option Addr) (n c:Nat) (hn:n*8<=140737488351232) (aa:Option Addr) (al ac:Nat) (ra:Option Addr) (rl rc:Nat) (s:Sig) (w:World)
  (hia:Ints w (.slice aa al ac) s.args) (hsr:Strs w (.slice ra rl rc) s.raises) :
  Calls Tryz.prog 190 #[.agg #[.slice a n c],.agg #[.slice aa al ac,.int .i64 s.result,.slice ra rl rc]] w fun e w'=>e=.returned (.bool (signedB n s))/\Ext w w':=by
 have hb1:=(SlW.bound hia).2;have hb2:=(SlW.bound hsr).2;obtain rfl:=SlW.len hia;obtain rfl:=SlW.len hsr;have hcf:=fun w1 (hg:w1.cell? ⟨w.heap.size,0,none⟩=some (.slice a n c)) (hi:Ints w1 (.slice aa s.args.length ac) s.args) =>
  containsFunc52_p 201 enters201 #[.pointer (some ⟨w.heap.size,0,none⟩)] aa s.args.length ac (by omega) (fun k _=>.int .i64 (nth s.args k)) w1 (fun k=>!hasI n (nth s.args k))
   (fun w2 hE i hi'=>by obtain ⟨b,off,ha,_,hc,_⟩:=Ints.at (Ints.mono hE hi) hi'; exact ⟨b,off,ha,hc⟩)
   (fun k w2 hk hE=>signed201 _ a n c hn _ w2 (hE.cell hg))
 have Hcf:=dh hcf; clear hcf;have hc52:=any_range s.args (fun i=>!hasI n i)
 go_enter Tryz.func190,Tryz.ntmps190
 go_upto_region 1 with (fail);obtain ⟨W,hW⟩:∃ W:World,W=((w.alloc (.cells #[.slice a n c] 118)).alloc (.cells #[.slice aa s.args.length ac,.int .i64 s.result,.slice ra s.raises.length rc] 86)):=⟨_,rfl⟩;have hEW:Ext w W:=by rw [hW]; exact by (repeat (first | exact Ext.refl _ | (refine Ext.trans ?_ (Hid.out (by assumption))) | (refine Ext.trans ?_ (Ext.alloc _ _)) | (refine Ext.trans ?_ (Ext.drew _)) | (refine below_drewN ?_ _)))
 have HEW:=dh hEW;have hg:W.cell? ⟨w.heap.size,0,none⟩=some (.slice a n c):=by rw [hW]; exact (Ext.alloc _ _).cell (cell_new1 _ _ _)
 have hs0:W.cell? ⟨w.heap.size+1,0,none⟩=some (.slice aa s.args.length ac):=by rw [hW]; simp
 have hs1:W.cell? ⟨w.heap.size+1,1,none⟩=some (.int .i64 s.result):=by rw [hW]; simp
 have hs2:W.cell? ⟨w.heap.size+1,2,none⟩=some (.slice ra s.raises.length rc):=by rw [hW]; simp
 rw [<- hW];clear hW;go_cut [5] (fun v wx=>v=.bool (decide (s.args.length<=6)&&decide (s.raises.length<=6)&&(s.result==-1||hasI n s.result)&&s.args.all (hasI n))/\Hid (Ext W wx))
 case first =>
  have hia1:=Ints.mono hEW hia;clear hEW;have hall:(!(List.range s.args.length).any fun k=>!hasI n (nth s.args k))=s.args.all (hasI n):=by
   rw [hc52,List.not_any_eq_all_not]; simp
  have Hall:=dh hall; clear hall hc52;by_cases h6:s.args.length<=6
  ·by_cases h7:s.raises.length<=6
   ·by_cases h8:s.result=-1
    ·have Hv:=dh (show (decide (s.args.length<=6)&&decide (s.raises.length<=6)&&(s.result==-1||hasI n s.result)&&s.args.all (hasI n))=s.args.all (hasI n) by
      rw [decide_eq_true h6,decide_eq_true h7,beq_iff_eq.2 h8]; simp)
     have h8b:(s.result==-1)=true:=beq_iff_eq.2 h8;clear h8;go_wp2_with fail;refine (Hcf.out _ hg hia1).mono ?_;rintro e w2 ⟨rfl,hE⟩;have HE:=dh hE; clear hE;go_wp2_with fail;go_meet;exact ⟨by rw [Hv.out,<- Hall.out],HE⟩
    ·have h8b:(s.result==-1)=false:=beq_eq_false_iff_ne.2 h8;cases hh:hasI n s.result
     ·have Hv:=dh (show (decide (s.args.length<=6)&&decide (s.raises.length<=6)&&(s.result==-1||hasI n s.result)&&s.args.all (hasI n))=false by
       rw [hh,h8b]; simp)
      go_wp2_with fail;refine (has99 a n c hn _ _).mono ?_;rintro e w2 ⟨rfl,hE⟩;rw [hh];have HE:=dh hE; clear hE;go_wp2_with fail;go_meet;exact ⟨by rw [Hv.out],HE⟩
     ·have Hv:=dh (show (decide (s.args.length<=6)&&decide (s.raises.length<=6)&&(s.result==-1||hasI n s.result)&&s.args.all (hasI n))=s.args.all (hasI n) by
       rw [decide_eq_true h6,decide_eq_true h7,hh]; simp)
      go_wp2_with fail;refine (has99 a n c hn _ _).mono ?_;rintro e w2 ⟨rfl,hE⟩;rw [hh];have hg2:=hE.cell hg;have hs02:=hE.cell hs0;have hia2:=Ints.mono hE hia1;have HE:=dh hE; clear hE;go_wp2_with fail;refine (Hcf.out _ hg2 hia2).mono ?_;rintro e w3 ⟨rfl,hE⟩;have HE3:=dh hE; clear hE;go_wp2_with fail;go_meet;exact ⟨by rw [Hv.out,<- Hall.out],HE.out.trans HE3.out⟩
   ·have Hv:=dh (show (decide (s.args.length<=6)&&decide (s.raises.length<=6)&&(s.result==-1||hasI n s.result)&&s.args.all (hasI n))=false by
     rw [decide_eq_false h7]; simp)
    go_wp2_with fail;go_meet;exact ⟨by rw [Hv.out],Ext.refl _⟩
  ·have Hv:=dh (show (decide (s.args.length<=6)&&decide (s.raises.length<=6)&&(s.result==-1||hasI n s.result)&&s.args.all (hasI n))=false by
    rw [decide_eq_false h6]; simp)
   go_wp2_with fail;go_meet;exact ⟨by rw [Hv.out],Ext.refl _⟩
 case rest =>
  obtain ⟨rfl,hEx⟩:=hcut;have hsr2:=Strs.mono (hEW.trans hEx.out) hsr;have hs22:=hEx.out.cell hs2;have HEx:=dh (hEW.trans hEx.out);clear hEW hs2 hg hs0 hs1 hc52;have hsg:signedB n s=((decide (s.args.length<=6)&&decide (s.raises.length<=6)&&(s.result==-1||hasI n s.result)&&s.args.all (hasI n))&&(List.range s.raises.length).all (raiseB s.raises)):=rfl;generalize (decide (s.args.length<=6)&&decide (s.raises.length<=6)&&(s.result==-1||hasI n s.result)&&s.args.all (hasI n))=ok0 at *;have Hsg:=dh hsg; clear hsg;go_wp2_with fail;go_loopw [5,6,7,39] (fun v _ _ i wr=>∃ (k:Nat) (b:Bool),k<=s.raises.length/\i=.int .i64 k/\v=.bool b/\Hid (b=(ok0&&(List.range k).all (raiseB s.raises))/\Ext w wr/\wr.cell? ⟨w.heap.size+1,2,none⟩=some (.slice ra s.raises.length rc))) (fun _ _ _ i _=>s.raises.length-(intOf i).toNat)
  case atStart=>exact ⟨0,ok0,Nat.zero_le _,rfl,rfl,by simp,HEx.out,hs22⟩
  case round =>
   obtain ⟨k,bk,hk,rfl,rfl,H⟩:=hrel;obtain ⟨hbk,hE,hcell⟩:=H.out;clear H;have HE0:=dh hE;have Hbk:=dh hbk; clear hbk;by_cases hlt:k<s.raises.length
   ·obtain ⟨b,off,rfl,hb,hc0,hr0⟩:=Strs.at (Strs.mono hE hsr) hlt;have hpre:0<k->wr.cell? ⟨b,off+(k-1),none⟩=some (.string (nth s.raises (k-1))):=fun h=>by
     obtain ⟨b',off',e,_,hc,_⟩:=Strs.at (Strs.mono hE hsr) (show k-1<s.raises.length by omega);cases e; exact hc
    have hrs:(List.range (k+1)).all (raiseB s.raises)=((List.range k).all (raiseB s.raises)&&raiseB s.raises k):=raises_snoc _ _;have Hrs:=dh hrs; clear hrs;clear hE hsr2;cases bk
    ·have Hr:=dh (rfl:raiseB s.raises k=raiseB s.raises k);clear hpre;go_wp2_with fail;go_roundw
     case rel=>exact ⟨k+1,_,by omega,by go_num,rfl,by rw [Hrs.out,<- Bool.and_assoc,<- Hbk.out]; rfl,HE0.out,hcell⟩
     case measure=>simp [intOf]; omega
    ·by_cases hal:(nth s.raises k).toList=[65,76,69,82,84,69,68]
     ·by_cases hk0:k=0
      ·have hk1:((k:Int)==0)=true:=by rw [beq_iff_eq]; omega
       have Hr:=dh (show raiseB s.raises k=true by rw [raiseB_alert hal,beq_iff_eq.2 hk0]; rfl);have halb:((nth s.raises k).toList==[65,76,69,82,84,69,68])=true:=beq_iff_eq.2 hal;clear hpre hk0 hal;go_wp2_with fail;go_roundw
       case rel=>exact ⟨k+1,_,by omega,by go_num,rfl,by rw [Hrs.out,<- Bool.and_assoc,<- Hbk.out,Hr.out]; rfl,HE0.out,hcell⟩
       case measure=>simp [intOf]; omega
      ·have hk1:((k:Int)==0)=false:=by rw [beq_eq_false_iff_ne]; omega
       have hk2:1<=k:=by omega
       have hc1:=hpre hk2;have Hr:=dh (show raiseB s.raises k=strLt (nth s.raises (k-1)) (nth s.raises k) by rw [raiseB_alert hal,beq_eq_false_iff_ne.2 hk0]; rfl);have halb:((nth s.raises k).toList==[65,76,69,82,84,69,68])=true:=beq_iff_eq.2 hal;clear hpre hk0 hal;go_wp2_with fail;go_roundw
       case rel=>exact ⟨k+1,_,by omega,by go_num,rfl,by rw [Hrs.out,<- Bool.and_assoc,<- Hbk.out,Hr.out]; rfl,HE0.out,hcell⟩
       case measure=>simp [intOf]; omega
     ·have Hr0:=raiseB_other hal;have halb:((nth s.raises k).toList==[65,76,69,82,84,69,68])=false:=beq_eq_false_iff_ne.2 hal;clear hal;cases hsy:isSymbolB (nth s.raises k)
      ·have Hr:=dh (show raiseB s.raises k=false by rw [Hr0,hsy]; rfl);clear Hr0 hpre;go_wp2_with fail;refine (isSymbol86 _ hr0 _).mono ?_;rintro e w2 ⟨rfl,hE⟩;rw [hsy];have hcell2:=hE.cell hcell;have HE2:=dh (HE0.out.trans hE); clear hE;go_wp2_with fail;go_roundw
       case rel=>exact ⟨k+1,_,by omega,by go_num,rfl,by rw [Hrs.out,<- Bool.and_assoc,<- Hbk.out,Hr.out]; rfl,HE2.out,hcell2⟩
       case measure=>simp [intOf]; omega
      ·by_cases hk0:k=0
       ·have hk1:((k:Int)==0)=true:=by rw [beq_iff_eq]; omega
        have Hr:=dh (show raiseB s.raises k=true by rw [Hr0,hsy,beq_iff_eq.2 hk0]; rfl);clear Hr0 hpre hk0;go_wp2_with fail;refine (isSymbol86 _ hr0 _).mono ?_;rintro e w2 ⟨rfl,hE⟩;rw [hsy];have hcell2:=hE.cell hcell;have HE2:=dh (HE0.out.trans hE); clear hE;go_wp2_with fail;go_roundw
        case rel=>exact ⟨k+1,_,by omega,by go_num,rfl,by rw [Hrs.out,<- Bool.and_assoc,<- Hbk.out,Hr.out]; rfl,HE2.out,hcell2⟩
        case measure=>simp [intOf]; omega
       ·have hk1:((k:Int)==0)=false:=by rw [beq_eq_false_iff_ne]; omega
        have hk2:1<=k:=by omega
        have hc1:=hpre hk2;have Hr:=dh (show raiseB s.raises k=strLt (nth s.raises (k-1)) (nth s.raises k) by rw [Hr0,hsy,beq_eq_false_iff_ne.2 hk0]; rfl);clear Hr0 hpre hk0;go_wp2_with fail;refine (isSymbol86 _ hr0 _).mono ?_;rintro e w2 ⟨rfl,hE⟩;rw [hsy];have hcell2:=hE.cell hcell;have hc2:=hE.cell hc1;have HE2:=dh (HE0.out.trans hE); clear hE;go_wp2_with fail;go_roundw
        case rel=>exact ⟨k+1,_,by omega,by go_num,rfl,by rw [Hrs.out,<- Bool.and_assoc,<- Hbk.out,Hr.out]; rfl,HE2.out,hcell2⟩
        case measure=>simp [intOf]; omega
   ·have:k=s.raises.length:=by omega
    subst this;clear hE hsr2;go_wp2_with fail;go_ret;exact ⟨ret_bool (by rw [Hsg.out,<- Hbk.out]),HE0.out⟩
end
end Go.Proofs.YtjffkeoajkhbmaaGreat
