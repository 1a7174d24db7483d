/- The library's IndexFunc and ContainsFunc, at each element type, over whatever function value. Names, symbols and brands: what types.IsName, IsSymbol and isBrand return. What types.different returns: the names are names, and differ, and are not too many. -/
import Derived.Lib.ConvBytes
import Derived.Test.YtjffkeoajkhbmaaGreatOW0
namespace Go.Proofs.YtjffkeoajkhbmaaGreat
set_option linter.unusedSimpArgs false
set_option linter.unusedVariables false
set_option maxRecDepth 100000
set_option maxHeartbeats 8000000
section
open Go.RowKit Go.Proofs
theorem range_any_false {n:Nat} {p:Nat->Bool} (h:∀ i,i<n->p i=false):(List.range n).any p=false:=by
 simp only [List.any_eq_false,List.mem_range];intro i hi; simp [h i hi]
theorem range_any_true {n k:Nat} {p:Nat->Bool} (hk:k<n) (h:p k=true):(List.range n).any p=true:=by
 simp only [List.any_eq_true,List.mem_range];exact ⟨k,hk,h⟩
theorem indexFunc82 (F:FuncId) (hF:Enters Tryz.prog F) (cap:Array Value) (a:Option Addr) (n c:Nat) (hn:n*8<=140737488351232) (f:Nat->Nat->Value) (w:World) (I J:Nat->World->Prop)
  (hI:∀ k w1,I k w1->∀ i,i<n->∃ b off,a=some ⟨b,off,none⟩/\w1.cell? ⟨b,off+i,none⟩=some (f i 0))
  (hf:∀ k w1,k<n->I k w1->Calls Tryz.prog F (#[f k 0]++cap) w1 (fun e w2=>(e=.returned (.bool false)/\I (k+1) w2)\/(e=.returned (.bool true)/\J k w2)))
  (h0:I 0 w) :
  Calls Tryz.prog 82 #[.slice a n c,.func (.func F) #[] cap] w fun e w2=>(e=.returned (.int .i64 (-1))/\I n w2)\/(∃ k:Nat,k<n/\e=.returned (.int .i64 k)/\J k w2):=by
 have HI:=dh hI; clear hI;have Hf:=dh hf; clear hf;have H0:=dh h0; clear h0
 go_enter Tryz.func82,Tryz.ntmps82
 go_wp2;go_loopw [5,8] (fun _ i wr=>∃ k:Nat,k<=n/\i=.int .i64 k/\Hid (I k wr)) (fun _ i _=>n-(intOf i).toNat)
 case atStart=>exact ⟨0,Nat.zero_le _,rfl,H0.out⟩
 case round =>
  obtain ⟨k,hk,rfl,hIk⟩:=hrel;by_cases hlt:k<n
  ·obtain ⟨b,off,rfl,hc0⟩:=HI.out k wr hIk.out k hlt;have hcall:=dh (Hf.out k wr hlt hIk.out);have hE:∀ (args:Array Value) (w:World),(callFunc F args).run Tryz.prog w=.ok (.enter F args) w:=hF;go_wp2_with fail;refine hcall.out.mono ?_;rintro e w2 (⟨rfl,hI2⟩ | ⟨rfl,hJ2⟩)
   ·have HI2:=dh hI2; clear hI2;go_wp2;go_roundw
    case rel=>exact ⟨k+1,by omega,by go_num,HI2⟩
    case measure=>simp [intOf]; omega
   ·have HJ2:=dh hJ2; clear hJ2;go_wp2;go_ret;exact Or.inr ⟨k,hlt,rfl,HJ2.out⟩
  ·have:k=n:=by omega
   subst this;go_wp2;go_ret;exact Or.inl ⟨rfl,hIk.out⟩
theorem containsFunc52 (F:FuncId) (hF:Enters Tryz.prog F) (cap:Array Value) (a:Option Addr) (n c:Nat) (hn:n*8<=140737488351232) (f:Nat->Nat->Value) (w:World) (I J:Nat->World->Prop)
  (hI:∀ k w1,I k w1->∀ i,i<n->∃ b off,a=some ⟨b,off,none⟩/\w1.cell? ⟨b,off+i,none⟩=some (f i 0))
  (hf:∀ k w1,k<n->I k w1->Calls Tryz.prog F (#[f k 0]++cap) w1 (fun e w2=>(e=.returned (.bool false)/\I (k+1) w2)\/(e=.returned (.bool true)/\J k w2)))
  (h0:I 0 w) :
  Calls Tryz.prog 52 #[.slice a n c,.func (.func F) #[] cap] w fun e w2=>(e=.returned (.bool false)/\I n w2)\/(∃ k:Nat,k<n/\e=.returned (.bool true)/\J k w2):=by
 have hix:=dh (indexFunc82 F hF cap a n c hn f w I J hI hf h0);clear hI hf h0
 go_enter Tryz.func52,Tryz.ntmps52
 go_wp2_with fail;refine hix.out.mono ?_;rintro e w2 (⟨rfl,h⟩ | ⟨k,hk,rfl,h⟩)
 ·have H:=dh h; clear h;go_wp2;go_ret;exact Or.inl ⟨by simp,H.out⟩
 ·have H:=dh h; clear h;go_wp2;go_ret;exact Or.inr ⟨k,hk,by simp,H.out⟩
theorem containsFunc52_p (F:FuncId) (hF:Enters Tryz.prog F) (cap:Array Value) (a:Option Addr) (n c:Nat) (hn:n*8<=140737488351232) (f:Nat->Nat->Value) (w:World) (p:Nat->Bool)
  (hI:∀ w1,Ext w w1->∀ i,i<n->∃ b off,a=some ⟨b,off,none⟩/\w1.cell? ⟨b,off+i,none⟩=some (f i 0))
  (hf:∀ k w1,k<n->Ext w w1->Calls Tryz.prog F (#[f k 0]++cap) w1 (fun e w2=>e=.returned (.bool (p k))/\Ext w1 w2)) :
  Calls Tryz.prog 52 #[.slice a n c,.func (.func F) #[] cap] w fun e w2=>e=.returned (.bool ((List.range n).any p))/\Ext w w2:=by
 refine (containsFunc52 F hF cap a n c hn f w (fun k w1=>Ext w w1/\∀ i,i<k->p i=false) (fun k w1=>Ext w w1/\p k=true) (fun k w1 h=>hI w1 h.1)
  (fun k w1 hk h=>(hf k w1 hk h.1).mono ?_) ⟨Ext.refl w,fun i hi=>by omega⟩).mono ?_
 ·rintro e w2 ⟨rfl,hE⟩;cases hp:p k
  ·refine Or.inl ⟨rfl,h.1.trans hE,fun i hi=>?_⟩;by_cases hik:i=k
   ·rw [hik]; exact hp
   ·exact h.2 i (by omega)
  ·exact Or.inr ⟨rfl,h.1.trans hE,rfl⟩
 ·rintro e w2 (⟨rfl,hE,h⟩ | ⟨k,hk,rfl,hE,h⟩)
  ·exact ⟨by rw [range_any_false h],hE⟩
  ·exact ⟨by rw [range_any_true hk h],hE⟩
theorem indexFunc179 (F:FuncId) (hF:Enters Tryz.prog F) (cap:Array Value) (a:Option Addr) (n c:Nat) (hn:n*8<=140737488351232) (f:Nat->Nat->Value) (w:World) (I J:Nat->World->Prop)
  (hI:∀ k w1,I k w1->∀ i,i<n->∃ b off,a=some ⟨b,off,none⟩/\w1.cell? ⟨b,off+i,none⟩=some (f i 0))
  (hf:∀ k w1,k<n->I k w1->Calls Tryz.prog F (#[f k 0]++cap) w1 (fun e w2=>(e=.returned (.bool false)/\I (k+1) w2)\/(e=.returned (.bool true)/\J k w2)))
  (h0:I 0 w) :
  Calls Tryz.prog 179 #[.slice a n c,.func (.func F) #[] cap] w fun e w2=>(e=.returned (.int .i64 (-1))/\I n w2)\/(∃ k:Nat,k<n/\e=.returned (.int .i64 k)/\J k w2):=by
 have HI:=dh hI; clear hI;have Hf:=dh hf; clear hf;have H0:=dh h0; clear h0
 go_enter Tryz.func179,Tryz.ntmps179
 go_wp2;go_loopw [5,8] (fun _ i wr=>∃ k:Nat,k<=n/\i=.int .i64 k/\Hid (I k wr)) (fun _ i _=>n-(intOf i).toNat)
 case atStart=>exact ⟨0,Nat.zero_le _,rfl,H0.out⟩
 case round =>
  obtain ⟨k,hk,rfl,hIk⟩:=hrel;by_cases hlt:k<n
  ·obtain ⟨b,off,rfl,hc0⟩:=HI.out k wr hIk.out k hlt;have hcall:=dh (Hf.out k wr hlt hIk.out);have hE:∀ (args:Array Value) (w:World),(callFunc F args).run Tryz.prog w=.ok (.enter F args) w:=hF;go_wp2_with fail;refine hcall.out.mono ?_;rintro e w2 (⟨rfl,hI2⟩ | ⟨rfl,hJ2⟩)
   ·have HI2:=dh hI2; clear hI2;go_wp2;go_roundw
    case rel=>exact ⟨k+1,by omega,by go_num,HI2⟩
    case measure=>simp [intOf]; omega
   ·have HJ2:=dh hJ2; clear hJ2;go_wp2;go_ret;exact Or.inr ⟨k,hlt,rfl,HJ2.out⟩
  ·have:k=n:=by omega
   subst this;go_wp2;go_ret;exact Or.inl ⟨rfl,hIk.out⟩
theorem containsFunc153 (F:FuncId) (hF:Enters Tryz.prog F) (cap:Array Value) (a:Option Addr) (n c:Nat) (hn:n*8<=140737488351232) (f:Nat->Nat->Value) (w:World) (I J:Nat->World->Prop)
  (hI:∀ k w1,I k w1->∀ i,i<n->∃ b off,a=some ⟨b,off,none⟩/\w1.cell? ⟨b,off+i,none⟩=some (f i 0))
  (hf:∀ k w1,k<n->I k w1->Calls Tryz.prog F (#[f k 0]++cap) w1 (fun e w2=>(e=.returned (.bool false)/\I (k+1) w2)\/(e=.returned (.bool true)/\J k w2)))
  (h0:I 0 w) :
  Calls Tryz.prog 153 #[.slice a n c,.func (.func F) #[] cap] w fun e w2=>(e=.returned (.bool false)/\I n w2)\/(∃ k:Nat,k<n/\e=.returned (.bool true)/\J k w2):=by
 have hix:=dh (indexFunc179 F hF cap a n c hn f w I J hI hf h0);clear hI hf h0
 go_enter Tryz.func153,Tryz.ntmps153
 go_wp2_with fail;refine hix.out.mono ?_;rintro e w2 (⟨rfl,h⟩ | ⟨k,hk,rfl,h⟩)
 ·have H:=dh h; clear h;go_wp2;go_ret;exact Or.inl ⟨by simp,H.out⟩
 ·have H:=dh h; clear h;go_wp2;go_ret;exact Or.inr ⟨k,hk,by simp,H.out⟩
theorem containsFunc153_p (F:FuncId) (hF:Enters Tryz.prog F) (cap:Array Value) (a:Option Addr) (n c:Nat) (hn:n*8<=140737488351232) (f:Nat->Nat->Value) (w:World) (p:Nat->Bool)
  (hI:∀ w1,Ext w w1->∀ i,i<n->∃ b off,a=some ⟨b,off,none⟩/\w1.cell? ⟨b,off+i,none⟩=some (f i 0))
  (hf:∀ k w1,k<n->Ext w w1->Calls Tryz.prog F (#[f k 0]++cap) w1 (fun e w2=>e=.returned (.bool (p k))/\Ext w1 w2)) :
  Calls Tryz.prog 153 #[.slice a n c,.func (.func F) #[] cap] w fun e w2=>e=.returned (.bool ((List.range n).any p))/\Ext w w2:=by
 refine (containsFunc153 F hF cap a n c hn f w (fun k w1=>Ext w w1/\∀ i,i<k->p i=false) (fun k w1=>Ext w w1/\p k=true) (fun k w1 h=>hI w1 h.1)
  (fun k w1 hk h=>(hf k w1 hk h.1).mono ?_) ⟨Ext.refl w,fun i hi=>by omega⟩).mono ?_
 ·rintro e w2 ⟨rfl,hE⟩;cases hp:p k
  ·refine Or.inl ⟨rfl,h.1.trans hE,fun i hi=>?_⟩;by_cases hik:i=k
   ·rw [hik]; exact hp
   ·exact h.2 i (by omega)
  ·exact Or.inr ⟨rfl,h.1.trans hE,rfl⟩
 ·rintro e w2 (⟨rfl,hE,h⟩ | ⟨k,hk,rfl,hE,h⟩)
  ·exact ⟨by rw [range_any_false h],hE⟩
  ·exact ⟨by rw [range_any_true hk h],hE⟩
theorem indexFunc199 (F:FuncId) (hF:Enters Tryz.prog F) (cap:Array Value) (a:Option Addr) (n c:Nat) (hn:n*8<=140737488351232) (f:Nat->Nat->Value) (w:World) (I J:Nat->World->Prop)
  (hI:∀ k w1,I k w1->∀ i,i<n->∃ b off,a=some ⟨b,off,none⟩/\w1.cell? ⟨b,off+i*2,none⟩=some (f i 0)/\w1.cell? ⟨b,off+i*2+1,none⟩=some (f i 1))
  (hf:∀ k w1,k<n->I k w1->Calls Tryz.prog F (#[.agg #[f k 0,f k 1]]++cap) w1 (fun e w2=>(e=.returned (.bool false)/\I (k+1) w2)\/(e=.returned (.bool true)/\J k w2)))
  (h0:I 0 w) :
  Calls Tryz.prog 199 #[.slice a n c,.func (.func F) #[] cap] w fun e w2=>(e=.returned (.int .i64 (-1))/\I n w2)\/(∃ k:Nat,k<n/\e=.returned (.int .i64 k)/\J k w2):=by
 have HI:=dh hI; clear hI;have Hf:=dh hf; clear hf;have H0:=dh h0; clear h0
 go_enter Tryz.func199,Tryz.ntmps199
 go_wp2;go_loopw [5,8] (fun _ i wr=>∃ k:Nat,k<=n/\i=.int .i64 k/\Hid (I k wr)) (fun _ i _=>n-(intOf i).toNat)
 case atStart=>exact ⟨0,Nat.zero_le _,rfl,H0.out⟩
 case round =>
  obtain ⟨k,hk,rfl,hIk⟩:=hrel;by_cases hlt:k<n
  ·obtain ⟨b,off,rfl,hc0,hc1⟩:=HI.out k wr hIk.out k hlt;have hcall:=dh (Hf.out k wr hlt hIk.out);have hE:∀ (args:Array Value) (w:World),(callFunc F args).run Tryz.prog w=.ok (.enter F args) w:=hF;go_wp2_with fail;refine hcall.out.mono ?_;rintro e w2 (⟨rfl,hI2⟩ | ⟨rfl,hJ2⟩)
   ·have HI2:=dh hI2; clear hI2;go_wp2;go_roundw
    case rel=>exact ⟨k+1,by omega,by go_num,HI2⟩
    case measure=>simp [intOf]; omega
   ·have HJ2:=dh hJ2; clear hJ2;go_wp2;go_ret;exact Or.inr ⟨k,hlt,rfl,HJ2.out⟩
  ·have:k=n:=by omega
   subst this;go_wp2;go_ret;exact Or.inl ⟨rfl,hIk.out⟩
theorem containsFunc182 (F:FuncId) (hF:Enters Tryz.prog F) (cap:Array Value) (a:Option Addr) (n c:Nat) (hn:n*8<=140737488351232) (f:Nat->Nat->Value) (w:World) (I J:Nat->World->Prop)
  (hI:∀ k w1,I k w1->∀ i,i<n->∃ b off,a=some ⟨b,off,none⟩/\w1.cell? ⟨b,off+i*2,none⟩=some (f i 0)/\w1.cell? ⟨b,off+i*2+1,none⟩=some (f i 1))
  (hf:∀ k w1,k<n->I k w1->Calls Tryz.prog F (#[.agg #[f k 0,f k 1]]++cap) w1 (fun e w2=>(e=.returned (.bool false)/\I (k+1) w2)\/(e=.returned (.bool true)/\J k w2)))
  (h0:I 0 w) :
  Calls Tryz.prog 182 #[.slice a n c,.func (.func F) #[] cap] w fun e w2=>(e=.returned (.bool false)/\I n w2)\/(∃ k:Nat,k<n/\e=.returned (.bool true)/\J k w2):=by
 have hix:=dh (indexFunc199 F hF cap a n c hn f w I J hI hf h0);clear hI hf h0
 go_enter Tryz.func182,Tryz.ntmps182
 go_wp2_with fail;refine hix.out.mono ?_;rintro e w2 (⟨rfl,h⟩ | ⟨k,hk,rfl,h⟩)
 ·have H:=dh h; clear h;go_wp2;go_ret;exact Or.inl ⟨by simp,H.out⟩
 ·have H:=dh h; clear h;go_wp2;go_ret;exact Or.inr ⟨k,hk,by simp,H.out⟩
theorem containsFunc182_p (F:FuncId) (hF:Enters Tryz.prog F) (cap:Array Value) (a:Option Addr) (n c:Nat) (hn:n*8<=140737488351232) (f:Nat->Nat->Value) (w:World) (p:Nat->Bool)
  (hI:∀ w1,Ext w w1->∀ i,i<n->∃ b off,a=some ⟨b,off,none⟩/\w1.cell? ⟨b,off+i*2,none⟩=some (f i 0)/\w1.cell? ⟨b,off+i*2+1,none⟩=some (f i 1))
  (hf:∀ k w1,k<n->Ext w w1->Calls Tryz.prog F (#[.agg #[f k 0,f k 1]]++cap) w1 (fun e w2=>e=.returned (.bool (p k))/\Ext w1 w2)) :
  Calls Tryz.prog 182 #[.slice a n c,.func (.func F) #[] cap] w fun e w2=>e=.returned (.bool ((List.range n).any p))/\Ext w w2:=by
 refine (containsFunc182 F hF cap a n c hn f w (fun k w1=>Ext w w1/\∀ i,i<k->p i=false) (fun k w1=>Ext w w1/\p k=true) (fun k w1 h=>hI w1 h.1)
  (fun k w1 hk h=>(hf k w1 hk h.1).mono ?_) ⟨Ext.refl w,fun i hi=>by omega⟩).mono ?_
 ·rintro e w2 ⟨rfl,hE⟩;cases hp:p k
  ·refine Or.inl ⟨rfl,h.1.trans hE,fun i hi=>?_⟩;by_cases hik:i=k
   ·rw [hik]; exact hp
   ·exact h.2 i (by omega)
  ·exact Or.inr ⟨rfl,h.1.trans hE,rfl⟩
 ·rintro e w2 (⟨rfl,hE,h⟩ | ⟨k,hk,rfl,hE,h⟩)
  ·exact ⟨by rw [range_any_false h],hE⟩
  ·exact ⟨by rw [range_any_true hk h],hE⟩
theorem indexFunc200 (F:FuncId) (hF:Enters Tryz.prog F) (cap:Array Value) (a:Option Addr) (n c:Nat) (hn:n*8<=140737488351232) (f:Nat->Nat->Value) (w:World) (I J:Nat->World->Prop)
  (hI:∀ k w1,I k w1->∀ i,i<n->∃ b off,a=some ⟨b,off,none⟩/\w1.cell? ⟨b,off+i*5,none⟩=some (f i 0)/\w1.cell? ⟨b,off+i*5+1,none⟩=some (f i 1)/\w1.cell? ⟨b,off+i*5+2,none⟩=some (f i 2)/\w1.cell? ⟨b,off+i*5+3,none⟩=some (f i 3)/\w1.cell? ⟨b,off+i*5+4,none⟩=some (f i 4))
  (hf:∀ k w1,k<n->I k w1->Calls Tryz.prog F (#[.agg #[f k 0,f k 1,f k 2,f k 3,f k 4]]++cap) w1 (fun e w2=>(e=.returned (.bool false)/\I (k+1) w2)\/(e=.returned (.bool true)/\J k w2)))
  (h0:I 0 w) :
  Calls Tryz.prog 200 #[.slice a n c,.func (.func F) #[] cap] w fun e w2=>(e=.returned (.int .i64 (-1))/\I n w2)\/(∃ k:Nat,k<n/\e=.returned (.int .i64 k)/\J k w2):=by
 have HI:=dh hI; clear hI;have Hf:=dh hf; clear hf;have H0:=dh h0; clear h0
 go_enter Tryz.func200,Tryz.ntmps200
 go_wp2;go_loopw [5,8] (fun _ i wr=>∃ k:Nat,k<=n/\i=.int .i64 k/\Hid (I k wr)) (fun _ i _=>n-(intOf i).toNat)
 case atStart=>exact ⟨0,Nat.zero_le _,rfl,H0.out⟩
 case round =>
  obtain ⟨k,hk,rfl,hIk⟩:=hrel;by_cases hlt:k<n
  ·obtain ⟨b,off,rfl,hc0,hc1,hc2,hc3,hc4⟩:=HI.out k wr hIk.out k hlt;have hcall:=dh (Hf.out k wr hlt hIk.out);have hE:∀ (args:Array Value) (w:World),(callFunc F args).run Tryz.prog w=.ok (.enter F args) w:=hF;go_wp2_with fail;refine hcall.out.mono ?_;rintro e w2 (⟨rfl,hI2⟩ | ⟨rfl,hJ2⟩)
   ·have HI2:=dh hI2; clear hI2;go_wp2;go_roundw
    case rel=>exact ⟨k+1,by omega,by go_num,HI2⟩
    case measure=>simp [intOf]; omega
   ·have HJ2:=dh hJ2; clear hJ2;go_wp2;go_ret;exact Or.inr ⟨k,hlt,rfl,HJ2.out⟩
  ·have:k=n:=by omega
   subst this;go_wp2;go_ret;exact Or.inl ⟨rfl,hIk.out⟩
theorem containsFunc188 (F:FuncId) (hF:Enters Tryz.prog F) (cap:Array Value) (a:Option Addr) (n c:Nat) (hn:n*8<=140737488351232) (f:Nat->Nat->Value) (w:World) (I J:Nat->World->Prop)
  (hI:∀ k w1,I k w1->∀ i,i<n->∃ b off,a=some ⟨b,off,none⟩/\w1.cell? ⟨b,off+i*5,none⟩=some (f i 0)/\w1.cell? ⟨b,off+i*5+1,none⟩=some (f i 1)/\w1.cell? ⟨b,off+i*5+2,none⟩=some (f i 2)/\w1.cell? ⟨b,off+i*5+3,none⟩=some (f i 3)/\w1.cell? ⟨b,off+i*5+4,none⟩=some (f i 4))
  (hf:∀ k w1,k<n->I k w1->Calls Tryz.prog F (#[.agg #[f k 0,f k 1,f k 2,f k 3,f k 4]]++cap) w1 (fun e w2=>(e=.returned (.bool false)/\I (k+1) w2)\/(e=.returned (.bool true)/\J k w2)))
  (h0:I 0 w) :
  Calls Tryz.prog 188 #[.slice a n c,.func (.func F) #[] cap] w fun e w2=>(e=.returned (.bool false)/\I n w2)\/(∃ k:Nat,k<n/\e=.returned (.bool true)/\J k w2):=by
 have hix:=dh (indexFunc200 F hF cap a n c hn f w I J hI hf h0);clear hI hf h0
 go_enter Tryz.func188,Tryz.ntmps188
 go_wp2_with fail;refine hix.out.mono ?_;rintro e w2 (⟨rfl,h⟩ | ⟨k,hk,rfl,h⟩)
 ·have H:=dh h; clear h;go_wp2;go_ret;exact Or.inl ⟨by simp,H.out⟩
 ·have H:=dh h; clear h;go_wp2;go_ret;exact Or.inr ⟨k,hk,by simp,H.out⟩
theorem containsFunc188_p (F:FuncId) (hF:Enters Tryz.prog F) (cap:Array Value) (a:Option Addr) (n c:Nat) (hn:n*8<=140737488351232) (f:Nat->Nat->Value) (w:World) (p:Nat->Bool)
  (hI:∀ w1,Ext w w1->∀ i,i<n->∃ b off,a=some ⟨b,off,none⟩/\w1.cell? ⟨b,off+i*5,none⟩=some (f i 0)/\w1.cell? ⟨b,off+i*5+1,none⟩=some (f i 1)/\w1.cell? ⟨b,off+i*5+2,none⟩=some (f i 2)/\w1.cell? ⟨b,off+i*5+3,none⟩=some (f i 3)/\w1.cell? ⟨b,off+i*5+4,none⟩=some (f i 4))
  (hf:∀ k w1,k<n->Ext w w1->Calls Tryz.prog F (#[.agg #[f k 0,f k 1,f k 2,f k 3,f k 4]]++cap) w1 (fun e w2=>e=.returned (.bool (p k))/\Ext w1 w2)) :
  Calls Tryz.prog 188 #[.slice a n c,.func (.func F) #[] cap] w fun e w2=>e=.returned (.bool ((List.range n).any p))/\Ext w w2:=by
 refine (containsFunc188 F hF cap a n c hn f w (fun k w1=>Ext w w1/\∀ i,i<k->p i=false) (fun k w1=>Ext w w1/\p k=true) (fun k w1 h=>hI w1 h.1)
  (fun k w1 hk h=>(hf k w1 hk h.1).mono ?_) ⟨Ext.refl w,fun i hi=>by omega⟩).mono ?_
 ·rintro e w2 ⟨rfl,hE⟩;cases hp:p k
  ·refine Or.inl ⟨rfl,h.1.trans hE,fun i hi=>?_⟩;by_cases hik:i=k
   ·rw [hik]; exact hp
   ·exact h.2 i (by omega)
  ·exact Or.inr ⟨rfl,h.1.trans hE,rfl⟩
 ·rintro e w2 (⟨rfl,hE,h⟩ | ⟨k,hk,rfl,hE,h⟩)
  ·exact ⟨by rw [range_any_false h],hE⟩
  ·exact ⟨by rw [range_any_true hk h],hE⟩
theorem indexFunc202 (F:FuncId) (hF:Enters Tryz.prog F) (cap:Array Value) (a:Option Addr) (n c:Nat) (hn:n*8<=140737488351232) (f:Nat->Nat->Value) (w:World) (I J:Nat->World->Prop)
  (hI:∀ k w1,I k w1->∀ i,i<n->∃ b off,a=some ⟨b,off,none⟩/\w1.cell? ⟨b,off+i*2,none⟩=some (f i 0)/\w1.cell? ⟨b,off+i*2+1,none⟩=some (f i 1))
  (hf:∀ k w1,k<n->I k w1->Calls Tryz.prog F (#[.agg #[f k 0,f k 1]]++cap) w1 (fun e w2=>(e=.returned (.bool false)/\I (k+1) w2)\/(e=.returned (.bool true)/\J k w2)))
  (h0:I 0 w) :
  Calls Tryz.prog 202 #[.slice a n c,.func (.func F) #[] cap] w fun e w2=>(e=.returned (.int .i64 (-1))/\I n w2)\/(∃ k:Nat,k<n/\e=.returned (.int .i64 k)/\J k w2):=by
 have HI:=dh hI; clear hI;have Hf:=dh hf; clear hf;have H0:=dh h0; clear h0
 go_enter Tryz.func202,Tryz.ntmps202
 go_wp2;go_loopw [5,8] (fun _ i wr=>∃ k:Nat,k<=n/\i=.int .i64 k/\Hid (I k wr)) (fun _ i _=>n-(intOf i).toNat)
 case atStart=>exact ⟨0,Nat.zero_le _,rfl,H0.out⟩
 case round =>
  obtain ⟨k,hk,rfl,hIk⟩:=hrel;by_cases hlt:k<n
  ·obtain ⟨b,off,rfl,hc0,hc1⟩:=HI.out k wr hIk.out k hlt;have hcall:=dh (Hf.out k wr hlt hIk.out);have hE:∀ (args:Array Value) (w:World),(callFunc F args).run Tryz.prog w=.ok (.enter F args) w:=hF;go_wp2_with fail;refine hcall.out.mono ?_;rintro e w2 (⟨rfl,hI2⟩ | ⟨rfl,hJ2⟩)
   ·have HI2:=dh hI2; clear hI2;go_wp2;go_roundw
    case rel=>exact ⟨k+1,by omega,by go_num,HI2⟩
    case measure=>simp [intOf]; omega
   ·have HJ2:=dh hJ2; clear hJ2;go_wp2;go_ret;exact Or.inr ⟨k,hlt,rfl,HJ2.out⟩
  ·have:k=n:=by omega
   subst this;go_wp2;go_ret;exact Or.inl ⟨rfl,hIk.out⟩
theorem containsFunc191 (F:FuncId) (hF:Enters Tryz.prog F) (cap:Array Value) (a:Option Addr) (n c:Nat) (hn:n*8<=140737488351232) (f:Nat->Nat->Value) (w:World) (I J:Nat->World->Prop)
  (hI:∀ k w1,I k w1->∀ i,i<n->∃ b off,a=some ⟨b,off,none⟩/\w1.cell? ⟨b,off+i*2,none⟩=some (f i 0)/\w1.cell? ⟨b,off+i*2+1,none⟩=some (f i 1))
  (hf:∀ k w1,k<n->I k w1->Calls Tryz.prog F (#[.agg #[f k 0,f k 1]]++cap) w1 (fun e w2=>(e=.returned (.bool false)/\I (k+1) w2)\/(e=.returned (.bool true)/\J k w2)))
  (h0:I 0 w) :
  Calls Tryz.prog 191 #[.slice a n c,.func (.func F) #[] cap] w fun e w2=>(e=.returned (.bool false)/\I n w2)\/(∃ k:Nat,k<n/\e=.returned (.bool true)/\J k w2):=by
 have hix:=dh (indexFunc202 F hF cap a n c hn f w I J hI hf h0);clear hI hf h0
 go_enter Tryz.func191,Tryz.ntmps191
 go_wp2_with fail;refine hix.out.mono ?_;rintro e w2 (⟨rfl,h⟩ | ⟨k,hk,rfl,h⟩)
 ·have H:=dh h; clear h;go_wp2;go_ret;exact Or.inl ⟨by simp,H.out⟩
 ·have H:=dh h; clear h;go_wp2;go_ret;exact Or.inr ⟨k,hk,by simp,H.out⟩
theorem containsFunc191_p (F:FuncId) (hF:Enters Tryz.prog F) (cap:Array Value) (a:Option Addr) (n c:Nat) (hn:n*8<=140737488351232) (f:Nat->Nat->Value) (w:World) (p:Nat->Bool)
  (hI:∀ w1,Ext w w1->∀ i,i<n->∃ b off,a=some ⟨b,off,none⟩/\w1.cell? ⟨b,off+i*2,none⟩=some (f i 0)/\w1.cell? ⟨b,off+i*2+1,none⟩=some (f i 1))
  (hf:∀ k w1,k<n->Ext w w1->Calls Tryz.prog F (#[.agg #[f k 0,f k 1]]++cap) w1 (fun e w2=>e=.returned (.bool (p k))/\Ext w1 w2)) :
  Calls Tryz.prog 191 #[.slice a n c,.func (.func F) #[] cap] w fun e w2=>e=.returned (.bool ((List.range n).any p))/\Ext w w2:=by
 refine (containsFunc191 F hF cap a n c hn f w (fun k w1=>Ext w w1/\∀ i,i<k->p i=false) (fun k w1=>Ext w w1/\p k=true) (fun k w1 h=>hI w1 h.1)
  (fun k w1 hk h=>(hf k w1 hk h.1).mono ?_) ⟨Ext.refl w,fun i hi=>by omega⟩).mono ?_
 ·rintro e w2 ⟨rfl,hE⟩;cases hp:p k
  ·refine Or.inl ⟨rfl,h.1.trans hE,fun i hi=>?_⟩;by_cases hik:i=k
   ·rw [hik]; exact hp
   ·exact h.2 i (by omega)
  ·exact Or.inr ⟨rfl,h.1.trans hE,rfl⟩
 ·rintro e w2 (⟨rfl,hE,h⟩ | ⟨k,hk,rfl,hE,h⟩)
  ·exact ⟨by rw [range_any_false h],hE⟩
  ·exact ⟨by rw [range_any_true hk h],hE⟩
end
section
open Go.RowKit Go.Proofs
theorem ret_bool {a b:Bool} (h:a=b):Ending.returned (.bool a)=.returned (.bool b):=by rw [h]
theorem isLetter152 (b:UInt8) (w:World):Calls Tryz.prog 152 #[.int .u8 b.toNat] w fun e w'=>e=.returned (.bool (isLetterB b))/\w=w':=by
 have hb:=b.toNat_lt
 go_enter Tryz.func152,Tryz.ntmps152
 go_wp2
 all_goals go_ret
 all_goals refine ⟨ret_bool (Bool.eq_iff_iff.2 ?_),rfl⟩
 all_goals simp [isLetterB]
 all_goals omega
theorem isName154 (b:UInt8) (w:World):Calls Tryz.prog 154 #[.int .u8 b.toNat] w fun e w'=>e=.returned (.bool (!(isLetterB b||isDigitB b)))/\w=w':=by
 have hb:=b.toNat_lt;cases hl:isLetterB b
 all_goals
  go_enter Tryz.func154,Tryz.ntmps154
  go_wp2_with (go_at_call 152; refine (isLetter152 b _).mono ?_; rintro e w' ⟨rfl,rfl⟩)
 all_goals go_ret
 all_goals refine ⟨ret_bool (Bool.eq_iff_iff.2 ?_),rfl⟩
 all_goals simp [isDigitB]
 all_goals omega
theorem isBrand198 (b:UInt8) (w:World):Calls Tryz.prog 198 #[.int .u8 b.toNat] w fun e w'=>e=.returned (.bool (!(32<=b.toNat&&b.toNat<=126&&b.toNat != 34)))/\w=w':=by
 have hb:=b.toNat_lt
 go_enter Tryz.func198,Tryz.ntmps198
 go_wp2
 all_goals go_ret
 all_goals refine ⟨ret_bool (Bool.eq_iff_iff.2 ?_),rfl⟩
 all_goals simp
 all_goals omega
theorem bytes_ext (w:World) (s:BA):Ext w (Lib.bytesWorld w 5 s) :=
 ⟨rfl,rfl,rfl,by rw [Lib.bytesWorld_size]; omega,fun k hk=>Lib.bytesWorld_at_old w 5 s k hk⟩
theorem enters154:Enters Tryz.prog 154:=enters_of Tryz.func154 (by kernel_rfl) rfl
theorem enters198:Enters Tryz.prog 198:=enters_of Tryz.func198 (by kernel_rfl) rfl
theorem first_byte (s:BA) (h:0<s.size):s[0]=s.data.toList.getD 0 0:=by
 cases s with | mk d =>
 cases d with | mk l =>
 cases l with
 | nil=>simp [ByteArray.size] at h
 | cons x l=>rfl
theorem contains153 (F:FuncId) (hF:Enters Tryz.prog F) (s:BA) (hs:s.size<=1000) (w:World) (p:UInt8->Bool)
  (hf:∀ b w1,Calls Tryz.prog F #[.int .u8 (UInt8.toNat b)] w1 (fun e w2=>e=.returned (.bool (!p b))/\w1=w2)) :
  Calls Tryz.prog 153 #[.slice (some ⟨w.heap.size,0,none⟩) s.size (grownCap w s.size 0 5),.func (.func F) #[] #[]] (Lib.bytesWorld w 5 s) fun e w2=>e=.returned (.bool (!s.data.toList.all p))/\Ext (Lib.bytesWorld w 5 s) w2:=by
 refine (containsFunc153_p F hF #[] _ s.size _ (by omega) (fun k _=>.int .u8 (s.data.toList.getD k 0).toNat) _ (fun k=>!p (s.data.toList.getD k 0)) ?_ ?_).mono ?_
 ·intro w1 hE i hi;exact ⟨_,_,rfl,by rw [Nat.zero_add]; exact hE.cell (Lib.bytesWorld_cell w 5 s i hi)⟩
 ·intro k w1 hk hE;exact (hf _ w1).mono (fun e w2 h=>⟨h.1,h.2 ▸ Ext.refl _⟩)
 ·rintro e w2 ⟨rfl,hE⟩;refine ⟨ret_bool ?_,hE⟩;have:=any_range s.data.toList (fun b=>!p b);rw [show s.data.toList.length=s.size from rfl] at this;rw [List.not_all_eq_any_not,<- this]
  rfl
theorem isName121 (s:BA) (w:World):Calls Tryz.prog 121 #[.string s] w fun e w'=>e=.returned (.bool (isNameB s))/\Ext w w':=by
 by_cases hlen:1<=s.size/\s.size<=12
 ·obtain ⟨h1,h12⟩:=hlen;have kc:=fun w=>Lib.run_convert_string_bytes (P:=Tryz.prog) w 9 191 5 s Tryz.underlying9 Tryz.underlying191 Tryz.underlying5;have hc:=dh (contains153 154 enters154 s (by omega) w _ (fun b w1=>isName154 b w1));have hs:isNameB s=(isLetterB s[0]&&s.data.toList.all fun b=>isLetterB b||isDigitB b):=by
   unfold isNameB;rw [show (decide (1<=s.size)&&decide (s.size<=12))=true by simp; omega,first_byte s h1]
   rfl
  have Hs:=dh hs; clear hs;have hx:=dh (bytes_ext w s);cases hl:isLetterB s[0]
  all_goals
   go_enter Tryz.func121,Tryz.ntmps121
   go_wp2_with (first | (go_at_call 152; refine (isLetter152 _ _).mono ?_; rintro e w' ⟨rfl,rfl⟩) | (go_at_call 64; go_in) | (go_at_call 153; refine hc.out.mono ?_; rintro e w2 ⟨rfl,hE⟩; have HE:=dh hE; clear hE));go_ret
  ·exact ⟨ret_bool (by rw [Hs.out,hl]; rfl),Ext.refl _⟩
  ·exact ⟨ret_bool (by rw [Hs.out,hl]; simp),hx.out.trans HE.out⟩
 ·have hr:isNameB s=false:=by
   unfold isNameB;rw [show (decide (1<=s.size)&&decide (s.size<=12))=false by simp; omega]
   rfl
  have Hr:=dh hr; clear hr;by_cases h1:1<=s.size
  all_goals
   go_enter Tryz.func121,Tryz.ntmps121
   go_wp2;go_ret;exact ⟨by rw [Hr.out]; rfl,Ext.refl _⟩
theorem run204 (s:BA) (c:Int) (w:World):(callFunc 204 #[.string s,.int .u8 c]).run Tryz.prog w=.ok (.value (.int .i64 (firstIdx s c.toNat.toUInt8))) w:=by
 rw [run_callFunc_extern Tryz.func204 (by kernel_rfl) rfl (by kernel_rfl) (e:=Extern.BytealgIndexByte.indexByte) (by kernel_rfl),run_indexByte_string]
 rfl
theorem firstIdx_dot (s:BA):firstIdx s 46=idxI (fun b=>b==46) s.data.toList:=by
 unfold firstIdx idxI;have h:(List.range s.size).find? (fun i=>s[i]! == 46)=s.data.toList.findIdx? (fun b=>b==46):=by
  cases hf:s.data.toList.findIdx? (fun b=>b==46) with
  | none =>
   rw [List.findIdx?_eq_none_iff] at hf;rw [List.find?_eq_none];intro i hi;have hi':i<s.size:=by simpa using hi
   have:=hf s[i] (by show s.data[i]∈_; simp);rw [getElem!_pos s i hi']
   simpa using this
  | some k =>
   rw [List.findIdx?_eq_some_iff_getElem] at hf;obtain ⟨hk,h1,h2⟩:=hf;have hk':k<s.size:=hk;rw [List.find?_range_eq_some];refine ⟨?_,by simpa using hk',?_⟩
   ·rw [getElem!_pos s k hk']; exact h1
   ·intro j hj;rw [getElem!_pos s j (by omega)];have:=h2 j hj;simp only [Bool.not_eq_true] at this;rw [Bool.not_eq_true'];exact this
 rw [h];cases s.data.toList.findIdx? (fun b=>b==46) <;> rfl
theorem idx_self (s:BA) (h:([46]==s.toList)=true):firstIdx s 46=0:=by
 have h':s.data.toList=[46]:=by rw [<- ByteArray.toList_eq]; exact (beq_iff_eq.1 h).symm
 rw [firstIdx_dot,h']; rfl
theorem index178 (s:BA) (w:World):Calls Tryz.prog 178 #[.string s,.string ⟨#[46]⟩] w fun e w'=>e=.returned (.int .i64 (firstIdx s 46))/\w=w':=by
 have h204:∀ (c:Int) (w:World),_:=run204 s;have h0:=dh (idx_self s)
 go_enter Tryz.func178,Tryz.ntmps178
 go_wp2
 ·go_ret;have h:=h0.out (by assumption);exact ⟨by rw [h]; rfl,rfl⟩
 ·go_ret;exact ⟨rfl,rfl⟩
theorem sym_none {s:BA} (h:firstIdx s 46<0):isSymbolB s=false:=by
 rw [firstIdx_dot] at h;unfold isSymbolB dotAt;unfold idxI at h;cases hf:s.data.toList.findIdx? (fun b=>b==46) with
 | none=>rfl
 | some k=>rw [hf] at h; simp at h; omega
theorem sym_some {s:BA} (h:¬ firstIdx s 46<0):∃ k:Nat,firstIdx s 46=k/\k<s.size/\isSymbolB s=(isNameB (s.extract 0 k)&&isNameB (s.extract (k+1) s.size)):=by
 rw [firstIdx_dot] at h ⊢;unfold isSymbolB dotAt;unfold idxI at h ⊢;cases hf:s.data.toList.findIdx? (fun b=>b==46) with
 | none=>rw [hf] at h; simp at h
 | some k =>
  refine ⟨k,rfl,?_,rfl⟩;rw [List.findIdx?_eq_some_iff_getElem] at hf;exact hf.1
theorem cut151_no (s:BA) (hn:firstIdx s 46<0) (w:World):Calls Tryz.prog 151 #[.string s,.string ⟨#[46]⟩] w fun e w'=>e=.returned (.tuple #[.string s,.string ⟨#[]⟩,.bool false])/\w=w':=by
 have hix:=dh (fun w=>index178 s w);generalize hz:firstIdx s 46=z at hn;rw [hz] at hix;clear hz;have hn':¬ 0<=z:=by omega
 go_enter Tryz.func151,Tryz.ntmps151
 go_wp2_with (go_at_call 178; refine (hix.out _).mono ?_; rintro e w' ⟨rfl,rfl⟩);go_ret3;exact ⟨rfl,rfl⟩
theorem cut151_yes (s:BA) (k:Nat) (hk:firstIdx s 46=k) (hks:k<s.size) (hs:s.size<=140737488351232) (w:World) :
  Calls Tryz.prog 151 #[.string s,.string ⟨#[46]⟩] w fun e w'=>e=.returned (.tuple #[.string (s.extract 0 k),.string (s.extract (k+1) s.size),.bool true])/\Ext w w':=by
 have hix:=dh (fun w=>index178 s w);rw [hk] at hix;clear hk
 go_enter Tryz.func151,Tryz.ntmps151
 go_wp2_with (go_at_call 178; refine (hix.out _).mono ?_; rintro e w' ⟨rfl,rfl⟩)
 go_quiet (fail)
 go_wp2;go_ret3;exact ⟨rfl,below_drewN (Ext.refl w) nq⟩
theorem cut120_no (s:BA) (hn:firstIdx s 46<0) (w:World):Calls Tryz.prog 120 #[.string s,.string ⟨#[46]⟩] w fun e w'=>e=.returned (.tuple #[.string s,.string ⟨#[]⟩,.bool false])/\w=w':=by
 have hix:=dh (fun w=>cut151_no s hn w);clear hn
 go_enter Tryz.func120,Tryz.ntmps120
 go_wp2_with (go_at_call 151; refine (hix.out _).mono ?_; rintro e w' ⟨rfl,rfl⟩);go_ret3;exact ⟨rfl,rfl⟩
theorem cut120_yes (s:BA) (k:Nat) (hk:firstIdx s 46=k) (hks:k<s.size) (hs:s.size<=140737488351232) (w:World) :
  Calls Tryz.prog 120 #[.string s,.string ⟨#[46]⟩] w fun e w'=>e=.returned (.tuple #[.string (s.extract 0 k),.string (s.extract (k+1) s.size),.bool true])/\Ext w w':=by
 have hix:=dh (fun w=>cut151_yes s k hk hks hs w);clear hk
 go_enter Tryz.func120,Tryz.ntmps120
 go_wp2_with (go_at_call 151; refine (hix.out _).mono ?_; rintro e w' ⟨rfl,hE⟩; have HE:=dh hE; clear hE);go_ret3;exact ⟨rfl,HE.out⟩
theorem isSymbol86 (s:BA) (hs:s.size<=140737488351232) (w:World):Calls Tryz.prog 86 #[.string s] w fun e w'=>e=.returned (.bool (isSymbolB s))/\Ext w w':=by
 by_cases hn:firstIdx s 46<0
 ·have hr:=dh (sym_none hn);have hix:=dh (fun w=>cut120_no s hn w);clear hn
  go_enter Tryz.func86,Tryz.ntmps86
  go_wp2_with (go_at_call 120; refine (hix.out _).mono ?_; rintro e w' ⟨rfl,rfl⟩);go_ret;exact ⟨ret_bool (by rw [hr.out]),Ext.refl _⟩
 ·obtain ⟨k,hk,hks,hr⟩:=sym_some hn;have Hr:=dh hr; clear hr;have hix:=dh (fun w=>cut120_yes s k hk hks hs w);clear hk hn;cases h1:isNameB (s.extract 0 k)
  ·go_enter Tryz.func86,Tryz.ntmps86
   go_wp2_with fail;refine (hix.out _).mono ?_;rintro e w1 ⟨rfl,hE⟩;have HE:=dh hE; clear hE;go_wp2_with fail;refine (isName121 _ _).mono ?_;rintro e w2 ⟨rfl,hE2⟩;have HE2:=dh hE2; clear hE2;go_wp2_with fail;go_ret;exact ⟨ret_bool (by rw [Hr.out,h1]; rfl),HE.out.trans HE2.out⟩
  ·go_enter Tryz.func86,Tryz.ntmps86
   go_wp2_with fail;refine (hix.out _).mono ?_;rintro e w1 ⟨rfl,hE⟩;have HE:=dh hE; clear hE;go_wp2_with fail;refine (isName121 _ _).mono ?_;rintro e w2 ⟨rfl,hE2⟩;have HE2:=dh hE2; clear hE2;go_wp2_with fail;refine (isName121 _ _).mono ?_;rintro e w3 ⟨rfl,hE3⟩;have HE3:=dh hE3; clear hE3;go_wp2_with fail;go_ret;exact ⟨ret_bool (by rw [Hr.out,h1]; rfl),(HE.out.trans HE2.out).trans HE3.out⟩
theorem isBrand181 (s:BA) (w:World):Calls Tryz.prog 181 #[.string s] w fun e w'=>e=.returned (.bool (isBrandB s))/\Ext w w':=by
 by_cases h12:s.size<=20
 ·have kc:=fun w=>Lib.run_convert_string_bytes (P:=Tryz.prog) w 9 191 5 s Tryz.underlying9 Tryz.underlying191 Tryz.underlying5;have hc:=dh (contains153 198 enters198 s (by omega) w _ (fun b w1=>isBrand198 b w1));have hs:isBrandB s=(s.data.toList.all fun b=>32<=b.toNat&&b.toNat<=126&&b.toNat != 34):=by
   unfold isBrandB;rw [show decide (s.size<=20)=true by simp; omega]
   rfl
  have Hs:=dh hs; clear hs;have hx:=dh (bytes_ext w s)
  go_enter Tryz.func181,Tryz.ntmps181
  go_wp2_with (go_at_call 153; refine hc.out.mono ?_; rintro e w2 ⟨rfl,hE⟩; have HE:=dh hE; clear hE);go_ret;exact ⟨ret_bool (by rw [Hs.out]; simp),hx.out.trans HE.out⟩
 ·have hr:isBrandB s=false:=by
   unfold isBrandB;rw [show decide (s.size<=20)=false by simp; omega]
   rfl
  have Hr:=dh hr; clear hr
  go_enter Tryz.func181,Tryz.ntmps181
  go_wp2;go_ret;exact ⟨ret_bool (by rw [Hr.out]),Ext.refl _⟩
end
section
open Go.RowKit Go.Proofs
theorem diff_seen {xs:List BA} {k:Nat} {most:Nat} (hk:k<xs.length) (h:nth xs k∈xs.take k):differentB xs most=false:=by
 unfold differentB;have:¬ xs.Nodup:=by
  intro hnd;rw [List.mem_take_iff_getElem] at h;obtain ⟨i,hi,he⟩:=h;have hi':i<k:=by omega
  rw [nth_eq hk] at he;exact List.pairwise_iff_getElem.1 hnd i k (by omega) hk hi' he
 rw [show decide xs.Nodup=false by simpa using this];simp
theorem diff_bad {xs:List BA} {k:Nat} {most:Nat} (hk:k<xs.length) (h:isNameB (nth xs k)=false):differentB xs most=false:=by
 unfold differentB;have:xs.all isNameB=false:=by
  rw [List.all_eq_false];exact ⟨nth xs k,nth_mem hk,by simp [h]⟩
 rw [this]; rfl
theorem diff_end {xs:List BA} {most:Nat} (h1:∀ i,i<xs.length->isNameB (nth xs i)=true) (h2:∀ i,i<xs.length->nth xs i∉xs.take i):differentB xs most=decide (xs.length<=most):=by
 unfold differentB;have e1:xs.all isNameB=true:=by
  rw [List.all_eq_true];intro x hx;obtain ⟨i,hi,rfl⟩:=List.getElem_of_mem hx;rw [<- nth_eq hi]; exact h1 i hi
 have e2:xs.Nodup:=by
  refine List.pairwise_iff_getElem.2 fun i j hi hj hij he=>?_;apply h2 j hj;rw [List.mem_take_iff_getElem];exact ⟨i,by omega,by rw [nth_eq hj]; exact he⟩
 rw [e1,show decide xs.Nodup=true by simpa using e2];simp
theorem mem_take_succ {xs:List BA} {k:Nat} (hk:k<xs.length) (s:BA):(s∈xs.take (k+1))↔(s∈xs.take k\/s=nth xs k):=by
 rw [take_snoc hk]; simp
theorem different172 (a:Option Addr) (n c:Nat) (xs:List BA) (most:Nat) (w:World) (hx:Strs w (.slice a n c) xs) :
  Calls Tryz.prog 172 #[.slice a n c,.int .i64 most] w fun e w'=>e=.returned (.bool (differentB xs most))/\Ext w w':=by
 have hn:=(SlW.bound hx).2;obtain rfl:=SlW.len hx;have hmm:=@run_makeMap Tryz.prog
 go_enter Tryz.func172,Tryz.ntmps172
 go_wp2;go_loopw [7,11] (fun _ i wr=>∃ k:Nat,k<=xs.length/\i=.int .i64 k/\Hid (Ext w wr/\(∀ j,j<k->isNameB (nth xs j)=true)/\(∀ j,j<k->nth xs j∉xs.take j) /\
   ∃ m,MapAt Value.string wr w.heap.size m/\∀ s,(alook s m).getD (.bool false)=.bool (decide (s∈xs.take k)))) (fun _ i _=>xs.length-(intOf i).toNat)
 case atStart=>exact ⟨0,Nat.zero_le _,rfl,Ext.alloc _ _,fun j hj=>by omega,fun j hj=>by omega,[],MapAt.made _ _,fun s=>by simp [alook]⟩
 case round =>
  obtain ⟨k,hk,rfl,H⟩:=hrel;obtain ⟨hE,hnm,hno,m,hm,hl⟩:=H.out;clear H;have HE:=dh hE;have Hnm:=dh hnm; clear hnm;have Hno:=dh hno; clear hno;have Hl:=dh hl; clear hl;by_cases hlt:k<xs.length
  ·obtain ⟨b,off,rfl,hb,hc0,hr0⟩:=Strs.at (Strs.mono hE hx) hlt;have hlk:=MapAt.lookup hm Tryz.underlying143 keyString (nth xs k) (z:=.bool false) Tryz.zeroValue4;rw [Hl.out] at hlk;clear hE;by_cases hin:nth xs k∈xs.take k
   ·have hd:=dh (diff_seen (most:=most) hlt hin);rw [show decide (nth xs k∈xs.take k)=true by simpa using hin] at hlk;clear hin;go_wp2;go_ret;exact ⟨ret_bool hd.out.symm,HE.out⟩
   ·have Hin:=dh hin;rw [show decide (nth xs k∈xs.take k)=false by simpa using hin] at hlk;clear hin;cases hisn:isNameB (nth xs k)
    ·have hd:=dh (diff_bad (most:=most) hlt hisn);go_wp2_with (go_at_call 121; refine (isName121 _ _).mono ?_; rintro e w2 ⟨rfl,hE2⟩; have HE2:=dh (HE.out.trans hE2); clear hE2);go_ret;exact ⟨ret_bool hd.out.symm,HE2.out⟩
    ·go_wp2_with fail;refine (isName121 _ _).mono ?_;rintro e w2 ⟨rfl,hE2⟩;have HE2:=dh (HE.out.trans hE2);obtain ⟨w3,hup,hm3,hg3,hs3⟩:=MapAt.update (hm.ext hE2) Tryz.underlying143 keyString (nth xs k) (.bool true);have Hm3:=dh hm3; clear hm3;have Hg3:=dh hg3; clear hg3;have Hs3:=dh hs3; clear hs3;clear hE2 hlk;have hrel:=dh (show Ext w w3/\(∀ j,j<k+1->isNameB (nth xs j)=true)/\(∀ j,j<k+1->nth xs j∉xs.take j) /\
       ∃ m,MapAt Value.string w3 w.heap.size m/\∀ s,(alook s m).getD (.bool false)=.bool (decide (s∈xs.take (k+1))) from by
      refine ⟨Below.grown HE2.out Hg3.out HE2.out.size (fun j hj=>by cases hj; exact Nat.le_refl _),?_,?_,_,Hm3.out,?_⟩
      ·intro j hj;by_cases hjk:j=k
       ·rw [hjk]; exact hisn
       ·exact Hnm.out j (by omega)
      ·intro j hj;by_cases hjk:j=k
       ·rw [hjk]; exact Hin.out
       ·exact Hno.out j (by omega)
      ·intro s;rw [alook_aput];by_cases hs:s=nth xs k
       ·rw [if_pos hs];simp [mem_take_succ hlt,hs]
       ·rw [if_neg hs,Hl.out];simp [mem_take_succ hlt,hs])
     go_wp2;go_roundw
     case rel=>exact ⟨k+1,by omega,by go_num,hrel⟩
     case measure=>simp [intOf]; omega
  ·have:k=xs.length:=by omega
   subst this;have hd:=dh (diff_end (most:=most) Hnm.out Hno.out);clear hE;go_wp2
   all_goals go_ret
   all_goals exact ⟨ret_bool (by rw [hd.out]),HE.out⟩
end
end Go.Proofs.YtjffkeoajkhbmaaGreat
