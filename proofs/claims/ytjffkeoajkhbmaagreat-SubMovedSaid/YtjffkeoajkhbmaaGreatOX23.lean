/- The law's bound on graphs. -/
import Derived.Test.YtjffkeoajkhbmaaGreatOX14
namespace Go.Proofs.YtjffkeoajkhbmaaGreat
set_option linter.unusedSimpArgs false
set_option linter.unusedVariables false
set_option maxRecDepth 100000
set_option maxHeartbeats 8000000
open Go.RowKit Go.Proofs Go.Shelf
def LittlePost (w:World) (g:List Ty) (e:Ending) (w':World):Prop:=∃ b,e=.returned (.bool b)/\Ext w w'/\(b=true->g.length<=404)
theorem little13 (a:Option Addr) (n c:Nat) (g:List Ty) (w:World) (hg:Graph w (.slice a n c) g):Calls Tryz.prog 13 #[.slice a n c] w (LittlePost w g):=by
 have hb:=(SlW.bound hg).2;obtain rfl:=SlW.len hg;have Hg:=dh hg;clear hg;rcases (show (24<g.length/\g.length<=400)\/404<g.length\/(g.length<=24\/(400<g.length/\g.length<=404)) by omega) with ⟨h1,h2⟩ | h1 | hok
 ·go_enter Tryz.func13,Tryz.ntmps13
  go_wp2_with fail;go_ret;exact ⟨false,rfl,Ext.refl _,fun h=>by cases h⟩
 ·have h2:¬ g.length<=400:=by omega
  have h3:24<g.length:=by omega
  go_enter Tryz.func13,Tryz.ntmps13
  go_wp2_with fail;go_ret;exact ⟨false,rfl,Ext.refl _,fun h=>by cases h⟩
 have h404:g.length<=404:=by omega
 go_enter Tryz.func13,Tryz.ntmps13
 rcases hok with h24 | ⟨h1,h2⟩
 all_goals
  go_wp2_with fail;go_loopw [3] (fun i wr=>∃ k:Nat,k<=g.length/\k<=24/\i=.int .i64 k/\Hid (Ext w wr)) (fun i _=>24-(intOf i).toNat)
  case atStart=>exact ⟨0,Nat.zero_le _,Nat.zero_le _,rfl,dh (Ext.refl _)⟩
  case round =>
   obtain ⟨k,hk,hk24,rfl,hE⟩:=hrel;by_cases hlt:k<g.length/\k<24
   ·obtain ⟨hlt1,hlt2⟩:=hlt;obtain ⟨b,off,pa,pl,pc,ma,ml,mc,oa,ol,oc,hgo,hlt3,hT⟩:=Graph.at (Graph.mono hE.out Hg.out) hlt1;cases hgo;have d0:=hT.c0;have d1:=hT.c1;have d2:=hT.c2;have d3:=hT.c3;have d4:=hT.c4;have d5:=hT.c5;have d6:=hT.c6;have d7:=hT.c7;have d8:=hT.c8;have d9:=hT.c9;have s4:=hT.ok.b;have s5:=hT.ok.o;unfold maxBytes at s4 s5;have bp:=(SlW.bound hT.ps).2;have bm:=(SlW.bound hT.ms).2;have bo:=(SlW.bound hT.os).2;have HT:=dh hT;clear hT;obtain ⟨wo,hwo⟩:∃ wo:World,wo=wr.alloc (.cells (tyCells (nth g k) (.slice pa pl pc) (.slice ma ml mc) (.slice oa ol oc)).toArray 50):=⟨_,rfl⟩;obtain ⟨b4,hb4⟩:∃ b4,b4=wr.heap.size:=⟨_,rfl⟩;have hEo:Ext wr wo:=by rw [hwo]; exact Ext.alloc _ _
    have hr4:wo.heap[b4]? = some (.cells (tyCells (nth g k) (.slice pa pl pc) (.slice ma ml mc) (.slice oa ol oc)).toArray 50 (0,0)):=by rw [hwo,hb4]; exact heap_alloc_new _ _
    have e4:wo.cell? ⟨b4,4,none⟩=some (.string (nth g k).brand):=row_cell hr4 rfl;have e5:wo.cell? ⟨b4,5,none⟩=some (.string (nth g k).opq):=row_cell hr4 rfl;have e7:wo.cell? ⟨b4,7,none⟩=some (.slice pa pl pc):=row_cell hr4 rfl;have e8:wo.cell? ⟨b4,8,none⟩=some (.slice ma ml mc):=row_cell hr4 rfl;have e9:wo.cell? ⟨b4,9,none⟩=some (.slice oa ol oc):=row_cell hr4 rfl;have l4:=row_lt hr4;have HEo:=dh (hE.out.trans hEo);have Hp:=dh (Parts.mono hEo HT.out.ps);have Hme:=dh (Meths.mono hEo HT.out.ms);have Hwo:=dh hwo;have Hb4:=dh hb4;have Hr4:=dh hr4;clear hwo hb4 hEo hr4;go_upto_region 7 with (fail);have hw0:Hid (wo=wr.alloc (.cells #[.int .u8 (nth g k).kind,.int .i64 (nth g k).low,.int .i64 (nth g k).high,.bool (nth g k).branded,.string (nth g k).brand,.string (nth g k).opq,.int .i64 (nth g k).super,.slice pa pl pc,.slice ma ml mc,.slice oa ol oc] 50)):=dh Hwo.out;rw [<- hw0.out,<- Hb4.out];clear d0 d1 d2 d3 d4 d5 d6 d7 d8 d9;rcases (show 10<pl\/(pl<=10/\10<ml)\/(pl<=10/\ml<=10/\10<ol)\/(pl<=10/\ml<=10/\ol<=10/\30<(nth g k).brand.size)\/(pl<=10/\ml<=10/\ol<=10/\(nth g k).brand.size<=30/\40<(nth g k).opq.size)\/(pl<=10/\ml<=10/\ol<=10/\(nth g k).brand.size<=30/\(nth g k).opq.size<=40) by omega) with h1 | ⟨h1,h2⟩ | ⟨h1,h2,h3⟩ | ⟨h1,h2,h3,h4⟩ | ⟨h1,h2,h3,h4,h5⟩ | ⟨h1,h2,h3,h4,h5⟩
    ·go_wp2_with fail;go_ret;exact ⟨false,rfl,HEo.out,fun h=>by cases h⟩
    ·go_wp2_with fail;go_ret;exact ⟨false,rfl,HEo.out,fun h=>by cases h⟩
    ·go_wp2_with fail;go_ret;exact ⟨false,rfl,HEo.out,fun h=>by cases h⟩
    ·go_wp2_with fail;go_ret;exact ⟨false,rfl,HEo.out,fun h=>by cases h⟩
    ·go_wp2_with fail;go_ret;exact ⟨false,rfl,HEo.out,fun h=>by cases h⟩
    ·go_wp2_with fail
     go_loop [5] (fun v=>∃ j:Nat,j<=pl/\v=.int .i64 j) (fun v=>pl-(intOf v).toNat)
     case atStart=>exact ⟨0,Nat.zero_le _,rfl⟩
     case round =>
      obtain ⟨j,hj,rfl⟩:=hrel;by_cases hjl:j<pl
      ·obtain ⟨pb,po,rfl,lpb,q0,q1,q2,-,-⟩:=Parts.at Hp.out hjl;by_cases hnm:(nth (nth g k).parts j).name.size<=20
       ·go_wp2_with fail;go_round
        case rel=>exact ⟨j+1,by omega,by go_num⟩
        case measure=>simp [intOf]; omega
       ·go_wp2_with fail;go_ret;exact ⟨false,rfl,HEo.out,fun h=>by cases h⟩
      ·clear e4 e5 e9;go_wp2_with fail;clear e7;go_loopw [6] (fun v w2=>∃ i:Nat,i<=ml/\v=.int .i64 i/\Hid (Ext wo w2)) (fun v _=>ml-(intOf v).toNat)
       case atStart=>exact ⟨0,Nat.zero_le _,rfl,dh (Ext.refl _)⟩
       case round =>
        obtain ⟨i,hi,rfl,hE2⟩:=hrel;have e8:wr.cell? ⟨b4,8,none⟩=some (.slice ma ml mc):=hE2.out.cell e8;by_cases hil:i<ml
        ·obtain ⟨mb,mo,aa,al,ac,ra,rl,rc,rfl,lmb,q0,q1,q2,q3,q4,q5,q6,-,-,q9,q10⟩:=Meths.at (Meths.mono hE2.out Hme.out) hil;have z5:=(SlW.bound q5).2;have z6:=(SlW.bound q6).2;have HEf:=dh (HEo.out.trans (hE2.out.trans (Ext.alloc _ (.cells #[.string (nth (nth g k).methods i).name,.slice aa al ac,.int .i64 (nth (nth g k).methods i).sig.result,.slice ra rl rc,.string (nth (nth g k).methods i).proc] 88))));have HEg:=dh (hE2.out.trans (Ext.alloc _ (.cells #[.string (nth (nth g k).methods i).name,.slice aa al ac,.int .i64 (nth (nth g k).methods i).sig.result,.slice ra rl rc,.string (nth (nth g k).methods i).proc] 88)));clear q5 q6;rcases (show 20<(nth (nth g k).methods i).name.size\/((nth (nth g k).methods i).name.size<=20/\40<(nth (nth g k).methods i).proc.size)\/((nth (nth g k).methods i).name.size<=20/\(nth (nth g k).methods i).proc.size<=40/\8<al)\/((nth (nth g k).methods i).name.size<=20/\(nth (nth g k).methods i).proc.size<=40/\al<=8/\8<rl)\/((nth (nth g k).methods i).name.size<=20/\(nth (nth g k).methods i).proc.size<=40/\al<=8/\rl<=8) by omega) with y1 | ⟨y1,y2⟩ | ⟨y1,y2,y3⟩ | ⟨y1,y2,y3,y4⟩ | ⟨y1,y2,y3,y4⟩
         ·go_wp2_with fail;go_ret;exact ⟨false,rfl,HEf.out,fun h=>by cases h⟩
         ·go_wp2_with fail;go_ret;exact ⟨false,rfl,HEf.out,fun h=>by cases h⟩
         ·go_wp2_with fail;go_ret;exact ⟨false,rfl,HEf.out,fun h=>by cases h⟩
         ·go_wp2_with fail;go_ret;exact ⟨false,rfl,HEf.out,fun h=>by cases h⟩
         ·go_wp2_with fail;go_roundw
          case rel=>exact ⟨i+1,by omega,by go_num,HEg⟩
          case measure=>simp [intOf]; omega
        ·have HEf:=dh (HEo.out.trans hE2.out);go_wp2_with fail;go_roundw
         case rel=>exact ⟨k+1,by omega,by omega,by go_num,HEf⟩
         case measure=>simp [intOf]; omega
   ·rcases (show k=g.length\/(k<g.length/\k=24) by omega) with rfl | ⟨hq1,rfl⟩
    ·first
     | (exfalso; omega)
     | (go_wp2_with fail; go_ret; exact ⟨true,rfl,hE.out,fun _=>h404⟩)
    ·first
     | (exfalso; omega)
     | (go_wp2_with fail; go_ret; exact ⟨true,rfl,hE.out,fun _=>h404⟩)
end Go.Proofs.YtjffkeoajkhbmaaGreat
