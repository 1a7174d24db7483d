/- The law's turned: a graph whose types stand elsewhere. -/
import Derived.Test.YtjffkeoajkhbmaaGreatOX37
namespace Go.Proofs.YtjffkeoajkhbmaaGreat
set_option linter.unusedSimpArgs false
set_option linter.unusedVariables false
set_option maxRecDepth 100000
set_option maxHeartbeats 8000000
open Go.RowKit Go.Proofs Go.Shelf
theorem makeTys (n:Nat) (hn:n<=400) (w:World):∃ cur:Array Value,cur.size=n*10/\(Instr.makeSlice 23 (.int .i64 n) (.int .i64 n)).run Tryz.prog w=.ok (.slice (some ⟨w.heap.size,0,none⟩) n n) (w.alloc (.cells cur 50)):=by
 obtain ⟨i0,hi,hz0,hz1,hz2⟩:=info_parts info50c;have:=run_make (P:=Tryz.prog) w 23 50 i0 (.agg #[.int .u8 0,.int .i64 0,.int .i64 0,.bool false,.string ⟨#[]⟩,.string ⟨#[]⟩,.int .i64 0,.slice none 0 0,.slice none 0 0,.slice none 0 0]) Tryz.underlying23 hi hz0 .i64 .i64 n n (by omega) (Int.le_refl _) (by rw [hz2]; omega) (by omega);refine ⟨_,?_,this⟩;rw [size_madeCells,hz1];simp
structure TurnO (w wr:World) (ob n:Nat) (g:List Ty) (f:Nat->Nat) (i:Nat):Prop where
 ext:Ext w wr
 lo:w.heap.size<=ob
 row:∃ cur,wr.heap[ob]? = some (.cells cur 50 (0,0))/\cur.size=n*10/\∀ k,k<i->∃ cs,IsTy (only wr (fun j=>j != ob)) (relT f (nth g k)) cs/\cs.length=10/\∀ j u,cs[j]? = some u->cur[f k*10+j]? = some u
theorem TurnO.mono {w wr w2:World} {ob n:Nat} {g:List Ty} {f:Nat->Nat} {i:Nat} (h:TurnO w wr ob n g f i) (hE:Ext wr w2):TurnO w w2 ob n g f i:=by
 obtain ⟨cur,h1,h2,h3⟩:=h.row;exact ⟨h.ext.trans hE,h.lo,cur,(hE.block _ (row_lt h1)).trans h1,h2,fun k hk=>by
  obtain ⟨cs,a1,a2,a3⟩:=h3 k hk;exact ⟨cs,IsTy.le (hE.only _) a1,a2,a3⟩⟩
theorem TurnO.put {w wr:World} {ob n:Nat} {g:List Ty} {f:Nat->Nat} {i:Nat} (h:TurnO w wr ob n g f i) (hfi:f i<n) (hinj:∀ k,k<i->f k≠f i) {cs:List Value} (hR:IsTy (only wr (fun j=>j != ob)) (relT f (nth g i)) cs) (hl:cs.length=10) :
  TurnO w (setL wr ob (f i*10) cs) ob n g f (i+1):=by
 obtain ⟨cur,h1,h2,h3⟩:=h.row;have hg:wr.grownBy (setL wr ob (f i*10) cs) (some ob):=setL_grown cs wr _ (grownBy_refl wr _);have hle:CellLe (only wr (fun j=>j != ob)) (only (setL wr ob (f i*10) cs) (fun j=>j != ob)):=only_grow hg (by simp);refine ⟨h.ext.grown hg h.ext.size (fun q e=>by cases e; exact h.lo),h.lo,_,setL_row cs _ _ _ h1,by rw [setA_size]; exact h2,fun k hk=>?_⟩;by_cases e:k=i
 ·subst e;exact ⟨cs,IsTy.le hle hR,hl,fun j u hu=>setA_in cs cur _ j u (by rw [hl,h2]; omega) hu⟩
 ·obtain ⟨ds,a1,a2,a3⟩:=h3 k (by omega);refine ⟨ds,IsTy.le hle a1,a2,fun j u hu=>?_⟩;have hj:=(List.getElem?_eq_some_iff.1 hu).1;have hne:=hinj k (by omega);rw [setA_out cs cur _ (by rw [hl]; omega)];exact a3 j u hu
def excl (b x o j:Nat):Bool:=j != b&&j != x&&j != o
structure InRow {α:Type} (R:World->α->List Value->Prop) (T:TypeId) (sz:Nat) (W wr:World) (b x o n:Nat) (F:Nat->α):Prop where
 ext:Ext W wr
 lo:W.heap.size<=b
 row:∃ cur,wr.heap[b]? = some (.cells cur T (0,0))/\n*sz<=cur.size/\RowF (R (only wr (excl b x o))) sz cur n F
section
variable {α:Type} {R:World->α->List Value->Prop} {T:TypeId} {sz:Nat} {W wr w2:World} {b x o n:Nat} {F:Nat->α}
theorem InRow.mono (hle:∀ {w w':World} {x:α} {cs:List Value},CellLe w w'->R w x cs->R w' x cs) (h:InRow R T sz W wr b x o n F) (hE:Ext wr w2):InRow R T sz W w2 b x o n F:=by
 obtain ⟨cur,h1,h2,h3⟩:=h.row;exact ⟨h.ext.trans hE,h.lo,cur,(hE.block _ (row_lt h1)).trans h1,h2,h3.weak fun x cs hx=>hle (hE.only _) hx⟩
theorem InRow.setx {j:Nat} {v:Value} (hle:∀ {w w':World} {x:α} {cs:List Value},CellLe w w'->R w x cs->R w' x cs) (h:InRow R T sz W wr b x o n F) (hc:W.heap.size<=x) (hn:b≠x):InRow R T sz W (wr.setCell ⟨x,j,none⟩ v) b x o n F:=by
 obtain ⟨cur,h1,h2,h3⟩:=h.row;exact ⟨Below.setCell h.ext hc _,h.lo,cur,(Below.heap_setCell _ _ _ _ hn).trans h1,h2,h3.weak fun y cs hy=>hle (only_grow (grown_set (grownBy_refl wr (some x))) (by simp [excl])) hy⟩
theorem InRow.congr {G:Nat->α} (h:InRow R T sz W wr b x o n F) (hF:∀ i,i<n->F i=G i):InRow R T sz W wr b x o n G:=by
 obtain ⟨cur,h1,h2,h3⟩:=h.row;exact ⟨h.ext,h.lo,cur,h1,h2,h3.congr hF⟩
theorem InRow.has (h:InRow R T sz W wr b x o n F):HasRow wr b T (n*sz):=by
 obtain ⟨cur,h1,h2,_⟩:=h.row;exact ⟨cur,h1,h2⟩
end
theorem InRow.parts {W wr:World} {b x o n:Nat} {F:Nat->Part} (h:InRow IsPart 83 2 W wr b x o n F) {k:Nat} (hk:k<n):wr.cell? ⟨b,k*2,none⟩=some (.string (F k).name)/\wr.cell? ⟨b,k*2+1,none⟩=some (.int .i64 (F k).type):=by
 obtain ⟨cur,h1,h2,h3⟩:=h.row;obtain ⟨cs,⟨rfl,_⟩,_,h4⟩:=h3 k hk;exact ⟨row_cell h1 (by simpa using h4 0 _ rfl),row_cell h1 (h4 1 _ rfl)⟩
theorem InRow.putPart {W wr:World} {b x o n:Nat} {F:Nat->Part} (h:InRow IsPart 83 2 W wr b x o n F) {k:Nat} (hk:k<n) {y:Int} (hx:-9223372036854775808<=y/\y<=9223372036854775807) :
  InRow IsPart 83 2 W (wr.setCell ⟨b,k*2+1,none⟩ (.int .i64 y)) b x o n (fun i=>if i=k then ⟨(F k).name,y⟩ else F i):=by
 obtain ⟨cur,h1,h2,h3⟩:=h.row;obtain ⟨cs,⟨rfl,h5,_⟩,_,h4⟩:=h3 k hk;refine ⟨Below.setCell h.ext h.lo _,h.lo,_,row_set h1,by rw [Array.size_setIfInBounds]; exact h2,?_⟩;refine (RowF.put (R:=IsPart wr) h3 (y:=⟨(F k).name,y⟩) (cs':=[.string (F k).name,.int .i64 y]) ⟨rfl,h5,hx⟩ rfl (fun j u hu=>?_) (fun m hm=>set_out (by omega))).weak fun x cs hx=>hx
 match j,hu with
 | 0,hu=>cases hu; rw [set_out (by omega)]; exact h4 0 _ rfl
 | 1,hu=>cases hu; exact set_in (by omega)
theorem InRow.meth {W wr:World} {b x o n:Nat} {F:Nat->Meth} (h:InRow IsMeth 88 5 W wr b x o n F) {k:Nat} (hk:k<n):∃ aa al ac ra rl rc,wr.cell? ⟨b,k*5,none⟩=some (.string (F k).name)/\wr.cell? ⟨b,k*5+1,none⟩=some (.slice aa al ac) /\
  wr.cell? ⟨b,k*5+2,none⟩=some (.int .i64 (F k).sig.result)/\wr.cell? ⟨b,k*5+3,none⟩=some (.slice ra rl rc)/\wr.cell? ⟨b,k*5+4,none⟩=some (.string (F k).proc) /\
  Ints (only wr (excl b x o)) (.slice aa al ac) (F k).sig.args/\Strs (only wr (excl b x o)) (.slice ra rl rc) (F k).sig.raises:=by
 obtain ⟨cur,h1,h2,h3⟩:=h.row;obtain ⟨cs,⟨av,rv,rfl,h5,h6,_⟩,_,h4⟩:=h3 k hk;obtain ⟨aa,ac,rfl,_⟩:=id h5;obtain ⟨ra,rc,rfl,_⟩:=id h6;exact ⟨aa,_,ac,ra,_,rc,row_cell h1 (by simpa using h4 0 _ rfl),row_cell h1 (h4 1 _ rfl),row_cell h1 (h4 2 _ rfl),row_cell h1 (h4 3 _ rfl),row_cell h1 (h4 4 _ rfl),h5,h6⟩
theorem InRow.putMeth {W wr:World} {b x o n:Nat} {F:Nat->Meth} (h:InRow IsMeth 88 5 W wr b x o n F) {k:Nat} (hk:k<n) {aa:Option Addr} {al ac:Nat} {ra:Option Addr} {rl rc:Nat} {s:Sig} (ha:Ints (only wr (excl b x o)) (.slice aa al ac) s.args) (hs:Strs (only wr (excl b x o)) (.slice ra rl rc) s.raises)
  (hr:-9223372036854775808<=s.result/\s.result<=9223372036854775807) :
  InRow IsMeth 88 5 W (((wr.setCell ⟨b,k*5+1,none⟩ (.slice aa al ac)).setCell ⟨b,k*5+2,none⟩ (.int .i64 s.result)).setCell ⟨b,k*5+3,none⟩ (.slice ra rl rc)) b x o n (fun i=>if i=k then ⟨(F k).name,s,(F k).proc⟩ else F i):=by
 obtain ⟨cur,h1,h2,h3⟩:=h.row;obtain ⟨cs,⟨av,rv,rfl,_,_,_,_,h5,h6⟩,_,h4⟩:=h3 k hk;have hsz:k*5+5<=cur.size:=by omega
 have hle:CellLe (only wr (excl b x o)) (only (((wr.setCell ⟨b,k*5+1,none⟩ (.slice aa al ac)).setCell ⟨b,k*5+2,none⟩ (.int .i64 s.result)).setCell ⟨b,k*5+3,none⟩ (.slice ra rl rc)) (excl b x o)) :=
  only_grow (grown_set (grown_set (grown_set (grownBy_refl wr (some b))))) (by simp [excl])
 refine ⟨Below.setCell (Below.setCell (Below.setCell h.ext h.lo _) h.lo _) h.lo _,h.lo,_,row_set (row_set (row_set h1)),by simp only [Array.size_setIfInBounds]; exact h2,?_⟩;refine RowF.weak ?_ (fun x cs hx=>IsMeth.le hle hx);refine RowF.put h3 (y:=⟨(F k).name,s,(F k).proc⟩) (cs':=[.string (F k).name,.slice aa al ac,.int .i64 s.result,.slice ra rl rc,.string (F k).proc]) ⟨_,_,rfl,ha,hs,hr.1,hr.2,h5,h6⟩ rfl (fun j u hu=>?_) (fun m hm=>by rw [set_out (by omega),set_out (by omega),set_out (by omega)])
 match j,hu with
 | 0,hu=>cases hu; rw [set_out (by omega),set_out (by omega),set_out (by omega)]; exact h4 0 _ rfl
 | 1,hu=>cases hu; rw [set_out (by omega),set_out (by omega)]; exact set_in (by omega)
 | 2,hu=>cases hu; rw [set_out (by omega)]; exact set_in (by rw [Array.size_setIfInBounds]; omega)
 | 3,hu=>cases hu; exact set_in (by simp only [Array.size_setIfInBounds]; omega)
 | 4,hu=>cases hu; rw [set_out (by omega),set_out (by omega),set_out (by omega)]; exact h4 4 _ rfl
theorem InRow.part_set {W wr:World} {b x o n c j:Nat} {F:Nat->Part} {v:Value} (h:InRow IsPart 83 2 W wr b x o n F) (hc:W.heap.size<=c) (hn:b≠c):InRow IsPart 83 2 W (wr.setCell ⟨c,j,none⟩ v) b x o n F:=by
 obtain ⟨cur,h1,h2,h3⟩:=h.row;exact ⟨Below.setCell h.ext hc _,h.lo,cur,(Below.heap_setCell _ _ _ _ hn).trans h1,h2,h3.weak fun y cs hy=>hy⟩
theorem intw_cells {w:World}:∀ y cs,IsInt w y cs->∀ u,u∈cs->u.oneCell'=true:=fun y cs h u hu=>by
 obtain ⟨rfl,_⟩:=h;rw [List.mem_singleton] at hu;rw [hu]; rfl
def ArgI (wy vx:World) (sb ab:Nat) (l:List Int) (acap:Nat) (r:Int) (ra:Option Addr) (rl rc:Nat) (F:Nat->Int):Prop :=
 Ext wy vx/\vx.heap[sb]? = some (.cells #[.slice (some ⟨ab,0,none⟩) l.length acap,.int .i64 r,.slice ra rl rc] 86 (0,0))/\wy.heap.size<=sb/\wy.heap.size<=ab/\l.length<=acap /\
  ∃ cur,vx.heap[ab]? = some (.cells cur 3 (0,0))/\l.length<=cur.size/\RowF (IsInt vx) 1 cur l.length F
theorem ArgI.cell {wy vx:World} {sb ab:Nat} {l:List Int} {acap:Nat} {r:Int} {ra:Option Addr} {rl rc:Nat} {F:Nat->Int} (h:ArgI wy vx sb ab l acap r ra rl rc F) {q:Nat} (hq:q<l.length):vx.cell? ⟨ab,q,none⟩=some (.int .i64 (F q)):=by
 obtain ⟨_,_,_,_,_,cur,h1,h2,h3⟩:=h;obtain ⟨cs,⟨rfl,_⟩,_,h4⟩:=h3 q hq;exact row_cell h1 (by simpa using h4 0 _ rfl)
theorem ArgI.free {wy vx:World} {sb ab:Nat} {l:List Int} {acap:Nat} {r:Int} {ra:Option Addr} {rl rc:Nat} {F:Nat->Int} (h:ArgI wy vx sb ab l acap r ra rl rc F) (q:Nat):vx.frozen? ⟨ab,q,none⟩=false:=by
 obtain ⟨_,_,_,_,_,cur,h1,_,_⟩:=h;exact row_free h1 q
theorem ArgI.drew {wy vx:World} {sb ab:Nat} {l:List Int} {acap:Nat} {r:Int} {ra:Option Addr} {rl rc:Nat} {F:Nat->Int} (h:ArgI wy vx sb ab l acap r ra rl rc F):ArgI wy vx.drew sb ab l acap r ra rl rc F:=by
 obtain ⟨h1,h2,h3,h4,h5,cur,a1,a2,a3⟩:=h;have hE:=Ext.drew vx;exact ⟨h1.trans hE,(hE.block _ (row_lt h2)).trans h2,h3,h4,h5,cur,(hE.block _ (row_lt a1)).trans a1,a2,a3.weak fun x cs hx=>hx⟩
theorem ArgI.put {wy vx:World} {sb ab:Nat} {l:List Int} {acap:Nat} {r:Int} {ra:Option Addr} {rl rc:Nat} {F:Nat->Int} (h:ArgI wy vx sb ab l acap r ra rl rc F) {q:Nat} (hq:q<l.length) {y:Int} (hy:-9223372036854775808<=y/\y<=9223372036854775807) :
  ArgI wy (vx.setCell ⟨ab,q,none⟩ (.int .i64 y)) sb ab l acap r ra rl rc (fun i=>if i=q then y else F i):=by
 obtain ⟨h1,h2,h3,h4,h5,cur,a1,a2,a3⟩:=h;have hn:sb≠ab:=ne_type h2 a1 (by decide);refine ⟨Below.setCell h1 h4 _,(Below.heap_setCell _ _ _ _ hn).trans h2,h3,h4,h5,_,row_set a1,by rw [Array.size_setIfInBounds]; exact a2,?_⟩;refine (RowF.put a3 (k:=q) (y:=y) (cs':=[.int .i64 y]) ⟨rfl,hy⟩ rfl (fun j u hu=>?_) (fun m hm=>set_out (by omega))).weak fun x cs hx=>hx
 match j,hu with
 | 0,hu=>cases hu; rw [show q*1+0=q by omega]; exact set_in (by omega)
theorem ArgI.ints {wy vx:World} {sb ab:Nat} {l:List Int} {acap:Nat} {r:Int} {ra:Option Addr} {rl rc:Nat} {G:Int->Int} (h:ArgI wy vx sb ab l acap r ra rl rc (fun j=>G (nth l j))) {p:Nat->Bool} (hp:p ab=true) (hl:l.length<=400):Ints (only vx p) (.slice (some ⟨ab,0,none⟩) l.length acap) (l.map G):=by
 obtain ⟨_,_,_,_,h5,cur,h1,h2,h3⟩:=h;refine RowF.slice (R:=IsInt) (xs:=l.map G) (F:=fun j=>G (nth l j)) (h3.weak fun x cs hx=>hx) (by rw [only_see hp]; exact h1) h5 (by unfold maxBytes; omega) (by rw [List.length_map]) (fun i hi=>?_);rw [nth_map9 G l hi]
theorem ArgI.congr {wy vx:World} {sb ab:Nat} {l:List Int} {acap:Nat} {r:Int} {ra:Option Addr} {rl rc:Nat} {F G:Nat->Int} (h:ArgI wy vx sb ab l acap r ra rl rc F) (hF:∀ i,i<l.length->F i=G i):ArgI wy vx sb ab l acap r ra rl rc G:=by
 obtain ⟨h1,h2,h3,h4,h5,cur,a1,a2,a3⟩:=h;exact ⟨h1,h2,h3,h4,h5,cur,a1,a2,a3.congr hF⟩
theorem ArgI.res {wy vx:World} {sb ab:Nat} {l:List Int} {acap:Nat} {r:Int} {ra:Option Addr} {rl rc:Nat} {F:Nat->Int} (h:ArgI wy vx sb ab l acap r ra rl rc F) (y:Int):ArgI wy (vx.setCell ⟨sb,1,none⟩ (.int .i64 y)) sb ab l acap y ra rl rc F:=by
 obtain ⟨h1,h2,h3,h4,h5,cur,a1,a2,a3⟩:=h;have hn:ab≠sb:=ne_type a1 h2 (by decide);refine ⟨Below.setCell h1 h3 _,?_,h3,h4,h5,cur,(Below.heap_setCell _ _ _ _ hn).trans a1,a2,a3.weak fun x cs hx=>hx⟩;have:=row_set (j:=1) (v:=.int .i64 y) h2
 simpa using this
def TurnPost (w:World) (g:List Ty) (f:Nat->Nat) (e:Ending) (w':World):Prop:=∃ oa oc h,e=.returned (.slice oa g.length oc)/\h.length=g.length/\(∀ i,i<g.length->nth h (f i)=relT f (nth g i))/\Graph w' (.slice oa g.length oc) h/\Ext w w'
theorem turned43 (a:Option Addr) (n c:Nat) (g:List Ty) (la:Option Addr) (ln lc:Nat) (l:List Int) (w:World) (hg:Graph w (.slice a n c) g) (hl:Ints w (.slice la ln lc) l) (hlen:l.length=g.length)
  (hin:∀ i,i<g.length->0<=nth l i/\nth l i<g.length) (hinj:∀ i j,i<j->j<g.length->nth l i≠nth l j) (h0:(checkB g).2=0):Calls Tryz.prog 43 #[.slice a n c,.slice la ln lc] w (TurnPost w g fun i=>(nth l i).toNat):=by
 obtain rfl:=SlW.len hg;obtain rfl:=SlW.len hl;obtain ⟨h400,hr,_⟩:=check_ok h0;obtain ⟨cur0,hsz0,hmk⟩:∃ cur:Array Value,cur.size=g.length*10/\(Instr.makeSlice 23 (.int .i64 g.length) (.int .i64 g.length)).run Tryz.prog w=.ok (.slice (some ⟨w.heap.size,0,none⟩) g.length g.length) (w.alloc (.cells cur 50)):=makeTys g.length h400 w;obtain ⟨f,hf⟩:∃ f:Nat->Nat,f=fun i=>(nth l i).toNat:=⟨_,rfl⟩
 rw [<- hf];have Hfl:=dh (show ∀ i,i<g.length->nth l i=(f i:Int)/\f i<g.length from fun i hi=>by
  have:=hin i hi;rw [hf];show nth l i=((nth l i).toNat:Int)/\(nth l i).toNat<g.length
  omega)
 have Hfi:=dh (show ∀ i j,i<g.length->j<g.length->f i=f j->i=j from fun i j hi hj e=>by
  have h1:=Hfl.out i hi;have h2:=Hfl.out j hj;rcases Nat.lt_trichotomy i j with h | h | h
  ·exact absurd (by rw [h1.1,h2.1,e]) (hinj i j h hj)
  ·exact h
  ·exact absurd (by rw [h1.1,h2.1,e]) (hinj j i h hi))
 have Hg:=dh hg;have Hl:=dh hl;have Hr:=dh hr;have HO:=dh (show TurnO w (w.alloc (.cells cur0 50)) w.heap.size g.length g f 0 from ⟨Ext.alloc _ _,Nat.le_refl _,cur0,heap_alloc_new _ _,hsz0,fun k hk=>absurd hk (Nat.not_lt_zero _)⟩);have hle1:l.length<=g.length:=by omega
 have hle2:g.length<=l.length:=by omega
 clear hg hl hr hf hin hinj h0 hlen
 go_enter Tryz.func43,Tryz.ntmps43
 go_wp2_with fail;clear hmk;generalize w.heap.size=ob at HO ⊢;go_loopw [6,7,8,9,10,11] (fun v6 _ _ _ _ _ wr=>∃ i:Nat,i<=g.length/\v6=.int .i64 i/\Hid (TurnO w wr ob g.length g f i)) (fun i _ _ _ _ _ _=>g.length-(intOf i).toNat)
 case atStart=>exact ⟨0,Nat.zero_le _,rfl,HO⟩
 case round =>
  clear HO;obtain ⟨i,hi,rfl,HO⟩:=hrel;by_cases hin:i<g.length
  ·have hio:(i:Int)<g.length:=by omega
   obtain ⟨tb,tof,pa,pl,pc,ma,ml,mc,oa,ol,oc,hab,hbl,hT⟩:=Graph.at Hg.out hin;obtain ⟨t,ht⟩:∃ t,t=nth g i:=⟨_,rfl⟩;rw [<- ht] at hT;obtain ⟨d0,d1,d2,d3,d4,d5,d6,d7,d8,d9,hps,hms,hos,hok⟩:=hT;have d0:=HO.out.ext.cell d0;have d1:=HO.out.ext.cell d1;have d2:=HO.out.ext.cell d2;have d3:=HO.out.ext.cell d3;have d4:=HO.out.ext.cell d4;have d5:=HO.out.ext.cell d5;have d6:=HO.out.ext.cell d6;have d7:=HO.out.ext.cell d7;have d8:=HO.out.ext.cell d8;have d9:=HO.out.ext.cell d9;have Hrt:=dh (show rightB g t=true by rw [ht]; exact Hr.out i hin);have Hps:=dh hps;have Hms:=dh hms;have Hos:=dh hos;have Hok:=dh hok;have Ht:=dh ht;obtain rfl:=SlW.len hps;obtain rfl:=SlW.len hms;obtain rfl:=SlW.len hos;clear hps hms hos hok ht;subst hab;go_upto_region 6 with (fail);obtain ⟨W1,hW1⟩:∃ W1:World,W1=wr.alloc (.cells (tyArr t pa t.parts.length pc ma t.methods.length mc oa t.overs.length oc) 50):=⟨_,rfl⟩;have HE1:=dh (show Ext wr W1 by rw [hW1]; exact Ext.alloc _ _);have hb1:W1.heap[wr.heap.size]? = some (.cells (tyArr t pa t.parts.length pc ma t.methods.length mc oa t.overs.length oc) 50 (0,0)):=by rw [hW1]; exact heap_alloc_new _ _
   unfold tyArr at hW1;rw [<- hW1];clear hW1 d0 d1 d2 d3 d4 d5 d6 d7 d8 d9;have b0:=(tyBox_of hb1).c0;have Hb1:=dh hb1;clear hb1;rename World=>W1;generalize hxb:wr.heap.size=xb at Hb1 b0 ⊢;have Hxb:=dh hxb;clear hxb;obtain ⟨T1,hT1⟩:∃ T1:Ty,T1=withSuper t (if hasSuperB t.kind then (f t.super.toNat:Int) else t.super):=⟨_,rfl⟩;have HT1:=dh hT1;clear hT1;go_cut [32] (fun v wx=>v=.bool (hasSuperB t.kind)/\wx=W1)
   case first =>
    cases k1:(t.kind==12) <;> cases k2:(t.kind==13)
    all_goals
     have Hn:=dh (And.intro k1 k2);go_wp2_with fail;go_meet;exact ⟨by unfold hasSuperB; rw [Hn.out.1,Hn.out.2]; rfl,rfl⟩
   case rest =>
    obtain ⟨rfl,rfl⟩:=hcut;clear b0;go_upto_if 32 with (fail);go_cut [8] (fun v wx=>Hid (Ext wr wx/\wx.heap[xb]? = some (.cells (tyArr T1 pa t.parts.length pc ma t.methods.length mc oa t.overs.length oc) 50 (0,0))))
    case first =>
     cases hs:hasSuperB t.kind
     ·have HQ:=dh (show Ext wr wc/\wc.heap[xb]? = some (.cells (tyArr T1 pa t.parts.length pc ma t.methods.length mc oa t.overs.length oc) 50 (0,0)) from ⟨HE1.out,by rw [HT1.out,hs]; exact Hb1.out⟩);clear hs;go_wp2_with fail;go_meet;exact HQ
     ·have hsr:=right_super Hrt.out hs;obtain ⟨sn,hsn⟩:∃ s:Nat,t.super=s:=⟨t.super.toNat,by omega⟩;have hsl:sn<l.length:=by omega
      obtain ⟨lb,lo,hla,hllt,dl,-⟩:=Ints.at (Ints.mono (HO.out.ext.trans HE1.out) Hl.out) hsl;rw [(Hfl.out sn (by omega)).1] at dl;have g6:=(tyBox_of Hb1.out).c6;have r6:=row_free Hb1.out 6;rw [hsn] at g6;have HQ:=dh (show Ext wr (wc.setCell ⟨xb,6,none⟩ (.int .i64 (f sn)))/\(wc.setCell ⟨xb,6,none⟩ (.int .i64 (f sn))).heap[xb]? = some (.cells (tyArr T1 pa t.parts.length pc ma t.methods.length mc oa t.overs.length oc) 50 (0,0)) from ⟨Below.setCell HE1.out (by rw [Hxb.out]; exact Nat.le_refl _) _,by
       rw [HT1.out,hs,if_pos rfl,hsn,Int.toNat_natCast];have:=row_set (j:=6) (v:=.int .i64 (f sn)) Hb1.out
       simpa [tyArr,withSuper] using this⟩)
      clear hs hsr;subst hla;go_wp2_with fail;go_meet;exact HQ
    case rest =>
     have HE2:=dh hcut.out.1;have Hb2:=dh hcut.out.2;clear hcut HE1 Hb1;have hlp:=right_parts Hrt.out;obtain ⟨hlm,hlo,hlsig⟩:=right_methods Hrt.out;obtain ⟨i0,hi0,hz0,hz1,hz2⟩:=info_parts info83;have b7:=(tyBox_of Hb2.out).c7;have l7:=cell_lt b7;have hO0:OwnL (IsPart wc) 83 2 (wc.alloc (.cells #[] 83)) wc.heap.size (.slice (some ⟨wc.heap.size,0,none⟩) 0 0) ([]:List Part):=OwnL.made wc #[] 0 (Nat.le_refl _) (by decide) rfl;have hsl:=slw_fix (Parts.mono (HO.out.ext.trans HE2.out) Hps.out) (Ext.alloc wc (.cells #[] 83));go_wp2_with (at_builtin; refine wpList_append_list rfl (.tmp 39) (.tmp 41) 46 rfl wc.heap.size 83 i0 (.agg #[.string ⟨#[]⟩,.int .i64 0]) 2 24 Tryz.underlying46 hi0 hz0 hz1 hz2 rfl (by decide) _ _ rfl hO0 rfl hsl part_cells ?c1 ?c2 ?c3 ?_)
     case c1=>first | (unfold maxLen; simp; omega) | (unfold maxLen; omega)
     case c2=>first | omega | (simp; omega)
     all_goals try exact (Ext.alloc _ _).size
     intro v8 W3 hO3 hg3 hat3;try rw [List.nil_append] at hO3
     have hE3:=hO0.ext (Ext.alloc wc (.cells #[] 83)) hg3;obtain ⟨pk,hpk⟩:∃ o,v8.ownBlock=some o:=by
      rcases hat3 with h | h
      ·exact ⟨_,h⟩
      ·exact ⟨_,h⟩
     obtain ⟨pcap,pcur,rfl,hplo,hpcap,hprow,hpsz,hpF⟩:=hO3.rowF hpk (by unfold maxBytes; omega);have hb3:=(hE3.block _ (row_lt Hb2.out)).trans Hb2.out;have g7:=(tyBox_of hb3).c7;have r7:=row_free hb3 7;have Hpn:=dh (show pk≠xb from ne_type hprow hb3 (by decide));have HP3:=dh (show InRow IsPart 83 2 wr W3 pk xb ob t.parts.length (nth t.parts) from ⟨HE2.out.trans hE3,Nat.le_trans HE2.out.size hplo,pcur,hprow,hpsz,hpF.weak fun x cs hx=>hx⟩);have Hb3:=dh hb3;have Hpcap:=dh hpcap;clear hO0 hsl hO3 hg3 hat3 hpk hplo hpcap hprow hpsz hpF hb3 hE3 b7 l7 hi0 hz0 hz1 hz2;go_upto_region 9 with (fail);obtain ⟨W4,hW4⟩:∃ W4:World,W4=W3.setCell ⟨xb,7,none⟩ (.slice (some ⟨pk,0,none⟩) t.parts.length pcap):=⟨_,rfl⟩;rw [<- hW4];have HB:=dh (show W4.heap[xb]? = some (.cells (tyArr T1 (some ⟨pk,0,none⟩) t.parts.length pcap ma t.methods.length mc oa t.overs.length oc) 50 (0,0)) by
      rw [hW4];have:=row_set (j:=7) (v:=.slice (some ⟨pk,0,none⟩) t.parts.length pcap) Hb3.out
      simpa [tyArr] using this)
     have HP:=dh (show InRow IsPart 83 2 wr W4 pk xb ob t.parts.length (fun j=>if j<0 then relP f (nth t.parts j) else nth t.parts j) by
      rw [hW4];have h1:=InRow.setx (v:=.slice (some ⟨pk,0,none⟩) t.parts.length pcap) (j:=7) (R:=IsPart) (fun h=>id) HP3.out (show wr.heap.size<=xb by rw [Hxb.out]; exact Nat.le_refl _) Hpn.out;obtain ⟨cur,a1,a2,a3⟩:=h1.row;exact ⟨h1.ext,h1.lo,cur,a1,a2,a3.congr fun j hj=>by simp⟩)
     clear hW4 g7 r7 HP3 Hb3 Hb2 HE2;go_wp2_with fail;go_loopw [8] (fun v8 wx=>∃ k:Nat,k<=t.parts.length/\v8=.int .i64 k/\Hid (wx.heap[xb]? = some (.cells (tyArr T1 (some ⟨pk,0,none⟩) t.parts.length pcap ma t.methods.length mc oa t.overs.length oc) 50 (0,0)) /\
      InRow IsPart 83 2 wr wx pk xb ob t.parts.length (fun j=>if j<k then relP f (nth t.parts j) else nth t.parts j))) (fun i _=>t.parts.length-(intOf i).toNat)
     case atStart=>exact ⟨0,Nat.zero_le _,rfl,dh ⟨HB.out,HP.out⟩⟩
     case round =>
      clear HB HP;obtain ⟨k,hk,rfl,hH⟩:=hrel;rename World=>wx;have HB:=dh hH.out.1;have HP:=dh hH.out.2;clear hH;have b7:=(tyBox_of HB.out).c7;by_cases hkn:k<t.parts.length
      ·have hko:(k:Int)<t.parts.length:=by omega
       obtain ⟨p0,p1⟩:=HP.out.parts hkn;rw [if_neg (Nat.lt_irrefl k)] at p1;have hpt:=refs_in Hrt.out _ (ref_part (nth_mem hkn));obtain ⟨sn,hsn⟩:∃ s:Nat,(nth t.parts k).type=s:=⟨(nth t.parts k).type.toNat,by omega⟩;rw [hsn] at p1;have hsl:sn<l.length:=by omega
       obtain ⟨lb,lo,hla,hllt,dl,-⟩:=Ints.at (Ints.mono (HO.out.ext.trans HP.out.ext) Hl.out) hsl;rw [(Hfl.out sn (by omega)).1] at dl;have hsg:sn<g.length:=by omega
       have hfs:=(Hfl.out sn hsg).2;have hX:Ext wx wx.drew:=Ext.drew _;have HP2:=dh (InRow.mono (R:=IsPart) (fun h=>id) HP.out hX);have HB2:=dh ((hX.block _ (row_lt HB.out)).trans HB.out);have HP3:=dh (HP2.out.putPart hkn (y:=(f sn:Int)) (by omega));obtain ⟨q1,e1⟩:=(InRow.has HP2.out).cell (show k*2+1<t.parts.length*2 by omega);have r1:=(InRow.has HP2.out).free (k*2+1);clear p0 hX hpt hllt;subst hla;go_upto_region 12 with (fail);have HS:=dh (Ext.drew wx);refine wp_region_L [14] (Ext wx) (by kernel_rfl) ?_;change wpL _ _ _ _ _ _ _ _ _ (World.drew _);refine Yp 0 HS.out ?_;refine Yt 1 rfl (fun w9 hE=>by have b7E:=hE.cell b7; clear hE; first | (go_simp; done) | (go_simp; with_reducible rfl)) HS.out ?_;refine Yp 2 HS.out ?_;refine Yp 3 HS.out ?_;refine Yp 4 HS.out ?_;refine Yt 5 rfl (fun w9 hE=>by have b7E:=hE.cell b7; clear hE; first | (go_simp; done) | (go_simp; with_reducible rfl)) HS.out ?_;refine Yp 6 HS.out ?_;refine Yp 7 HS.out ?_;refine Yp 8 HS.out ?_;refine Yt 9 rfl (fun w9 hE=>by have p1E:=hE.cell p1; clear hE; first | (go_simp; done) | (go_simp; with_reducible rfl)) HS.out ?_;refine Yp 10 HS.out ?_;refine Yt 11 rfl (fun w9 hE=>by have dlE:=hE.cell dl; clear hE; first | (go_simp; done) | (go_simp; with_reducible rfl)) HS.out ?_;refine Yp 12 HS.out ?_;refine Yp 13 HS.out ?_;refine wpL_only (i:=14) rfl (by kernel_rfl) (fun K hK=>?_);go_simp;refine hK _ _ (fun h=>Bool.noConfusion ((show early _ _=false by kernel_rfl).symm.trans h)) ?_; clear hK K;refine wpL_done (by kernel_rfl) ?_;have HN:=dh (show ((wx.setCell ⟨pk,k*2+1,none⟩ (.int .i64 (f sn))).drew).heap[xb]? = some (.cells (tyArr T1 (some ⟨pk,0,none⟩) t.parts.length pcap ma t.methods.length mc oa t.overs.length oc) 50 (0,0)) /\
         InRow IsPart 83 2 wr ((wx.setCell ⟨pk,k*2+1,none⟩ (.int .i64 (f sn))).drew) pk xb ob t.parts.length (fun j=>if j<k+1 then relP f (nth t.parts j) else nth t.parts j) from
        ⟨(Below.heap_setCell _ _ _ _ Hpn.out.symm).trans HB2.out,InRow.congr HP3.out (fun j hj=>by
         show (if j=k then (⟨(if k<k then relP f (nth t.parts k) else nth t.parts k).name,(f sn:Int)⟩:Part) else if j<k then relP f (nth t.parts j) else nth t.parts j)=if j<k+1 then relP f (nth t.parts j) else nth t.parts j
         by_cases e:j=k
         ·subst e;rw [if_pos rfl,if_neg (Nat.lt_irrefl j),if_pos (Nat.lt_succ_self j)];unfold relP;rw [hsn,Int.toNat_natCast]
         ·rw [if_neg e];by_cases h2:j<k
          ·rw [if_pos h2,if_pos (by omega)]
          ·rw [if_neg h2,if_neg (by omega)])⟩)
       clear HS HP2 HB2 HP3 hsn e1 r1 p1 dl b7 hfs hsg HP HB;go_wp2_with fail;go_roundw
       case rel=>exact ⟨k+1,by omega,by go_num,HN⟩
       case measure=>simp [intOf]; omega
      ·have hkn:k=t.parts.length:=by omega
       subst hkn;have HP:=dh (InRow.congr HP.out (G:=fun j=>relP f (nth t.parts j)) (fun j hj=>if_pos hj));obtain ⟨i1,hi1,hz0,hz1,hz2⟩:=info_parts info88;have b8:=(tyBox_of HB.out).c8;have l8:=cell_lt b8;have hO0:OwnL (IsMeth w) 88 5 (wx.alloc (.cells #[] 88)) wx.heap.size (.slice (some ⟨wx.heap.size,0,none⟩) 0 0) ([]:List Meth):=OwnL.made wx #[] 0 (Nat.le_refl _) (by decide) rfl;have hsl:=slw_fix Hms.out ((HO.out.ext.trans HP.out.ext).trans (Ext.alloc wx (.cells #[] 88)));go_wp2_with (at_builtin; refine wpList_append_list rfl (.tmp 65) (.tmp 67) 47 rfl wx.heap.size 88 i1 (.agg #[.string ⟨#[]⟩,.slice none 0 0,.int .i64 0,.slice none 0 0,.string ⟨#[]⟩]) 5 88 Tryz.underlying47 hi1 hz0 hz1 hz2 rfl (by decide) _ _ rfl hO0 rfl hsl meth_cells ?c4 ?c5 ?c6 ?_)
       case c4=>first | (unfold maxLen; simp; omega) | (unfold maxLen; omega)
       case c5=>first | omega | (simp; omega)
       all_goals try exact (Ext.alloc _ _).size
       intro v9 W5 hO5 hg5 hat5;try rw [List.nil_append] at hO5
       have hE5:=hO0.ext (Ext.alloc wx (.cells #[] 88)) hg5;obtain ⟨mk,hmk2⟩:∃ o,v9.ownBlock=some o:=by
        rcases hat5 with h | h
        ·exact ⟨_,h⟩
        ·exact ⟨_,h⟩
       obtain ⟨mcap,mcur,rfl,hmlo,hmcap,hmrow,hmsz,hmF⟩:=hO5.rowF hmk2 (by unfold maxBytes; omega);have hb5:=(hE5.block _ (row_lt HB.out)).trans HB.out;have g8:=(tyBox_of hb5).c8;have r8:=row_free hb5 8;have HP5:=dh (InRow.mono (R:=IsPart) (fun h=>id) HP.out hE5);have hmlo2:wr.heap.size<=mk:=Nat.le_trans HP.out.ext.size hmlo;have Hmn:=dh (show mk≠xb from ne_type hmrow hb5 (by decide));have Hmp:=dh (show mk≠pk by
        obtain ⟨cur,h1,_⟩:=HP5.out.row;exact ne_type hmrow h1 (by decide))
       have HM5:=dh (show InRow IsMeth 88 5 wr W5 mk xb ob t.methods.length (nth t.methods) from ⟨HP5.out.ext,hmlo2,mcur,hmrow,hmsz,hmF.weak fun x cs hx=>IsMeth.le (fun a v hc=>cell_only (by have h1:=cell_lt hc; have h2:=Hxb.out; have h3:=HO.out.lo; have h4:=HO.out.ext.size; unfold excl; simp only [Bool.and_eq_true,bne_iff_ne,ne_eq]; omega) ((HO.out.ext.trans HP5.out.ext).cell hc)) hx⟩);have Hb5:=dh hb5;have Hmcap:=dh hmcap;clear hO0 hsl hO5 hg5 hat5 hmk2 hmlo hmcap hmrow hmsz hmF hb5 hE5 b8 l8 hi1 hz0 hz1 hz2 b7 HB HP hmlo2;go_upto_region 14 with (fail);obtain ⟨W6,hW6⟩:∃ W6:World,W6=W5.setCell ⟨xb,8,none⟩ (.slice (some ⟨mk,0,none⟩) t.methods.length mcap):=⟨_,rfl⟩;rw [<- hW6];have hxlo:wr.heap.size<=xb:=by rw [Hxb.out]; exact Nat.le_refl _
       have HB:=dh (show W6.heap[xb]? = some (.cells (tyArr T1 (some ⟨pk,0,none⟩) t.parts.length pcap (some ⟨mk,0,none⟩) t.methods.length mcap oa t.overs.length oc) 50 (0,0)) by
        rw [hW6];have:=row_set (j:=8) (v:=.slice (some ⟨mk,0,none⟩) t.methods.length mcap) Hb5.out
        simpa [tyArr] using this)
       have HP:=dh (show InRow IsPart 83 2 wr W6 pk xb ob t.parts.length (fun j=>relP f (nth t.parts j)) by
        rw [hW6];exact InRow.setx (R:=IsPart) (fun h=>id) HP5.out hxlo Hpn.out)
       have HM:=dh (show InRow IsMeth 88 5 wr W6 mk xb ob t.methods.length (fun j=>if j<0 then relM f (nth t.methods j) else nth t.methods j) by
        rw [hW6];exact InRow.congr (InRow.setx (R:=IsMeth) (fun h=>IsMeth.le h) HM5.out hxlo Hmn.out) (fun j hj=>by simp))
       clear hW6 g8 r8 HP5 HM5 Hb5;go_wp2_with fail;go_loopw [9,10,11] (fun v9 _ _ wy=>∃ k:Nat,k<=t.methods.length/\v9=.int .i64 k/\Hid (wy.heap[xb]? = some (.cells (tyArr T1 (some ⟨pk,0,none⟩) t.parts.length pcap (some ⟨mk,0,none⟩) t.methods.length mcap oa t.overs.length oc) 50 (0,0)) /\
        InRow IsPart 83 2 wr wy pk xb ob t.parts.length (fun j=>relP f (nth t.parts j))/\InRow IsMeth 88 5 wr wy mk xb ob t.methods.length (fun j=>if j<k then relM f (nth t.methods j) else nth t.methods j))) (fun i _ _ _=>t.methods.length-(intOf i).toNat)
       case atStart=>exact ⟨0,Nat.zero_le _,rfl,dh ⟨HB.out,HP.out,HM.out⟩⟩
       case round =>
        clear HB HP HM;obtain ⟨k,hk,rfl,hH⟩:=hrel;rename World=>wy;have HB:=dh hH.out.1;have HP:=dh hH.out.2.1;have HM:=dh hH.out.2.2;clear hH;have b8:=(tyBox_of HB.out).c8;by_cases hkm:k<t.methods.length
        ·have hko:(k:Int)<t.methods.length:=by omega
         obtain ⟨aa,al,ac,ra,rl,rc,m0,m1,m2,m3,m4,hia,hsr⟩:=HM.out.meth hkm;rw [if_neg (Nat.lt_irrefl k)] at m2 hia hsr;obtain ⟨u,hu⟩:∃ u,u=nth t.methods k:=⟨_,rfl⟩;rw [<- hu] at m2 hia hsr;have hum:u∈t.methods:=by rw [hu]; exact nth_mem hkm
         have Hu:=dh hu;obtain rfl:=SlW.len hia;obtain rfl:=SlW.len hsr;have hus:=hlsig u hum;have l8:=cell_lt b8;have lm:=cell_lt m1;have Hia:=dh hia;have Hsr:=dh hsr;clear hu m0 m4 hia hsr;go_upto_region 18 with (fail);obtain ⟨V1,hV1⟩:∃ V1:World,V1=wy.alloc (.cells #[.slice aa u.sig.args.length ac,.int .i64 u.sig.result,.slice ra u.sig.raises.length rc] 86):=⟨_,rfl⟩;have HV1:=dh (show Ext wy V1 by rw [hV1]; exact Ext.alloc _ _);have hsb:V1.heap[wy.heap.size]? = some (.cells #[.slice aa u.sig.args.length ac,.int .i64 u.sig.result,.slice ra u.sig.raises.length rc] 86 (0,0)):=by rw [hV1]; exact heap_alloc_new _ _
         rw [<- hV1];clear hV1 b8 m1 m2 m3 l8 lm;have s0:=row_cell hsb (j:=0) rfl;have ls:=cell_lt s0;obtain ⟨i3,hi3,hz0,hz1,hz2⟩:=info_parts info3;have hO0:OwnL (IsInt wy) 3 1 (V1.alloc (.cells #[] 3)) V1.heap.size (.slice (some ⟨V1.heap.size,0,none⟩) 0 0) ([]:List Int):=OwnL.made V1 #[] 0 (Nat.le_refl _) (by decide) rfl;have hsl:=slw_fix (R:=IsInt) (w:=wy) (Ints.le (only_le _ _) Hia.out) (HV1.out.trans (Ext.alloc V1 (.cells #[] 3)));go_wp2_with (at_builtin; refine wpList_append_list rfl (.tmp 83) (.tmp 85) 35 rfl V1.heap.size 3 i3 (.int .i64 0) 1 8 Tryz.underlying35 hi3 hz0 hz1 hz2 rfl (by decide) _ _ rfl hO0 rfl hsl intw_cells ?c7 ?c8 ?c9 ?_)
         case c7=>first | (unfold maxLen; simp; omega) | (unfold maxLen; omega)
         case c8=>first | omega | (simp; omega)
         all_goals try exact (Ext.alloc _ _).size
         intro v11 V2 hO2 hg2 hat2;try rw [List.nil_append] at hO2
         have hE2:=hO0.ext (Ext.alloc V1 (.cells #[] 3)) hg2;obtain ⟨ab,hab⟩:∃ o,v11.ownBlock=some o:=by
          rcases hat2 with h | h
          ·exact ⟨_,h⟩
          ·exact ⟨_,h⟩
         obtain ⟨acap,acur,rfl,halo,hacap,harow,hasz,haF⟩:=hO2.rowF hab (by unfold maxBytes; omega);have hsb2:=(hE2.block _ (row_lt hsb)).trans hsb;have g0:=row_cell hsb2 (j:=0) rfl;have r0:=row_free hsb2 0;have HA2:=dh (show ArgI wy (V2.setCell ⟨wy.heap.size,0,none⟩ (.slice (some ⟨ab,0,none⟩) u.sig.args.length acap)) wy.heap.size ab u.sig.args acap u.sig.result ra u.sig.raises.length rc (fun j=>if j<0 then (f (nth u.sig.args j).toNat:Int) else nth u.sig.args j) from
          ⟨Below.setCell (HV1.out.trans hE2) (Nat.le_refl _) _,by have:=row_set (j:=0) (v:=.slice (some ⟨ab,0,none⟩) u.sig.args.length acap) hsb2; simpa using this,Nat.le_refl _,Nat.le_trans HV1.out.size halo,hacap,acur,
           (Below.heap_setCell _ _ _ _ (ne_type harow hsb2 (by decide))).trans harow,by omega,(haF.congr (fun j hj=>by simp)).weak fun x cs hx=>hx⟩)
         clear hO0 hsl hO2 hg2 hat2 hab halo hacap harow hasz haF hsb hsb2 hE2 s0 ls hi3 hz0 hz1 hz2 HV1;go_upto_region 19 with (fail);obtain ⟨V3,hV3⟩:∃ V3:World,V3=V2.setCell ⟨wy.heap.size,0,none⟩ (.slice (some ⟨ab,0,none⟩) u.sig.args.length acap):=⟨_,rfl⟩;rw [<- hV3] at HA2 ⊢;clear hV3 g0 r0;generalize hsbv:wy.heap.size=sb at HA2 ⊢;clear hsbv;go_wp2_with fail;go_loopw [11] (fun v11 vx=>∃ q:Nat,q<=u.sig.args.length/\v11=.int .i64 q/\Hid (ArgI wy vx sb ab u.sig.args acap u.sig.result ra u.sig.raises.length rc (fun j=>if j<q then (f (nth u.sig.args j).toNat:Int) else nth u.sig.args j))) (fun i _=>u.sig.args.length-(intOf i).toNat)
         case atStart=>exact ⟨0,Nat.zero_le _,rfl,HA2⟩
         case round =>
          clear HA2;obtain ⟨q,hq,rfl,HA⟩:=hrel;rename World=>vx;have s0:=row_cell HA.out.2.1 (j:=0) rfl;by_cases hqn:q<u.sig.args.length
          ·have hqo:(q:Int)<u.sig.args.length:=by omega
           have av:=HA.out.cell hqn;rw [if_neg (Nat.lt_irrefl q)] at av;have hpt:=refs_in Hrt.out _ (ref_meth hum (show nth u.sig.args q∈sigRefs u from List.mem_append_left _ (nth_mem hqn)));obtain ⟨sn,hsn⟩:∃ s:Nat,nth u.sig.args q=s:=⟨(nth u.sig.args q).toNat,by omega⟩;rw [hsn] at av;have hsl:sn<l.length:=by omega
           obtain ⟨lb,lo,hla,hllt,dl,-⟩:=Ints.at (Ints.mono (HO.out.ext.trans (HP.out.ext.trans HA.out.1)) Hl.out) hsl;rw [(Hfl.out sn (by omega)).1] at dl;have hsg:sn<g.length:=by omega
           have hfs:=(Hfl.out sn hsg).2;have HA2:=dh HA.out.drew;have HA3:=dh (HA2.out.put hqn (y:=(f sn:Int)) (by omega));have e1:=HA2.out.cell hqn;have r1:=HA2.out.free q;clear hpt hllt;subst hla;go_upto_region 22 with (fail);have HS:=dh (Ext.drew vx);refine wp_region_L [12] (Ext vx) (by kernel_rfl) ?_;change wpL _ _ _ _ _ _ _ _ _ (World.drew _);refine Yp 0 HS.out ?_;refine Yt 1 rfl (fun w9 hE=>by have s0E:=hE.cell s0; clear hE; first | (go_simp; done) | (go_simp; with_reducible rfl)) HS.out ?_;refine Yp 2 HS.out ?_;refine Yp 3 HS.out ?_;refine Yp 4 HS.out ?_;refine Yt 5 rfl (fun w9 hE=>by have s0E:=hE.cell s0; clear hE; first | (go_simp; done) | (go_simp; with_reducible rfl)) HS.out ?_;refine Yp 6 HS.out ?_;refine Yp 7 HS.out ?_;refine Yt 8 rfl (fun w9 hE=>by have avE:=hE.cell av; clear hE; first | (go_simp; done) | (go_simp; with_reducible rfl)) HS.out ?_;refine Yp 9 HS.out ?_;refine Yt 10 rfl (fun w9 hE=>by have dlE:=hE.cell dl; clear hE; first | (go_simp; done) | (go_simp; with_reducible rfl)) HS.out ?_;refine Yp 11 HS.out ?_;refine wpL_only (i:=12) rfl (by kernel_rfl) (fun K hK=>?_);go_simp;refine hK _ _ (fun h=>Bool.noConfusion ((show early _ _=false by kernel_rfl).symm.trans h)) ?_; clear hK K;refine wpL_done (by kernel_rfl) ?_;have HN:=dh (show ArgI wy ((vx.setCell ⟨ab,q,none⟩ (.int .i64 (f sn))).drew) sb ab u.sig.args acap u.sig.result ra u.sig.raises.length rc (fun j=>if j<q+1 then (f (nth u.sig.args j).toNat:Int) else nth u.sig.args j) from
            ArgI.congr HA3.out (fun j hj=>by
             show (if j=q then (f sn:Int) else if j<q then (f (nth u.sig.args j).toNat:Int) else nth u.sig.args j)=_
             by_cases e:j=q
             ·subst e;rw [if_pos rfl,if_pos (Nat.lt_succ_self j),hsn,Int.toNat_natCast]
             ·rw [if_neg e];by_cases h2:j<q
              ·rw [if_pos h2,if_pos (by omega)]
              ·rw [if_neg h2,if_neg (by omega)]))
           clear HS HA HA2 HA3 hsn e1 r1 av dl s0 hfs hsg;go_wp2_with fail;go_roundw
           case rel=>exact ⟨q+1,by omega,by go_num,HN⟩
           case measure=>simp [intOf]; omega
          ·have hqn:q=u.sig.args.length:=by omega
           subst hqn;have HA:=dh (HA.out.congr (G:=fun j=>(f (nth u.sig.args j).toNat:Int)) (fun j hj=>if_pos hj));have s1:=row_cell HA.out.2.1 (j:=1) rfl;go_upto_region 23 with (fail);go_cut [109] (fun v wx=>v=.bool (decide (0<=u.sig.result))/\wx=vx)
           case first =>
            by_cases hre:0<=u.sig.result
            ·have Hre:=dh hre;go_wp2_with fail;go_meet;exact ⟨by rw [decide_eq_true Hre.out],rfl⟩
            ·have Hre:=dh hre;go_wp2_with fail;go_meet;exact ⟨by rw [decide_eq_false (Int.not_le.2 Hre.out)],rfl⟩
           case rest =>
            obtain ⟨rfl,rfl⟩:=hcut;clear s0 s1;obtain ⟨rr,hrr⟩:∃ rr:Int,rr=if 0<=u.sig.result then (f u.sig.result.toNat:Int) else u.sig.result:=⟨_,rfl⟩
            have Hrr:=dh hrr;clear hrr;go_upto_if 109 with (fail);go_cut [11] (fun v wx=>Hid (ArgI wy wx sb ab u.sig.args acap rr ra u.sig.raises.length rc (fun j=>(f (nth u.sig.args j).toNat:Int))))
            case first =>
             cases hd:(decide (0<=u.sig.result))
             ·have hre:¬ 0<=u.sig.result:=of_decide_eq_false hd;have HQ:=dh (show ArgI wy wc sb ab u.sig.args acap rr ra u.sig.raises.length rc (fun j=>(f (nth u.sig.args j).toNat:Int)) by rw [Hrr.out,if_neg hre]; exact HA.out);clear hd hre HA;go_wp2_with fail;go_meet;exact HQ
             ·have hre:0<=u.sig.result:=of_decide_eq_true hd;have hpt:=refs_in Hrt.out _ (ref_meth hum (show u.sig.result∈sigRefs u by unfold sigRefs; rw [if_pos hre]; exact List.mem_append_right _ (List.mem_singleton.2 rfl)));obtain ⟨sn,hsn⟩:∃ s:Nat,u.sig.result=s:=⟨u.sig.result.toNat,by omega⟩;have hsl:sn<l.length:=by omega
              obtain ⟨lb,lo,hla,hllt,dl,-⟩:=Ints.at (Ints.mono (HO.out.ext.trans (HP.out.ext.trans HA.out.1)) Hl.out) hsl;rw [(Hfl.out sn (by omega)).1] at dl;have hsg:sn<g.length:=by omega
              have s1:=row_cell HA.out.2.1 (j:=1) rfl;rw [hsn] at s1;have r1:=row_free HA.out.2.1 1;have HQ:=dh (show ArgI wy (wc.setCell ⟨sb,1,none⟩ (.int .i64 (f sn))) sb ab u.sig.args acap rr ra u.sig.raises.length rc (fun j=>(f (nth u.sig.args j).toNat:Int)) by
               rw [Hrr.out,if_pos hre,hsn,Int.toNat_natCast]; exact HA.out.res _)
              clear hd hre hpt hllt hsn HA;subst hla;go_wp2_with fail;go_meet;exact HQ
            case rest =>
             have HA:=hcut;rename World=>vz;have HMz:=dh (InRow.mono (R:=IsMeth) (fun h=>IsMeth.le h) HM.out HA.out.1);have HPz:=dh (InRow.mono (R:=IsPart) (fun h=>id) HP.out HA.out.1);have hbz:=(HA.out.1.block _ (row_lt HB.out)).trans HB.out;have b8:=(tyBox_of hbz).c8;have s0:=row_cell HA.out.2.1 (j:=0) rfl;have s1:=row_cell HA.out.2.1 (j:=1) rfl;have s2:=row_cell HA.out.2.1 (j:=2) rfl;obtain ⟨q1,e1⟩:=(InRow.has HMz.out).cell (show k*5+1<t.methods.length*5 by omega);obtain ⟨q2,e2⟩:=(InRow.has HMz.out).cell (show k*5+1+1<t.methods.length*5 by omega);obtain ⟨q3,e3⟩:=(InRow.has HMz.out).cell (show k*5+1+2<t.methods.length*5 by omega);have r1:=(InRow.has HMz.out).free (k*5+1);have r2:=(InRow.has HMz.out).free (k*5+1+1);have r3:=(InRow.has HMz.out).free (k*5+1+2);have Hbz:=dh hbz;clear hbz;go_wp2_with fail;go_roundw
             case rel =>
              have hxlo:wr.heap.size<=xb:=by rw [Hxb.out]; exact Nat.le_refl _
              have hmlo:=HMz.out.lo;have n1:ab≠mk:=by
               obtain ⟨_,_,_,_,_,cur,h1,_⟩:=HA.out;obtain ⟨cur2,h2,_⟩:=HMz.out.row;exact ne_type h1 h2 (by decide)
              have n2:ab≠xb:=by
               obtain ⟨_,_,_,_,_,cur,h1,_⟩:=HA.out;exact ne_type h1 Hbz.out (by decide)
              have n3:ab≠ob:=by
               have h1:=HA.out.2.2.2.1;have h2:=HP.out.ext.size;obtain ⟨cur,h3,_⟩:=HO.out.row;have h4:=row_lt h3;omega
              have hres:-9223372036854775808<=rr/\rr<=9223372036854775807:=by
               have h1:=Meths.mem_ok Hms.out hum;rw [Hrr.out];by_cases hre:0<=u.sig.result
               ·have hpt:=refs_in Hrt.out _ (ref_meth hum (show u.sig.result∈sigRefs u by unfold sigRefs; rw [if_pos hre]; exact List.mem_append_right _ (List.mem_singleton.2 rfl)));have:=(Hfl.out u.sig.result.toNat (by omega)).2;rw [if_pos hre]; omega
               ·rw [if_neg hre]; exact ⟨h1.1,h1.2.1⟩
              have hput:=HMz.out.putMeth hkm (aa:=some ⟨ab,0,none⟩) (al:=u.sig.args.length) (ac:=acap) (ra:=ra) (rl:=u.sig.raises.length) (rc:=rc) (s:=⟨u.sig.args.map fun a=>(f a.toNat:Int),rr,u.sig.raises⟩)
               (ArgI.ints (G:=fun a:Int=>(f a.toNat:Int)) HA.out (by unfold excl; simp only [Bool.and_eq_true,bne_iff_ne,ne_eq]; exact ⟨⟨n1,n2⟩,n3⟩) (by omega)) (Strs.le (HA.out.1.only _) Hsr.out) hres
              refine ⟨k+1,by omega,by go_num,dh ⟨?_,?_,?_⟩⟩
              ·exact (Below.heap_setCell _ _ _ _ Hmn.out.symm).trans ((Below.heap_setCell _ _ _ _ Hmn.out.symm).trans ((Below.heap_setCell _ _ _ _ Hmn.out.symm).trans Hbz.out))
              ·exact InRow.part_set (InRow.part_set (InRow.part_set HPz.out hmlo Hmp.out.symm) hmlo Hmp.out.symm) hmlo Hmp.out.symm
              ·refine InRow.congr hput (fun j hj=>?_);show (if j=k then (⟨(if k<k then relM f (nth t.methods k) else nth t.methods k).name,⟨u.sig.args.map fun a=>(f a.toNat:Int),rr,u.sig.raises⟩,(if k<k then relM f (nth t.methods k) else nth t.methods k).proc⟩:Meth) else if j<k then relM f (nth t.methods j) else nth t.methods j)=_
               by_cases e:j=k
               ·subst e;rw [if_pos rfl,if_neg (Nat.lt_irrefl j),if_pos (Nat.lt_succ_self j),<- Hu.out,Hrr.out]
                rfl
               ·rw [if_neg e];by_cases h2:j<k
                ·rw [if_pos h2,if_pos (by omega)]
                ·rw [if_neg h2,if_neg (by omega)]
             case measure=>simp [intOf]; omega
        ·have hkm:k=t.methods.length:=by omega
         subst hkm;have HM:=dh (InRow.congr HM.out (G:=fun j=>relM f (nth t.methods j)) (fun j hj=>if_pos hj));have hil:i<l.length:=by omega
         obtain ⟨lb,lo,hla,hllt,dl,-⟩:=Ints.at (Ints.mono (HO.out.ext.trans HP.out.ext) Hl.out) hil;rw [(Hfl.out i hin).1] at dl;have hfi:=(Hfl.out i hin).2;have HOz:=dh (HO.out.mono HP.out.ext);have hrow:HasRow wy ob 50 (g.length*10):=by
          obtain ⟨cur,h1,h2,_⟩:=HOz.out.row;exact ⟨cur,h1,by omega⟩
         have hrowd:HasRow wy.drew ob 50 (g.length*10):=hrow.ext (Ext.drew wy);obtain ⟨qd,ed⟩:=hrowd.cell (show f i*10<g.length*10 by omega);have rd:=hrowd.free (f i*10);obtain ⟨q0,e0⟩:=hrow.cell (show f i*10<g.length*10 by omega);have r0:=hrow.free (f i*10);obtain ⟨q1,e1⟩:=hrow.cell (show f i*10+1<g.length*10 by omega);have r1:=hrow.free (f i*10+1);obtain ⟨q2,e2⟩:=hrow.cell (show f i*10+2<g.length*10 by omega);have r2:=hrow.free (f i*10+2);obtain ⟨q3,e3⟩:=hrow.cell (show f i*10+3<g.length*10 by omega);have r3:=hrow.free (f i*10+3);obtain ⟨q4,e4⟩:=hrow.cell (show f i*10+4<g.length*10 by omega);have r4:=hrow.free (f i*10+4);obtain ⟨q5,e5⟩:=hrow.cell (show f i*10+5<g.length*10 by omega);have r5:=hrow.free (f i*10+5);obtain ⟨q6,e6⟩:=hrow.cell (show f i*10+6<g.length*10 by omega);have r6:=hrow.free (f i*10+6);obtain ⟨q7,e7⟩:=hrow.cell (show f i*10+7<g.length*10 by omega);have r7:=hrow.free (f i*10+7);obtain ⟨q8,e8⟩:=hrow.cell (show f i*10+8<g.length*10 by omega);have r8:=hrow.free (f i*10+8);obtain ⟨q9,e9⟩:=hrow.cell (show f i*10+9<g.length*10 by omega);have r9:=hrow.free (f i*10+9);clear hllt b8;obtain ⟨b0,b1,b2,b3,b4,b5,b6,b7,b8,b9⟩:=tyBox_of HB.out;have HX:=dh (show TurnO w (setL wy.drew ob (f i*10) (tyCells T1 (.slice (some ⟨pk,0,none⟩) t.parts.length pcap) (.slice (some ⟨mk,0,none⟩) t.methods.length mcap) (.slice oa t.overs.length oc))) ob g.length g f (i+1) by
          refine TurnO.put (HOz.out.mono (Ext.drew wy)) hfi (fun k hk e=>by have:=Hfi.out k i (by omega) hin e; omega) ?_ rfl;have hob:ob<wr.heap.size:=by
           obtain ⟨cur,h1,_⟩:=HO.out.row;exact row_lt h1
          have hpo:pk≠ob:=by have:=HP.out.lo; omega
          have hmo:mk≠ob:=by have:=HM.out.lo; omega
          refine ⟨.slice (some ⟨pk,0,none⟩) t.parts.length pcap,.slice (some ⟨mk,0,none⟩) t.methods.length mcap,.slice oa t.overs.length oc,?_,?_,?_,?_,?_⟩;rotate_left
          ·show Parts (only wy.drew (fun j=>j != ob)) (.slice (some ⟨pk,0,none⟩) t.parts.length pcap) ((nth g i).parts.map (relP f))
           rw [<- Ht.out];obtain ⟨cur,h1,_,h3⟩:=HP.out.row;exact RowF.slice (R:=IsPart) (xs:=t.parts.map (relP f)) (h3.weak fun x cs hx=>hx) (by rw [only_see (by simpa using hpo)]; exact h1) Hpcap.out (by unfold maxBytes; omega) (by rw [List.length_map]) (fun j hj=>by rw [nth_map9 _ _ hj])
          ·show Meths (only wy.drew (fun j=>j != ob)) (.slice (some ⟨mk,0,none⟩) t.methods.length mcap) ((nth g i).methods.map (relM f))
           rw [<- Ht.out];obtain ⟨cur,h1,_,h3⟩:=HM.out.row;exact RowF.slice (R:=IsMeth) (xs:=t.methods.map (relM f)) (h3.weak fun x cs hx=>IsMeth.le (only_only (w:=wy.drew) (fun j hj=>by unfold excl at hj; simp only [Bool.and_eq_true] at hj; exact hj.2)) hx) (by rw [only_see (by simpa using hmo)]; exact h1) Hmcap.out (by unfold maxBytes; omega) (by rw [List.length_map]) (fun j hj=>by rw [nth_map9 _ _ hj])
          ·show Overs (only wy.drew (fun j=>j != ob)) (.slice oa t.overs.length oc) (nth g i).overs
           rw [<- Ht.out];exact Overs.le (fun a v hc=>cell_only (by have h1:=cell_lt hc; have h2:=HO.out.lo; simp only [bne_iff_ne,ne_eq]; omega) (((HO.out.ext.trans HP.out.ext).trans (Ext.drew wy)).cell hc)) Hos.out
          ·rw [<- Ht.out];exact rel_ok Hok.out (fun hs=>by
            have h1:=right_super Hrt.out hs;have:=(Hfl.out t.super.toNat (by omega)).2;omega)
          ·rw [HT1.out,<- Ht.out]; rfl)
         have HS:=dh (Ext.drew wy);subst hla;clear HM HP HOz hrow hrowd;go_upto_region 26 with (fail);refine wp_region_L [7] (Ext wy) (by kernel_rfl) ?_;change wpL _ _ _ _ _ _ _ _ _ (World.drew _);refine Yp 0 HS.out ?_;refine Yp 1 HS.out ?_;refine Yp 2 HS.out ?_;refine Yp 3 HS.out ?_;refine Yt 4 rfl (fun w9 hE=>by have dlE:=hE.cell dl; clear hE; first | (go_simp; done) | (go_simp; with_reducible rfl)) HS.out ?_;refine Yt 5 rfl (fun w9 hE=>by have b0E:=hE.cell b0; have b1E:=hE.cell b1; have b2E:=hE.cell b2; have b3E:=hE.cell b3; have b4E:=hE.cell b4; have b5E:=hE.cell b5; have b6E:=hE.cell b6; have b7E:=hE.cell b7; have b8E:=hE.cell b8; have b9E:=hE.cell b9; clear hE; first | (go_simp; done) | (go_simp; with_reducible rfl)) HS.out ?_;refine Yp 6 HS.out ?_;refine wpL_only (i:=7) rfl (by kernel_rfl) (fun K hK=>?_);go_simp;refine hK _ _ (fun h=>Bool.noConfusion ((show early _ _=false by kernel_rfl).symm.trans h)) ?_; clear hK K;refine wpL_done (by kernel_rfl) ?_;clear HS b0 b1 b2 b3 b4 b5 b6 b7 b8 b9 dl e0 e1 e2 e3 e4 e5 e6 e7 e8 e9 r0 r1 r2 r3 r4 r5 r6 r7 r8 r9 ed rd HB;go_wp2_with fail;go_roundw
         case rel =>
          refine ⟨i+1,by omega,by go_num,dh ?_⟩;have hx:=HX.out;simp only [tyCells,setL,Nat.add_assoc,Nat.reduceAdd] at hx;simp only [drew_set];exact hx
         case measure=>simp [intOf]; omega
  ·have hin:i=g.length:=by omega
   subst hin;go_wp2_with fail;go_ret;have hsur:∀ j,j<g.length->∃ i,i<g.length/\f i=j:=fun j hj=>onto_of (fun i hi=>(Hfl.out i hi).2) Hfi.out hj;obtain ⟨inv,hinv⟩:∃ inv:Nat->Nat,∀ j,j<g.length->inv j<g.length/\f (inv j)=j:=by
    refine ⟨fun j=>if h:j<g.length then Classical.choose (hsur j h) else 0,fun j hj=>?_⟩;show (if h:j<g.length then Classical.choose (hsur j h) else 0)<g.length/\f (if h:j<g.length then Classical.choose (hsur j h) else 0)=j
    rw [dif_pos hj];exact Classical.choose_spec (hsur j hj)
   have hlen2:((List.range g.length).map fun j=>relT f (nth g (inv j))).length=g.length:=by simp
   have hnth:∀ j,j<g.length->nth ((List.range g.length).map fun j=>relT f (nth g (inv j))) j=relT f (nth g (inv j)):=fun j hj=>by
    rw [nth_eq (by rw [hlen2]; exact hj)]; simp
   refine ⟨_,_,(List.range g.length).map fun j=>relT f (nth g (inv j)),rfl,hlen2,fun i hi=>?_,?_,HO.out.ext⟩
   ·obtain ⟨h1,h2⟩:=hinv (f i) (Hfl.out i hi).2;rw [hnth _ (Hfl.out i hi).2,Hfi.out _ _ h1 hi h2]
   ·obtain ⟨cur,h1,h2,h3⟩:=HO.out.row;refine RowF.slice (R:=IsTy) (F:=fun j=>relT f (nth g (inv j))) (fun j hj=>?_) h1 (Nat.le_refl _) (by unfold maxBytes; omega) hlen2 (fun j hj=>(hnth j hj).symm);obtain ⟨k1,k2⟩:=hinv j hj;obtain ⟨cs,a1,a2,a3⟩:=h3 (inv j) k1;rw [k2] at a3;exact ⟨cs,IsTy.le (only_le _ _) a1,a2,a3⟩
end Go.Proofs.YtjffkeoajkhbmaaGreat
