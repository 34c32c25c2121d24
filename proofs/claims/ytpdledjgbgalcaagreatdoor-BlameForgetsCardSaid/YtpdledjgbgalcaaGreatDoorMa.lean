/- Words of our own, over whatever program: slices that read as lists; rows that the call owns; laws in their terms. Words of our own, over whatever program: slices whose elements take several cells. wire.Writer. Words over whatever program: a string's bytes appended to bytes that the call owns. Bytes turned to a string; a block of bytes taken. wire.Writer: Text, Sum. wire.Writer: Bytes. -/
import Derived.WalkKit
import Derived.WalkSpells
import Derived.WalkLawsBesides
import Derived.Lib.Hide
import Derived.Deep.QuietTactic
import Derived.BigQuiet
import Derived.Deep.RegionHeld3
import Derived.Deep.DeepCutAuto
import Derived.Deep.LoopGhost
import Derived.Deep.AppendLies
import Derived.Laws.CopyOwn
import Derived.Deep.WholeRow
import Derived.StillTailTactics
import Derived.Test.YtpdledjgbgalcaaGreatDoorRows
import Derived.KernelRfl
import Derived.Lib.AppendStr
import Derived.Laws.BytesArg
namespace Go.Proofs.YtpdledjgbgalcaaGreatDoor
set_option maxRecDepth 20000
set_option maxHeartbeats 1000000
open Go.RowKit
set_option linter.unusedVariables false
set_option linter.unusedSimpArgs false
theorem ya2 {a b:Bool} (h:a=b):Ending.returned (.bool a)= .returned (.bool b):=by rw [h]
theorem ret_int {k:IntKind} {a b:Int} (h:a=b):Ending.returned (.int k a)= .returned (.int k b):=by rw [h]
theorem same_of {P:Program} {f:FuncId} {args:Array Value} {w:World} {v:Value}
 (h:Calls P f args w fun e w'=>e= .returned v∧w=w'):Calls P f args w fun e w''=>e= .returned v∧w''=w:=
 h.mono fun _ _ ⟨he,hm⟩=>⟨he,hm.symm⟩
theorem ybn {α:Type} {xs:List α} {k:Nat} (h:k < xs.length):∃z,xs[k]? =some z:=⟨xs[k],List.getElem?_eq_getElem h⟩
theorem ybg {α:Type} {xs:List α} {k:Nat} {z d:α} (h:xs[k]? =some z):xs.getD k d=z:=by simp [List.getD,h]
theorem yba {α:Type} {xs:List α} {k:Nat} {x:α} (h:xs[k]? =some x):xs.take (k+1)=xs.take k++[x]:=by
 obtain ⟨hk,rfl⟩:=List.getElem?_eq_some_iff.1 h;rw [List.take_succ_eq_append_getElem hk]
def At {α:Type} (f:α→Value) (w:World) (b off:Nat) (xs:List α):Prop:=∀k x,xs[k]? =some x→w.cell? ⟨b,off+k,none⟩=some (f x)
def SL {α:Type} (f:α→Value) (w:World) (B:Nat) (A:Option Addr) (xs:List α):Prop:=
 0 < xs.length→∃b off,A=some ⟨b,off,none⟩∧b < B∧At f w b off xs
def Sl {α:Type} (f:α→Value) (w:World) (B:Nat) (A:Option Addr) (n:Nat) (xs:List α):Prop:=xs.length=n∧SL f w B A xs
theorem Sl.up {α:Type} {f:α→Value} {w w':World} {B B' n:Nat} {A:Option Addr} {xs:List α} (h:Sl f w B A n xs) (hb:Below B' w w') (hB:B≤B'):Sl f w' B A n xs:=⟨h.1,fun hn=>by
 obtain ⟨b,off,e,hlt,hc⟩:=h.2 hn
 exact ⟨b,off,e,hlt,fun k x hx=>(hb.cell (Nat.lt_of_lt_of_le hlt hB)).trans (hc k x hx)⟩⟩
theorem Sl.more' {α:Type} {f:α→Value} {w:World} {B B' n:Nat} {A:Option Addr} {xs:List α} (h:Sl f w B A n xs) (hB:B≤B'):Sl f w B' A n xs:=⟨h.1,fun hn=>by
 obtain ⟨b,off,e,hlt,hc⟩:=h.2 hn
 exact ⟨b,off,e,by omega,hc⟩⟩
theorem SL.sl {α:Type} {f:α→Value} {w:World} {B:Nat} {A:Option Addr} {xs:List α} (h:SL f w B A xs):Sl f w B A xs.length xs:=⟨rfl,h⟩
section
variable {α:Type} {f:α→Value} {w w':World} {b off B B':Nat} {A:Option Addr} {xs ys:List α}
theorem At.zero (h:At f w b 0 xs) {k:Nat} {x:α} (hx:xs[k]? =some x):w.cell? ⟨b,k,none⟩=some (f x):=by
 have:=h k x hx
 rwa [Nat.zero_add] at this
theorem At.drewN (h:At f w b off xs) (n:Nat):At f (w.drewN n) b off xs:=h
theorem At.keep (h:At f w b off xs) (hk:w'.heap[b]? =w.heap[b]?):At f w' b off xs:=fun k x hx=>(World.cell?_of_block (w:=w) (by exact hk)).trans (h k x hx)
theorem At.below (h:At f w b off xs) (hb:Below B w w') (hB:b < B):At f w' b off xs:=h.keep (hb.block b hB)
theorem At.of_block {t:TypeId} {fr:Nat × Nat} (h:w.heap[b]? =some (.cells (xs.map f).toArray t fr)):At f w b 0 xs:=fun k x hx=>by
 rw [cell_of_row w b _ _ _ _ h];simp [hx]
theorem SL.nil:SL f w B A []:=fun h=>absurd h (by simp)
theorem SL.at_ (h:SL f w B A xs) {k:Nat} (hk:k < xs.length):∃b off x,A=some ⟨b,off,none⟩∧b < B∧xs[k]? =some x∧w.cell? ⟨b,off+k,none⟩=some (f x):=by
 obtain ⟨b,off,e,hb,hc⟩:=h (by omega);exact ⟨b,off,xs[k],e,hb,List.getElem?_eq_getElem hk,hc k _ (List.getElem?_eq_getElem hk)⟩
theorem SL.up (h:SL f w B A xs) (hb:Below B' w w') (hB:B≤B'):SL f w' B A xs:=fun hn=>by
 obtain ⟨b,off,e,hlt,hc⟩:=h hn;exact ⟨b,off,e,hlt,hc.below hb (by omega)⟩
theorem SL.more (h:SL f w B A xs) (hB:B≤B'):SL f w B' A xs:=fun hn=>by
 obtain ⟨b,off,e,hlt,hc⟩:=h hn;exact ⟨b,off,e,by omega,hc⟩
theorem SL.drewN (h:SL f w B A xs) (n:Nat):SL f (w.drewN n) B A xs:=h
theorem SL.take_ (h:SL f w B A xs) (n:Nat):SL f w B A (xs.take n):=fun hn=>by
 obtain ⟨b,off,e,hlt,hc⟩:=h (by simp at hn;omega);exact ⟨b,off,e,hlt,fun k x hx=>hc k x (by rw [List.getElem?_take] at hx;split at hx<;>simp_all)⟩
theorem SL.cut (h:SL f w B A xs) {n cap:Nat} (hc:xs.length≤cap):SL f w B (if cap=n then A else A.map (·.add n)) (xs.drop n):=fun hn=>by
 have hl:n < xs.length:=by simp at hn;omega
 obtain ⟨b,off,rfl,hlt,hcell⟩:=h (by omega);rw [if_neg (by omega)];refine ⟨b,off+n,by simp [Addr.add_mid],hlt,fun k x hx=>?_⟩;rw [Nat.add_assoc];exact hcell _ x (by rw [←hx,List.getElem?_drop])
theorem SL.cells (h:SL f w B A xs):0 < (xs.map f).length→∃ad,A=some ad∧∀j v,(xs.map f)[j]? =some v→w.cell? (ad.add j)=some v:=fun hn=>by
 obtain ⟨b,off,e,hb,hc⟩:=h (by simpa using hn);refine ⟨_,e,fun j v hv=>?_⟩;obtain ⟨x,hx,rfl⟩:∃x,xs[j]? =some x∧f x=v:=by simpa [List.getElem?_map] using hv
 rw [Addr.add_mid,hc j x hx]
theorem SL.of_block {t:TypeId} {fr:Nat × Nat} {g:Nat} (h:w.heap[g]? =some (.cells (xs.map f).toArray t fr)) (hg:g < B):SL f w B (some ⟨g,0,none⟩) xs:=fun _=>⟨g,0,rfl,hg,At.of_block h⟩
end
def Own {α:Type} (f:α→Value) (e:TypeId) (w:World) (base:Nat) (v:Value) (xs:List α):Prop:=w.ownsRow base e 1 v xs.length (xs.map f)
section
variable {α:Type} {f:α→Value} {e:TypeId} {w w':World} {base B:Nat} {v:Value} {xs ys:List α}
theorem Own.nil:Own f e w base (.slice none 0 0) []:=World.ownsRow_nil w base e 1
theorem Own.alloc (h:Own f e w base v xs) (o:Obj):Own f e (w.alloc o) base v xs:=World.ownsRow.alloc h o
theorem Own.drewN (h:Own f e w base v xs) (n:Nat):Own f e (w.drewN n) base v xs:=h
theorem Own.kept {row:Option Nat} (h:Own f e w base v xs) (hg:w.grownBy w' row) (hne:v.ownBlock=none∨v.ownBlock≠row):Own f e w' base v xs:=World.ownsRow.kept h hg hne
theorem Own.up {B:Nat} (h:Own f e w base v xs) (hb:Below B w w') (hB:∀k,v.ownBlock=some k→k < B):Own f e w' base v xs:=by
 refine ⟨h.1,?_⟩;rcases h.2 with hn |⟨g,cap,cur,rfl,hbg,hgg,rest⟩
 ·exact .inl hn
 ·exact .inr ⟨g,cap,cur,rfl,hbg,(hb.block g (hB g rfl)).trans hgg,rest⟩
theorem Own.on (h:Own f e w base v xs) (hb:Below w.heap.size w w'):Own f e w' base v xs:=h.up hb fun k hk=>(World.ownsRow.lt h k hk).2
theorem Own.shape (h:Own f e w base v xs):∃A c,v= .slice A xs.length c∧xs.length≤c∧SL f w w.heap.size A xs∧(∀g,v.ownBlock=some g→base≤g):=by
 have hlt:=World.ownsRow.lt h;have hcells:= @World.ownsRow.cells w base e 1 v xs.length (xs.map f) h;rcases h.2 with ⟨rfl,hn⟩ |⟨g,cap,cur,rfl,_,hg,hc,hm,_⟩
 ·refine ⟨none,0,by rw [hn],by omega,?_,by simp [Value.ownBlock]⟩
  obtain rfl:xs=[]:=List.eq_nil_of_length_eq_zero hn;exact SL.nil
 ·refine ⟨_,cap,rfl,hc,fun _=>⟨g,0,rfl,(hlt g rfl).2,fun k x hx=>?_⟩,fun g' hg'=>(hlt g' hg').1⟩
  have:=hcells (g:=g) rfl k (f x) (by simp [hx])
  rwa [Addr.add_mid] at this
theorem Own.below {B0:Nat} {w0:World} (h:Own f e w base v xs) (hb:Below B0 w0 w) (hB:B0≤base) (hs:B0≤w.heap.size) (hg:w.grownBy w' v.ownBlock):Below B0 w0 w':=
 hb.grown hg hs fun k hk=>Nat.le_trans hB (World.ownsRow.lt h k hk).1
end
section
variable {P:Program} {w:World} {α:Type} {f:α→Value}
theorem run_app (t ty e:TypeId) (i:TypeInfo) (z:Value) (bytes:Nat) (ht:P.underlying t=some (.slice e)) (hi:P.info? e=some i) (hz:i.zero=some z)
 (hsize:i.size=1) (hby:i.bytes=bytes) (hzs:z.cells.size=1) (v:Value) (xs:List α) (base:Nat) (hown:Own f e w base v xs)
 (A:Option Addr) (m c B:Nat) (ys:List α) (hr:Sl f w B A m ys) (h1:∀y,(f y).oneCell'=true) (hbytes:(xs.length+ys.length)*bytes≤140737488355328) (hmax:xs.length+ys.length≤maxLen) (hbase:base≤w.heap.size):
 ∃v' w',(Builtin.append_ #[t,t] ty #[v,.slice A m c]).run P w= .ok v' w'∧Own f e w' base v' (xs++ys)∧w.grownBy w' v.ownBlock∧
  (v'.ownBlock=v.ownBlock∨v'.ownBlock=some w.heap.size):=by
 obtain ⟨rfl,hr⟩:=hr;rcases A with _ |ad
 ·have hy:ys=[]:=by
   cases ys with
   |nil=>rfl
   |cons y l=>obtain ⟨_,_,hh,_⟩:=hr (by simp);cases hh
  subst hy;refine ⟨v,w,?_,by simpa using hown,World.grownBy.refl w _,.inl rfl⟩;rcases hown.2 with ⟨rfl,h0⟩ |⟨g,cap,cur,rfl,_,_,hnc,_⟩
  ·simp [Builtin.append_,run_underlying ht,sizeOf,typeInfo,hi,Builtin.lenOf,Builtin.firstCells]
  ·simp [Builtin.append_,run_underlying ht,sizeOf,typeInfo,hi,Builtin.lenOf,Builtin.firstCells,hnc,storeCells]
 ·obtain ⟨v',w',h1',h2',h3',_,h5'⟩:=run_append_own_at (P:=P) (w:=w) base t ty e i z 1 bytes ht hi hz hsize hby hzs (by omega) v xs.length (xs.map f) hown ad ys.length c (ys.map f) (by simp)
   (fun j u hu=>by
     have hj:0 < (ys.map f).length:=by have:=(List.getElem?_eq_some_iff.1 hu).1;omega
     obtain ⟨ad',h,hc⟩:=hr.cells hj;injection h with h;subst h
     exact hc j u hu)
   (fun u hu=>by obtain ⟨y,_,rfl⟩:=List.mem_map.1 hu;exact h1 y) hmax hbytes hbase
  refine ⟨v',w',h1',?_,h3',h5'⟩;unfold Own;rw [List.length_append,List.map_append];exact h2'
theorem wp_app {o:Oper} {a:Act} {K:Act→World→Prop} {Q:Exit→Act→World→Prop} (s x:Operand) (t:TypeId)
 (ho:o.op= .call {callee:= .builtin .append,args:=#[s,x],argTypes:=#[t,t]})
 (e:TypeId) (i:TypeInfo) (z:Value) (bytes:Nat) (ht:P.underlying t=some (.slice e)) (hi:P.info? e=some i) (hz:i.zero=some z)
 (hsize:i.size=1) (hby:i.bytes=bytes) (hzs:z.cells.size=1) (v:Value) (xs:List α) (base:Nat) (hs:a.eval s=v) (hown:Own f e w base v xs)
 (A:Option Addr) (m c B:Nat) (ys:List α) (hx:a.eval x= .slice A m c) (hr:Sl f w B A m ys) (h1:∀y,(f y).oneCell'=true) (hbytes:(xs.length+ys.length)*bytes≤140737488355328) (hmax:xs.length+ys.length≤maxLen) (hbase:base≤w.heap.size)
 (h:∀v' w',Own f e w' base v' (xs++ys)→w.grownBy w' v.ownBlock→(v'.ownBlock=v.ownBlock∨v'.ownBlock=some w.heap.size)→K (a.put o.dst v') w'):o.wp P a w K Q:=by
 obtain ⟨v',w',hr,h2,h3,h4⟩:=run_app (P:=P) t o.type e i z bytes ht hi hz hsize hby hzs v xs base hown A m c B ys hr h1 hbytes hmax hbase;unfold Oper.wp execOp;simp only [ho,resolve,invoke,builtin,Sem.run_bind,Sem.run_pure,Result.andThen_ok,List.map_toArray,List.map_cons,List.map_nil,hs,hx,hr];exact h v' w' h2 h3 h4
theorem ya8 {ops:Array Oper} {rest:List Oper} {o:Oper} {a:Act} {Q:Exit→Act→World→Prop} (hgd:o.guard=none) (s x:Operand) (t:TypeId)
 (ho:o.op= .call {callee:= .builtin .append,args:=#[s,x],argTypes:=#[t,t]})
 (e:TypeId) (i:TypeInfo) (z:Value) (bytes:Nat) (ht:P.underlying t=some (.slice e)) (hi:P.info? e=some i) (hz:i.zero=some z)
 (hsize:i.size=1) (hby:i.bytes=bytes) (hzs:z.cells.size=1) (v:Value) (xs:List α) (base:Nat) (hs:a.eval s=v) (hown:Own f e w base v xs)
 (A:Option Addr) (m c B:Nat) (ys:List α) (hx:a.eval x= .slice A m c) (hr:Sl f w B A m ys) (h1:∀y,(f y).oneCell'=true) (hbytes:(xs.length+ys.length)*bytes≤140737488355328) (hmax:xs.length+ys.length≤maxLen) (hbase:base≤w.heap.size)
 (h:∀v' w',Hid (Own f e w' base v' (xs++ys))→Hid (w.grownBy w' v.ownBlock)→Hid (v'.ownBlock=v.ownBlock∨v'.ownBlock=some w.heap.size)→wpList P ops Q rest (a.put o.dst v') w'):wpList P ops Q (o::rest) a w:=
 wpList_plain hgd fun _ hK=>wp_app s x t ho e i z bytes ht hi hz hsize hby hzs v xs base hs hown A m c B ys hx hr h1 hbytes hmax hbase fun v' w' h2 h3 h4=>hK _ _ (h v' w' h2 h3 h4)
theorem ya4 {ops:Array Oper} {rest:List Oper} {o:Oper} {a:Act} {Q:Exit→Act→World→Prop} (hgd:o.guard=none) (s x:Operand) (t:TypeId)
 (ho:o.op= .call {callee:= .builtin .append,args:=#[s,x],argTypes:=#[t,t]})
 (e:TypeId) (i:TypeInfo) (z:Value) (bytes:Nat) (ht:P.underlying t=some (.slice e)) (hi:P.info? e=some i) (hz:i.zero=some z)
 (hsize:i.size=1) (hby:i.bytes=bytes) (hzs:z.cells.size=1) (v:Value) (xs:List α) (base:Nat) (hs:a.eval s=v) (hown:Own f e w base v xs)
 (y:α) (c:Nat) (hx:a.eval x= .slice (some ⟨w.heap.size,0,none⟩) 1 c) (h1:∀y,(f y).oneCell'=true) (hbytes:(xs.length+1)*bytes≤140737488355328) (hmax:xs.length+1≤maxLen) (hbase:base≤w.heap.size)
 (h:∀v' w',Hid (Own f e w' base v' (xs++[y]))→Hid (w.grownBy w' v.ownBlock)→Hid (v'.ownBlock=v.ownBlock∨∃g,v'.ownBlock=some g∧w.heap.size≤g)→wpList P ops Q rest (a.put o.dst v') w'):wpList P ops Q (o::rest) a (w.alloc (.cells #[f y] e)):=
 wpList_plain hgd fun _ hK=>wp_app s x t ho e i z bytes ht hi hz hsize hby hzs v xs base hs (hown.alloc _) _ 1 c _ [y] hx (SL.sl (SL.of_block (t:=e) (fr:=(0,0)) (heap_alloc_new w _) (Nat.lt_succ_self _))) h1 hbytes hmax (by simp;omega)
  fun v' w' h2 h3 h4=>hK _ _ (h v' w' h2 ⟨h3.os,h3.tape,h3.output,Nat.le_trans (by simp) h3.size,fun k hk hne=>(h3.block k (by simp;omega) hne).trans (Below.heap_alloc w _ k hk)⟩ (by
   rcases h4 with h4 |h4
   ·exact .inl h4
   ·exact .inr ⟨_,h4,by simp⟩))
theorem ydx {ops:Array Oper} {rest:List Oper} {o:Oper} {a:Act} {Q:Exit→Act→World→Prop} (hgd:o.guard=none) (ty:TypeId) (x y:Operand) (ho:o.op= .store ty x y)
 (g:Nat) (t:TypeId) (old cells:Array Value) (hx:a.eval x= .pointer (some ⟨g,0,none⟩)) (hy:a.eval y= .agg cells) (hg:w.heap[g]? =some (.cells old t (0,0))) (hi:(P.info? ty).map (·.size)=some cells.size)
 (hs:old.size=cells.size) (h1:cells.all (·.oneCell')=true) (B:Nat) (w0:World) (hb:Below B w0 w) (hB:B≤g)
 (h:∀w',Hid (w'.heap[g]? =some (.cells cells t (0,0)))→Below B w0 w'→Hid (w.grownBy w' (some g))→wpList P ops Q rest (a.put o.dst undef) w'):wpList P ops Q (o::rest) a w:=by
 refine wpList_store_row hgd ty x y ho g cells hx hy t old hg hi hs h1 ?_;exact h _ (setRow_heap w g _ _ t _ hg) (below_setRow hb hB _) ⟨rfl,rfl,rfl,by simp [World.setRow],fun k _ hk=>setRow_other w g k cells (fun e=>hk (by rw [e]))⟩
theorem ya3 {ops:Array Oper} {rest:List Oper} {o:Oper} {a:Act} {Q:Exit→Act→World→Prop} (hgd:o.guard=none) (ty:TypeId) (x y:Operand) (ho:o.op= .store ty x y)
 (t:TypeId) (old cells:Array Value) (hx:a.eval x= .pointer (some ⟨w.heap.size,0,none⟩)) (hy:a.eval y= .agg cells) (hi:(P.info? ty).map (·.size)=some cells.size)
 (hs:old.size=cells.size) (h1:cells.all (·.oneCell')=true)
 (h:wpList P ops Q rest (a.put o.dst undef) (w.alloc (.cells cells t))):wpList P ops Q (o::rest) a (w.alloc (.cells old t)):=by
 refine wpList_store_row hgd ty x y ho w.heap.size cells hx hy t old (heap_alloc_new w _) hi hs h1 ?_;rw [World.setRow_alloc_new];exact h
theorem ydp {fn:Func} {p u:Tmp} {ty:TypeId} (hr:fn.results=#[.cell p ty,.tmp u]) {tmps:Array Value} {g:Nat} {t:TypeId} {cs:Array Value} {fr:Nat × Nat} {n e:Nat}
 (hp:tmps.getD p undef= .pointer (some ⟨g,0,none⟩)) (hg:w.heap[g]? =some (.cells cs t fr)) (hu:P.underlying ty=some (.array n e)) (hi:(P.info? ty).map (·.size)=some cs.size):
 (results fn tmps).run P w= .ok (.tuple #[.agg cs,tmps.getD u undef]) w:=by
 rw [results_cell_tmp hr,hp];simp [asAddr,Result.andThen,run_loadVar_row w g t ty cs fr _ hg hu rfl hi]
end
theorem ycO {P:Program} (t e n:Nat) (i:TypeInfo) (ht:P.underlying t=some (.array n e)) (hi:P.info? e=some i) (g off:Nat) (kh:IntKind) (h:Int) (m:Nat) (hm:h=m) (h2:m≤n) (w:World):
 (Instr.sliceAt t (.pointer (some ⟨g,off,none⟩)) none (some (.int kh h)) none).run P w= .ok (.slice (some ⟨g,off,none⟩) m n) w:=by
 subst hm;simp [Instr.sliceAt,run_underlying ht,Instr.sureAddr,Instr.sliceBounds,run_sliceBound w kh (m:Int) n _ (by omega) (by omega),sizeOf,typeInfo,hi,Addr.add]
theorem ybs {P:Program} (t e:Nat) (i:TypeInfo) (ht:P.underlying t=some (.slice e)) (hi:P.info? e=some i) (A:Option Addr) (n c:Nat) (kh:IntKind) (h:Int) (m:Nat) (hm:h=m) (h2:m≤c) (w:World):
 (Instr.slice t (.slice A n c) none (some (.int kh h)) none).run P w= .ok (.slice A m c) w:=by
 subst hm;have hA:(Option.map (fun a:Addr=>a.add 0) A)=A:=by cases A<;>simp [Addr.add]
 simp [Instr.slice,run_underlying ht,Instr.sliceBounds,run_sliceBound w kh (m:Int) c _ (by omega) (by omega),sizeOf,typeInfo,hi,hA]
theorem yaY {w w':World} {row:Option Nat} {B:Nat} (h:w.grownBy w' row) (hr:∀k,row=some k→B≤k) (hB:B≤w.heap.size):Below B w w':=
 (Below.refl _ _).grown h hB hr
def Slc {α:Type} (f:α→Value) (xs:List α) (w:World) (e:Ending) (w':World):Prop:=
 ∃A n c,e= .returned (.slice A n c)∧n≤c∧Sl f w' w'.heap.size A n xs∧Below w.heap.size w w'
def Slc2 {α:Type} (f:α→Value) (xs:List α) (r:Int) (w:World) (e:Ending) (w':World):Prop:=
 ∃A n c,e= .returned (.tuple #[.slice A n c,.int .i64 r])∧n≤c∧Sl f w' w'.heap.size A n xs∧Below w.heap.size w w'
structure Hd where
 a:Option Addr
 n:Nat
 c:Nat
def fS (h:Hd):Value:= .slice h.a h.n h.c
def SLL {α:Type} (f:α→Value) (w:World) (B:Nat) (A:Option Addr) (n:Nat) (vs:List (List α)):Prop:=
 ∃hs:List Hd,Sl fS w B A n hs∧vs.length=n∧∀(k:Nat) (h:Hd) (v:List α),hs[k]? =some h→vs[k]? =some v→Sl f w B h.a h.n v
theorem SLL.up {α:Type} {f:α→Value} {w w':World} {B B' n:Nat} {A:Option Addr} {vs:List (List α)} (h:SLL f w B A n vs) (hb:Below B' w w') (hB:B≤B'):SLL f w' B A n vs:=by
 obtain ⟨hs,h1,h2,h3⟩:=h;exact ⟨hs,h1.up hb hB,h2,fun k h v hh hv=>(h3 k h v hh hv).up hb hB⟩
theorem SLL.at_ {α:Type} {f:α→Value} {w:World} {B n:Nat} {A:Option Addr} {vs:List (List α)} (h:SLL f w B A n vs) {k:Nat} (hk:k < n):
 ∃b off a m c v,A=some ⟨b,off,none⟩∧b < B∧vs[k]? =some v∧w.cell? ⟨b,off+k,none⟩=some (.slice a m c)∧Sl f w B a m v:=by
 obtain ⟨hs,h1,h2,h3⟩:=h;obtain ⟨b,off,e,hb,hc⟩:=h1.2 (by have:=h1.1;omega);obtain ⟨h,hh⟩:=ybn (xs:=hs) (k:=k) (by have:=h1.1;omega);obtain ⟨v,hv⟩:=ybn (xs:=vs) (k:=k) (by omega);exact ⟨b,off,h.a,h.n,h.c,v,e,hb,hv,hc k h hh,h3 k h v hh hv⟩
abbrev I:=Value.int .i64
theorem I1:∀y,(I y).oneCell'=true:=fun _=>rfl
theorem flat_get {α:Type} {f:α→List Value} {s:Nat} (hs:∀x,(f x).length=s):∀(xs:List α) (k j:Nat) (x:α),xs[k]? =some x→j < s→(xs.flatMap f)[k*s+j]? =(f x)[j]?
 | [],k,j,x,h,_=>by simp at h
 |y::xs,0,j,x,h,hj=>by
  simp at h;subst h;rw [List.flatMap_cons,Nat.zero_mul,Nat.zero_add,List.getElem?_append_left (by rw [hs];exact hj)]
 |y::xs,k+1,j,x,h,hj=>by
  rw [List.flatMap_cons,List.getElem?_append_right (by rw [hs,Nat.succ_mul];omega),hs]
  have:(k+1)*s+j - s=k*s+j:=by rw [Nat.succ_mul];omega
  rw [this];exact flat_get hs xs k j x (by simpa using h) hj
theorem ycB {α:Type} {f:α→List Value} {s:Nat} (hs:∀x,(f x).length=s) (xs:List α):(xs.flatMap f).length=xs.length*s:=by
 induction xs with
 |nil=>simp
 |cons x xs ih=>rw [List.flatMap_cons,List.length_append,hs,ih,List.length_cons,Nat.succ_mul];omega
def AtN {α:Type} (f:α→List Value) (s:Nat) (w:World) (b off:Nat) (xs:List α):Prop:=
 ∀k x,xs[k]? =some x→∀j v,(f x)[j]? =some v→w.cell? ⟨b,off+(k*s+j),none⟩=some v
def SlN {α:Type} (f:α→List Value) (s:Nat) (w:World) (B:Nat) (A:Option Addr) (n:Nat) (xs:List α):Prop:=
 xs.length=n∧(0 < xs.length→∃b off,A=some ⟨b,off,none⟩∧b < B∧AtN f s w b off xs)
section
variable {α:Type} {f:α→List Value} {s:Nat} {w w':World} {b off B B' n:Nat} {A:Option Addr} {xs ys:List α}
theorem AtN.below (h:AtN f s w b off xs) (hb:Below B w w') (hB:b < B):AtN f s w' b off xs:=fun k x hx j v hv=>(hb.cell (p:=⟨b,_,none⟩) hB).trans (h k x hx j v hv)
theorem SlN.up (h:SlN f s w B A n xs) (hb:Below B' w w') (hB:B≤B'):SlN f s w' B A n xs:=⟨h.1,fun hn=>by
 obtain ⟨b,off,e,hlt,hc⟩:=h.2 hn
 exact ⟨b,off,e,hlt,hc.below hb (by omega)⟩⟩
theorem SlN.more (h:SlN f s w B A n xs) (hB:B≤B'):SlN f s w B' A n xs:=⟨h.1,fun hn=>by
 obtain ⟨b,off,e,hlt,hc⟩:=h.2 hn
 exact ⟨b,off,e,by omega,hc⟩⟩
theorem SlN.nil:SlN f s w B A 0 []:=⟨rfl,fun h=>absurd h (by simp)⟩
theorem SlN.at_ (h:SlN f s w B A n xs) {k:Nat} (hk:k < n):∃b off x,A=some ⟨b,off,none⟩∧b < B∧xs[k]? =some x∧∀j v,(f x)[j]? =some v→w.cell? ⟨b,off+(k*s+j),none⟩=some v:=by
 have hk':k < xs.length:=by rw [h.1];exact hk
 obtain ⟨b,off,e,hb,hc⟩:=h.2 (by omega);exact ⟨b,off,xs[k],e,hb,List.getElem?_eq_getElem hk',hc k _ (List.getElem?_eq_getElem hk')⟩
end
def OwnN {α:Type} (f:α→List Value) (s:Nat) (e:TypeId) (w:World) (base:Nat) (v:Value) (xs:List α):Prop:=w.ownsRow base e s v xs.length (xs.flatMap f)
section
variable {α:Type} {f:α→List Value} {s:Nat} {e:TypeId} {w w':World} {base B:Nat} {v:Value} {xs ys:List α}
theorem OwnN.nil:OwnN f s e w base (.slice none 0 0) []:=World.ownsRow_nil w base e s
theorem OwnN.alloc (h:OwnN f s e w base v xs) (o:Obj):OwnN f s e (w.alloc o) base v xs:=World.ownsRow.alloc h o
theorem OwnN.drewN (h:OwnN f s e w base v xs) (n:Nat):OwnN f s e (w.drewN n) base v xs:=h
theorem OwnN.drew (h:OwnN f s e w base v xs):OwnN f s e w.drew base v xs:=h
theorem OwnN.kept {row:Option Nat} (h:OwnN f s e w base v xs) (hg:w.grownBy w' row) (hne:v.ownBlock=none∨v.ownBlock≠row):OwnN f s e w' base v xs:=World.ownsRow.kept h hg hne
theorem OwnN.up {B:Nat} (h:OwnN f s e w base v xs) (hb:Below B w w') (hB:∀k,v.ownBlock=some k→k < B):OwnN f s e w' base v xs:=by
 refine ⟨h.1,?_⟩;rcases h.2 with hn |⟨g,cap,cur,rfl,hbg,hgg,rest⟩
 ·exact .inl hn
 ·exact .inr ⟨g,cap,cur,rfl,hbg,(hb.block g (hB g rfl)).trans hgg,rest⟩
theorem OwnN.on (h:OwnN f s e w base v xs) (hb:Below w.heap.size w w'):OwnN f s e w' base v xs:=h.up hb fun k hk=>(World.ownsRow.lt h k hk).2
theorem OwnN.shape (hs:∀x,(f x).length=s) (h:OwnN f s e w base v xs):∃A c,v= .slice A xs.length c∧xs.length≤c∧SlN f s w w.heap.size A xs.length xs∧(∀g,v.ownBlock=some g→base≤g):=by
 have hlt:=World.ownsRow.lt h;have hcells:= @World.ownsRow.cells w base e s v xs.length (xs.flatMap f) h;rcases h.2 with ⟨rfl,hn⟩ |⟨g,cap,cur,rfl,_,hg,hc,hm,_⟩
 ·refine ⟨none,0,by rw [hn],by omega,?_,by simp [Value.ownBlock]⟩
  obtain rfl:xs=[]:=List.eq_nil_of_length_eq_zero hn;exact SlN.nil
 ·refine ⟨_,cap,rfl,hc,⟨rfl,fun _=>⟨g,0,rfl,(hlt g rfl).2,fun k x hx j u hu=>?_⟩⟩,fun g' hg'=>(hlt g' hg').1⟩
  have hj:j < s:=by have:=(List.getElem?_eq_some_iff.1 hu).1;rw [hs] at this;exact this
  have:=hcells (g:=g) rfl (k*s+j) u (by rw [flat_get hs xs k j x hx hj];exact hu)
  rwa [Addr.add_mid] at this
theorem OwnN.below {B0:Nat} {w0:World} (h:OwnN f s e w base v xs) (hb:Below B0 w0 w) (hB:B0≤base) (hs:B0≤w.heap.size) (hg:w.grownBy w' v.ownBlock):Below B0 w0 w':=
 hb.grown hg hs fun k hk=>Nat.le_trans hB (World.ownsRow.lt h k hk).1
end
section
variable {P:Program} {w:World} {α:Type} {f:α→List Value} {s:Nat}
theorem run_appN (hs:∀x,(f x).length=s) (hs0:0 < s) (t ty e:TypeId) (i:TypeInfo) (z:Value) (bytes:Nat) (ht:P.underlying t=some (.slice e)) (hi:P.info? e=some i) (hz:i.zero=some z)
 (hsize:i.size=s) (hby:i.bytes=bytes) (hzs:z.cells.size=s) (v:Value) (xs:List α) (base:Nat) (hown:OwnN f s e w base v xs)
 (A:Option Addr) (m c B:Nat) (ys:List α) (hr:SlN f s w B A m ys) (h1:∀y,∀u∈f y,u.oneCell'=true) (hbytes:(xs.length+m)*bytes≤140737488355328) (hmax:xs.length+m≤maxLen) (hbase:base≤w.heap.size):
 ∃v' w',(Builtin.append_ #[t,t] ty #[v,.slice A m c]).run P w= .ok v' w'∧OwnN f s e w' base v' (xs++ys)∧w.grownBy w' v.ownBlock∧
  (v'.ownBlock=v.ownBlock∨v'.ownBlock=some w.heap.size):=by
 obtain ⟨rfl,hr⟩:=hr;rcases A with _ |ad
 ·have hy:ys=[]:=by
   cases ys with
   |nil=>rfl
   |cons y l=>obtain ⟨_,_,hh,_⟩:=hr (by simp);cases hh
  subst hy;refine ⟨v,w,?_,by simpa using hown,World.grownBy.refl w _,.inl rfl⟩;rcases hown.2 with ⟨rfl,h0⟩ |⟨g,cap,cur,rfl,_,_,hnc,_⟩
  ·simp [Builtin.append_,run_underlying ht,sizeOf,typeInfo,hi,Builtin.lenOf,Builtin.firstCells]
  ·simp [Builtin.append_,run_underlying ht,sizeOf,typeInfo,hi,Builtin.lenOf,Builtin.firstCells,hnc,storeCells]
 ·obtain ⟨v',w',h1',h2',h3',_,h5'⟩:=run_append_own_at (P:=P) (w:=w) base t ty e i z s bytes ht hi hz hsize hby hzs hs0 v xs.length (xs.flatMap f) hown ad ys.length c (ys.flatMap f) (ycB hs ys)
   (fun j u hu=>by
     have hj:j < ys.length*s:=by have:=(List.getElem?_eq_some_iff.1 hu).1;rw [ycB hs] at this;exact this
     have hys:0 < ys.length:=by
      rcases Nat.eq_zero_or_pos ys.length with h0 |h0
      ·rw [h0] at hj;omega
      ·exact h0
     obtain ⟨b,off,h,_,hc⟩:=hr hys;injection h with h;subst h;have hk:j / s < ys.length:=Nat.div_lt_of_lt_mul (by rwa [Nat.mul_comm]);have hjs:j / s*s+j % s=j:=by rw [Nat.mul_comm];exact Nat.div_add_mod j s
     have hm:=Nat.mod_lt j hs0;rw [Addr.add_mid];have hg:=flat_get hs ys (j / s) (j % s) ys[j / s] (List.getElem?_eq_getElem hk) hm;rw [hjs] at hg
     have:=hc (j / s) _ (List.getElem?_eq_getElem hk) (j % s) u (by rw [←hg];exact hu)
     rwa [hjs] at this)
   (fun u hu=>by obtain ⟨y,_,hy⟩:=List.mem_flatMap.1 hu;exact h1 y u hy) hmax hbytes hbase
  refine ⟨v',w',h1',?_,h3',h5'⟩;unfold OwnN;rw [List.length_append,List.flatMap_append];exact h2'
theorem wp_appN (hs:∀x,(f x).length=s) (hs0:0 < s) {o:Oper} {a:Act} {K:Act→World→Prop} {Q:Exit→Act→World→Prop} (sl x:Operand) (t:TypeId)
 (ho:o.op= .call {callee:= .builtin .append,args:=#[sl,x],argTypes:=#[t,t]})
 (e:TypeId) (i:TypeInfo) (z:Value) (bytes:Nat) (ht:P.underlying t=some (.slice e)) (hi:P.info? e=some i) (hz:i.zero=some z)
 (hsize:i.size=s) (hby:i.bytes=bytes) (hzs:z.cells.size=s) (v:Value) (xs:List α) (base:Nat) (hsl:a.eval sl=v) (hown:OwnN f s e w base v xs)
 (A:Option Addr) (m c B:Nat) (ys:List α) (hx:a.eval x= .slice A m c) (hr:SlN f s w B A m ys) (h1:∀y,∀u∈f y,u.oneCell'=true) (hbytes:(xs.length+m)*bytes≤140737488355328) (hmax:xs.length+m≤maxLen) (hbase:base≤w.heap.size)
 (h:∀v' w',OwnN f s e w' base v' (xs++ys)→w.grownBy w' v.ownBlock→(v'.ownBlock=v.ownBlock∨v'.ownBlock=some w.heap.size)→K (a.put o.dst v') w'):o.wp P a w K Q:=by
 obtain ⟨v',w',hr,h2,h3,h4⟩:=run_appN (P:=P) hs hs0 t o.type e i z bytes ht hi hz hsize hby hzs v xs base hown A m c B ys hr h1 hbytes hmax hbase;unfold Oper.wp execOp;simp only [ho,resolve,invoke,builtin,Sem.run_bind,Sem.run_pure,Result.andThen_ok,List.map_toArray,List.map_cons,List.map_nil,hsl,hx,hr];exact h v' w' h2 h3 h4
theorem wpList_appN (hs:∀x,(f x).length=s) (hs0:0 < s) {ops:Array Oper} {rest:List Oper} {o:Oper} {a:Act} {Q:Exit→Act→World→Prop} (hgd:o.guard=none) (sl x:Operand) (t:TypeId)
 (ho:o.op= .call {callee:= .builtin .append,args:=#[sl,x],argTypes:=#[t,t]})
 (e:TypeId) (i:TypeInfo) (z:Value) (bytes:Nat) (ht:P.underlying t=some (.slice e)) (hi:P.info? e=some i) (hz:i.zero=some z)
 (hsize:i.size=s) (hby:i.bytes=bytes) (hzs:z.cells.size=s) (v:Value) (xs:List α) (base:Nat) (hsl:a.eval sl=v) (hown:OwnN f s e w base v xs)
 (A:Option Addr) (m c B:Nat) (ys:List α) (hx:a.eval x= .slice A m c) (hr:SlN f s w B A m ys) (h1:∀y,∀u∈f y,u.oneCell'=true) (hbytes:(xs.length+m)*bytes≤140737488355328) (hmax:xs.length+m≤maxLen) (hbase:base≤w.heap.size)
 (h:∀v' w',Hid (OwnN f s e w' base v' (xs++ys))→Hid (w.grownBy w' v.ownBlock)→Hid (v'.ownBlock=v.ownBlock∨v'.ownBlock=some w.heap.size)→wpList P ops Q rest (a.put o.dst v') w'):wpList P ops Q (o::rest) a w:=
 wpList_plain hgd fun _ hK=>wp_appN hs hs0 sl x t ho e i z bytes ht hi hz hsize hby hzs v xs base hsl hown A m c B ys hx hr h1 hbytes hmax hbase fun v' w' h2 h3 h4=>hK _ _ (h v' w' h2 h3 h4)
theorem ybP (hs:∀x,(f x).length=s) (hs0:0 < s) {ops:Array Oper} {rest:List Oper} {o:Oper} {a:Act} {Q:Exit→Act→World→Prop} (hgd:o.guard=none) (sl x:Operand) (t:TypeId)
 (ho:o.op= .call {callee:= .builtin .append,args:=#[sl,x],argTypes:=#[t,t]})
 (e:TypeId) (i:TypeInfo) (z:Value) (bytes:Nat) (ht:P.underlying t=some (.slice e)) (hi:P.info? e=some i) (hz:i.zero=some z)
 (hsize:i.size=s) (hby:i.bytes=bytes) (hzs:z.cells.size=s) (v:Value) (xs:List α) (base:Nat) (hsl:a.eval sl=v) (hown:OwnN f s e w base v xs)
 (y:α) (c:Nat) (hx:a.eval x= .slice (some ⟨w.heap.size,0,none⟩) 1 c) (h1:∀y,∀u∈f y,u.oneCell'=true) (hbytes:(xs.length+1)*bytes≤140737488355328) (hmax:xs.length+1≤maxLen) (hbase:base≤w.heap.size)
 (h:∀v' w',Hid (OwnN f s e w' base v' (xs++[y]))→Hid (w.grownBy w' v.ownBlock)→Hid (v'.ownBlock=v.ownBlock∨∃g,v'.ownBlock=some g∧w.heap.size≤g)→wpList P ops Q rest (a.put o.dst v') w'):wpList P ops Q (o::rest) a (w.alloc (.cells (f y).toArray e)):=
 wpList_plain hgd fun _ hK=>wp_appN hs hs0 sl x t ho e i z bytes ht hi hz hsize hby hzs v xs base hsl (hown.alloc _) _ 1 c (w.heap.size+1) [y] hx
  ⟨rfl,fun _=>⟨w.heap.size,0,rfl,Nat.lt_succ_self _,fun k y' hy j u hu=>by
    have hk:k=0:=by have:=(List.getElem?_eq_some_iff.1 hy).1;simp at this;exact this
    subst hk;simp at hy;subst hy
    rw [cell_of_row _ _ _ _ _ _ (heap_alloc_new w _),Nat.zero_mul,Nat.zero_add,Nat.zero_add,List.getElem?_toArray];exact hu⟩⟩ h1 hbytes hmax (by simp;omega)
  fun v' w' h2 h3 h4=>hK _ _ (h v' w' h2 ⟨h3.os,h3.tape,h3.output,Nat.le_trans (by simp) h3.size,fun k hk hne=>(h3.block k (by simp;omega) hne).trans (Below.heap_alloc w _ k hk)⟩ (by
   rcases h4 with h4 |h4
   ·exact .inl h4
   ·exact .inr ⟨_,h4,by simp⟩))
end
theorem SlN.of_block {α:Type} {f:α→List Value} {s:Nat} {w:World} {g B:Nat} {t:TypeId} {fr:Nat × Nat} {y:α} (h:w.heap[g]? =some (.cells (f y).toArray t fr)) (hB:g < B):SlN f s w B (some ⟨g,0,none⟩) 1 [y]:=
 ⟨rfl,fun _=>⟨g,0,rfl,hB,fun k y' hy j u hu=>by
     have hk:k=0:=by have:=(List.getElem?_eq_some_iff.1 hy).1;simp at this;exact this
     subst hk;simp at hy;subst hy
     rw [cell_of_row _ _ _ _ _ _ h,Nat.zero_mul,Nat.zero_add,Nat.zero_add,List.getElem?_toArray];exact hu⟩⟩
theorem Tryz.infoB:(Tryz.prog.info? 5).map (fun i=>(i.zero,i.size,i.bytes))=some (some (.int .u8 0),1,1):=by kernel_rfl
abbrev fB:=Value.int .u8
theorem fB1:∀y,(fB y).oneCell'=true:=fun _=>rfl
structure But (p:Nat→Prop) (w w':World):Prop where
 os:w'.os=w.os
 tape:w'.tape=w.tape
 output:w'.output=w.output
 size:w.heap.size≤w'.heap.size
 block:∀k,k < w.heap.size→¬p k→w'.heap[k]? =w.heap[k]?
theorem But.refl (p:Nat→Prop) (w:World):But p w w:=⟨rfl,rfl,rfl,Nat.le_refl _,fun _ _ _=>rfl⟩
theorem But.trans {p q:Nat→Prop} {a b c:World} (h:But p a b) (k:But q b c) (hq:∀i,q i→p i∨a.heap.size≤i):But p a c:=
 ⟨k.os.trans h.os,k.tape.trans h.tape,k.output.trans h.output,Nat.le_trans h.size k.size,fun i hi hp=>(k.block i (Nat.lt_of_lt_of_le hi h.size) (fun hqi=>by
   rcases hq i hqi with h' |h'
   ·exact hp h'
   ·omega)).trans (h.block i hi hp)⟩
theorem But.alloc {p:Nat→Prop} {a b:World} (h:But p a b) (o:Obj):But p a (b.alloc o):=
 ⟨h.os,h.tape,h.output,Nat.le_trans h.size (by simp),fun i hi hp=>(Below.heap_alloc b o i (Nat.lt_of_lt_of_le hi h.size)).trans (h.block i hi hp)⟩
theorem But.setCell {p:Nat→Prop} {a b:World} (h:But p a b) {x:Addr} (hx:p x.block∨a.heap.size≤x.block) (u:Value):But p a (b.setCell x u):=
 ⟨h.os,h.tape,h.output,Nat.le_trans h.size (by simp [World.setCell]),fun i hi hp=>(Below.heap_setCell b x u i (fun e=>by
   subst e;rcases hx with h' |h'
   ·exact hp h'
   ·omega)).trans (h.block i hi hp)⟩
theorem But.drewN {p:Nat→Prop} {a b:World} (h:But p a b) (n:Nat):But p a (b.drewN n):=⟨h.os,h.tape,h.output,h.size,h.block⟩
theorem But.grown {p:Nat→Prop} {a b c:World} (h:But p a b) {row:Option Nat} (hg:b.grownBy c row) (hr:∀k,row=some k→p k∨a.heap.size≤k):But p a c:=
 h.trans (q:=fun k=>row=some k) ⟨hg.os,hg.tape,hg.output,hg.size,fun k hk hn=>hg.block k hk (fun e=>hn e.symm)⟩ hr
theorem But.of_below {p:Nat→Prop} {a b:World} (h:Below a.heap.size a b):But p a b:=⟨h.os,h.tape,h.output,h.size,fun k hk _=>h.block k hk⟩
theorem But.mono {p q:Nat→Prop} {a b:World} (h:But p a b) (hq:∀i,p i→q i∨a.heap.size≤i):But q a b:=
 ⟨h.os,h.tape,h.output,h.size,fun i hi hn=>h.block i hi (fun hp=>by
   rcases hq i hp with h' |h'
   ·exact hn h'
   ·omega)⟩
theorem But.below {p:Nat→Prop} {a b:World} {B:Nat} (h:But p a b) (hB:B≤a.heap.size) (hp:∀i,p i→B≤i):Below B a b:=
 ⟨h.os,h.tape,h.output,h.size,fun i hi=>h.block i (by omega) (fun hpi=>by have:=hp i hpi;omega)⟩
theorem SL.but {α:Type} {f:α→Value} {w w':World} {B:Nat} {A:Option Addr} {xs:List α} {p:Nat→Prop} (h:SL f w B A xs) (hb:But p w w') (hB:B≤w.heap.size) (hA:∀a,A=some a→¬p a.block):SL f w' B A xs:=fun hn=>by
 obtain ⟨b,off,e,hlt,hc⟩:=h hn;exact ⟨b,off,e,hlt,hc.keep (hb.block b (by omega) (hA _ e))⟩
def encF:Nat→Nat→List Int
 |0,_=>[]
 |k+1,n=>if n < 128 then [(n:Int)] else ((n % 128+128:Nat):Int)::encF k (n / 128)
def enc (n:Nat):List Int:=encF 10 n
theorem encF_len (k n:Nat):(encF k n).length≤k:=by
 induction k generalizing n with
 |zero=>exact Nat.le_refl _
 |succ k ih=>
  unfold encF
  split
  ·simp
  ·have:=ih (n / 128);simp only [List.length_cons];omega
theorem ya1 (n:Nat):(enc n).length≤10:=encF_len 10 n
theorem or128 (n:Nat):bits .or .u8 ((n:Int) % 256) 128=(n:Int) % 128+128:=by
 have h1:((n:Int) % 256)=((n % 256:Nat):Int):=by omega
 have h2:n % 256 < 256:=Nat.mod_lt _ (by omega)
 have key:∀a:Nat,a < 256→bits .or .u8 ((a:Nat):Int) 128=((a % 128+128:Nat):Int):=by
  intro a ha;have hall:∀a:Fin 256,bits .or .u8 ((a.val:Nat):Int) 128=((a.val % 128+128:Nat):Int):=by decide+kernel
  exact hall ⟨a,ha⟩
 rw [h1,key _ h2];omega
theorem yb7 (v:Value) (bs:List Int) (n:Nat) (w:World) (base:Nat) (hown:Own fB 5 w base v bs) (hbase:base≤w.heap.size) (hn:n < 18446744073709551616) (hlen:bs.length≤1099511627776):
 Calls Tryz.prog 135 #[v,.int .u64 n] w fun e w'=>∃v',e= .returned v'∧Own fB 5 w' base v' (bs++enc n)∧But (fun k=>v.ownBlock=some k) w w'∧(v'.ownBlock=v.ownBlock∨∃g,v'.ownBlock=some g∧w.heap.size≤g):=by
 obtain ⟨i0,hi,hz0,hz1,hz2⟩:=info_parts Tryz.infoB;have HI:=Lib.hid hi;have HZ0:=Lib.hid hz0;have HZ1:=Lib.hid hz1;have HZ2:=Lib.hid hz2;clear hi hz0 hz1 hz2;have hn10:Hid (n < 128 ^ 10):=by show _ < _;omega
 clear hn;go_enter Tryz.func135,Tryz.ntmps135;go_wp2
 go_loopw [0,1] (fun u i wr=>∃(k m:Nat) (out:List Int),i= .int .u64 m∧Hid (m < 128 ^ k)∧0 < k∧k≤10∧out.length+k≤10∧Hid (out++encF k m=enc n)∧Hid (Own fB 5 wr base u (bs++out))∧Hid (But (fun k=>v.ownBlock=some k) w wr)∧Hid (u.ownBlock=v.ownBlock∨∃g,u.ownBlock=some g∧w.heap.size≤g)) (fun _ i _=>(intOf i).toNat)
 case atStart=>exact ⟨10,n,[],rfl,hn10,by omega,by omega,by simp,by show _=_;rfl,by show Own _ _ _ _ _ _;rw [List.append_nil];exact hown,But.refl _ _,.inl rfl⟩
 case round=>
  obtain ⟨k,m,out,rfl,HM,hk1,hk,hol,HE,HO,HB,HV⟩:=hrel;have HL1:Hid (((bs++out).length+1)*1≤140737488355328):=by show _≤_;rw [List.length_append];omega
  have HL2:Hid ((bs++out).length+1≤maxLen):=by show _≤_;rw [List.length_append];unfold maxLen;omega
  have HS:Hid (base≤wr.heap.size):=by show _≤_;have:=HB.out.size;omega
  have HKB:Hid (∀W V',wr.grownBy W u0.ownBlock→(V'=u0.ownBlock∨∃g,V'=some g∧wr.heap.size≤g)→But (fun k=>v.ownBlock=some k) w W∧(V'=v.ownBlock∨∃g,V'=some g∧w.heap.size≤g)):=fun W V' hg hv'=>by
   refine ⟨HB.out.grown hg fun k hk=>?_,?_⟩
   ·rcases HV.out with h |⟨g,h,hg'⟩
    ·exact .inl (by rw [←h];exact hk)
    ·right;rw [h] at hk;injection hk with hk;omega
   ·rcases hv' with h |⟨g,h,hg'⟩
    ·rw [h];exact HV.out
    ·exact .inr ⟨g,h,by have:=HB.out.size;omega⟩
  obtain ⟨k,rfl⟩:∃k',k=k'+1:=⟨k - 1,by omega⟩
  by_cases hge:128≤m
  ·have hor:=or128 m
   have HM2:Hid (m / 128 < 128 ^ k):=by show _ < _;have:=HM.out;rw [Nat.pow_succ] at this;omega
   have hk0:0 < k:=by
    have:=HM2.out
    rcases k with _ |k
    ·rw [Nat.pow_zero] at this;omega
    ·omega
   have HE2:Hid ((out++[(m:Int) % 128+128])++encF k (m / 128)=enc n):=by
    show _=_
    rw [←HE.out,encF,if_neg (by omega),List.append_assoc]
    congr 1
   go_wp2_with (with_reducible refine ya4 (o:=⟨some 12,_,_,_,_,_⟩) rfl (.tmp 7) (.tmp 11) 40 rfl 5 i0 (.int .u8 0) 1 Tryz.underlying40 HI.out HZ0.out HZ1.out HZ2.out rfl _ (bs++out) base rfl HO.out ((m:Int) % 128+128) 1 rfl fB1 HL1.out HL2.out HS.out ?_;intro v1 w1 HO1 HG1 HV1)
   go_roundw
   case rel=>exact ⟨k,m / 128,out++[(m:Int) % 128+128],by first |rfl |go_num,HM2,hk0,by omega,by rw [List.length_append];simp only [List.length_cons,List.length_nil];omega,HE2,by show Own _ _ _ _ _ _;rw [←List.append_assoc];exact HO1.out,(HKB.out _ _ HG1.out HV1.out).1,(HKB.out _ _ HG1.out HV1.out).2⟩
   case measure=>simp [intOf];omega
  ·have hmm:(m:Int) % 256=m:=by omega
   have HE2:Hid (out++[(m:Int)]=enc n):=by
    show _=_
    rw [←HE.out,encF,if_pos (by omega)]
   go_wp2_with (with_reducible refine ya4 (o:=⟨some 19,_,_,_,_,_⟩) rfl (.tmp 15) (.tmp 18) 40 rfl 5 i0 (.int .u8 0) 1 Tryz.underlying40 HI.out HZ0.out HZ1.out HZ2.out rfl _ (bs++out) base rfl HO.out (m:Int) 1 rfl fB1 HL1.out HL2.out HS.out ?_;intro v1 w1 HO1 HG1 HV1)
   go_ret;exact ⟨v1,rfl,by rw [←HE2.out,←List.append_assoc];exact HO1.out,(HKB.out _ _ HG1.out HV1.out).1,(HKB.out _ _ HG1.out HV1.out).2⟩
def foot (g:Nat) (v:Value) (k:Nat):Prop:=k=g∨v.ownBlock=some k
def NewRow (v v':Value) (w:World):Prop:=v'.ownBlock=v.ownBlock∨∃k,v'.ownBlock=some k∧w.heap.size≤k
def Wr (w:World) (g base:Nat) (v:Value) (bs:List Int):Prop:=w.heap[g]? =some (.cells #[v,.int .i64 0] 217 (0,0))∧Own fB 5 w base v bs∧base≤w.heap.size
def WPost (g base:Nat) (v:Value) (bs:List Int) (w:World) (e:Ending) (w':World):Prop:=
 ∃v',e= .returned (.tuple #[])∧Wr w' g base v' bs∧But (foot g v) w w'∧NewRow v v' w
theorem Own.ne_of {w:World} {base g:Nat} {v:Value} {bs:List Int} {cs:Array Value} {t e:TypeId} (h:Own fB e w base v bs) (hg:w.heap[g]? =some (.cells cs t (0,0))) (hne:e≠t):v.ownBlock≠some g:=by
 rcases h.2 with ⟨rfl,_⟩ |⟨g',cap,cur,rfl,_,hh,_⟩
 ·simp [Value.ownBlock]
 ·intro he
  have:g'=g:=by simpa [Value.ownBlock] using he
  subst this;rw [hg] at hh;injection hh with hh;injection hh with _ ht;exact hne ht.symm
theorem NewRow.trans {v v' v'':Value} {w w':World} (h:NewRow v v' w) (k:NewRow v' v'' w') (hs:w.heap.size≤w'.heap.size):NewRow v v'' w:=by
 rcases k with k |⟨i,k,hi⟩
 ·rcases h with h |⟨j,h,hj⟩
  ·exact .inl (k.trans h)
  ·exact .inr ⟨j,k.trans h,hj⟩
 ·exact .inr ⟨i,k,by omega⟩
theorem foot_step {g:Nat} {v v':Value} {w:World} (h:NewRow v v' w):∀i,foot g v' i→foot g v i∨w.heap.size≤i:=fun i hi=>by
 rcases hi with rfl |hi
 ·exact .inl (.inl rfl)
 ·rcases h with h |⟨k,h,hk⟩
  ·exact .inl (.inr (by rw [←h];exact hi))
  ·right;rw [h] at hi;injection hi with hi;omega
theorem But.wr {g:Nat} {v v':Value} {a b c:World} (h:But (foot g v) a b) (hn:NewRow v v' a) (k:But (foot g v') b c):But (foot g v) a c:=h.trans k (foot_step hn)
theorem Own.but {w w':World} {base:Nat} {e:TypeId} {v:Value} {bs:List Int} {p:Nat→Prop} (h:Own fB e w base v bs) (hb:But p w w') (hv:∀k,v.ownBlock=some k→¬p k):Own fB e w' base v bs:=
 ⟨h.1,by
   rcases h.2 with hn |⟨g',cap,cur,rfl,hbg,hgg,rest⟩
   ·exact .inl hn
   ·exact .inr ⟨g',cap,cur,rfl,hbg,(hb.block g' (lt_of_block hgg) (hv g' rfl)).trans hgg,rest⟩⟩
theorem Wr.but {w w':World} {g base:Nat} {v:Value} {bs:List Int} {p:Nat→Prop} (h:Wr w g base v bs) (hb:But p w w') (hg:¬p g) (hv:∀k,v.ownBlock=some k→¬p k):Wr w' g base v bs:=
 ⟨(hb.block g (lt_of_block h.1) hg).trans h.1,⟨h.2.1.1,by
   rcases h.2.1.2 with hn |⟨g',cap,cur,rfl,hbg,hgg,rest⟩
   ·exact .inl hn
   ·exact .inr ⟨g',cap,cur,rfl,hbg,(hb.block g' (lt_of_block hgg) (hv g' rfl)).trans hgg,rest⟩⟩,Nat.le_trans h.2.2 hb.size⟩
theorem Wr.alloc {w:World} {g base:Nat} {v:Value} {bs:List Int} (h:Wr w g base v bs) (o:Obj):Wr (w.alloc o) g base v bs:=
 ⟨(Below.heap_alloc w o g (lt_of_block h.1)).trans h.1,h.2.1.alloc o,Nat.le_trans h.2.2 (by simp)⟩
theorem Wr.on {w w':World} {g base:Nat} {v:Value} {bs:List Int} (h:Wr w g base v bs) (hb:Below w.heap.size w w'):Wr w' g base v bs:=
 ⟨(hb.block g (lt_of_block h.1)).trans h.1,h.2.1.on hb,Nat.le_trans h.2.2 hb.size⟩
theorem ybR (w:World):Calls Tryz.prog 72 #[] w fun e w'=>e= .returned (.pointer (some ⟨w.heap.size,0,none⟩))∧w.alloc (.cells #[.slice none 0 0,.int .i64 0] 217)=w':=by
 go_enter Tryz.func72,Tryz.ntmps72;go_wp2;go_ret;exact ⟨rfl,rfl⟩
theorem Wr.new (w:World):Wr (w.alloc (.cells #[.slice none 0 0,.int .i64 0] 217)) w.heap.size (w.heap.size+1) (.slice none 0 0) []:=⟨heap_alloc_new w _,Own.nil,by simp⟩
theorem ybp (g base:Nat) (v:Value) (bs:List Int) (n:Nat) (w:World) (hw:Wr w g base v bs) (hn:n < 18446744073709551616) (hlen:bs.length≤1099511627776):
 Calls Tryz.prog 73 #[.pointer (some ⟨g,0,none⟩),.int .u64 n] w (WPost g base v (bs++enc n) w):=by
 obtain ⟨hg,hown,hbase⟩:=hw;have h0:=cell_of_row w g 0 _ _ _ hg;have h1:=cell_of_row w g 1 _ _ _ hg;simp at h0 h1;have HC:=Lib.hid (yb7 v bs n w base hown hbase hn hlen);have HG:=Lib.hid hg;have HNE:Hid (v.ownBlock≠some g):=hown.ne_of hg (by decide);clear hn hg hown;go_enter Tryz.func73,Tryz.ntmps73
 go_wp2_with fail
 refine HC.out.mono ?_;rintro e w1 ⟨v',rfl,HO1,HB1,HV1⟩;have HG1:Hid (w1.heap[g]? =some (.cells #[v,.int .i64 0] 217 (0,0))):=(HB1.block g (lt_of_block HG.out) HNE.out).trans HG.out;have HB1':=Lib.hid HB1;have HO1':=Lib.hid HO1;have HV1':Hid (NewRow v v' w):=HV1;have hsz:=HB1.size;clear HB1 HO1 HV1;have HNE1:Hid (v'.ownBlock≠some g):=HO1'.out.ne_of HG1.out (by decide);obtain ⟨A1,c1,hv1,_⟩:=HO1'.out.shape;obtain ⟨l1,hl1⟩:∃l,l=(bs++enc n).length:=⟨_,rfl⟩
 rw [←hl1] at hv1;clear hl1;subst hv1;have hfr:=frozen_of_row w1 g 0 _ _ HG1.out;have hc1:=cell_of_row w1 g 0 _ _ _ HG1.out;simp at hc1;go_wp2
 go_end0
 have hst:But (fun k=>k=g) w1 (w1.setCell ⟨g,0,none⟩ (.slice A1 l1 c1)):=But.setCell (p:=fun k=>k=g) (x:=⟨g,0,none⟩) (But.refl _ _) (.inl rfl) _;refine ⟨_,rfl,⟨heap_setCell_same _ _ _ _ _ _ HG1.out,HO1'.out.but hst ?_,by have:=hst.size;omega⟩,?_,HV1'.out⟩
 ·intro k hk e
  subst e;exact HNE1.out hk
 ·exact (HB1'.out.mono fun i hi=> .inl (.inr hi)).trans hst fun i hi=> .inl (.inl hi)
theorem wcount_any (g base:Nat) (v:Value) (bs:List Int) (n:Nat) (w:World) (hw:Wr w g base v bs) (hn:n≤1099511627776) (hlen:bs.length≤1099511627776):
 Calls Tryz.prog 76 #[.pointer (some ⟨g,0,none⟩),.int .i64 n] w (WPost g base v (bs++enc n) w):=by
 have HC:=Lib.hid (ybp g base v bs n w hw (by omega) hlen);have h1:=cell_of_row w g 1 _ _ _ hw.1;simp at h1;clear hw;go_enter Tryz.func76,Tryz.ntmps76
 go_wp2_with fail
 refine HC.out.mono ?_;rintro e w1 ⟨v',rfl,h⟩;go_wp2
 go_end0
 exact ⟨v',rfl,h⟩
theorem ycP (g base:Nat) (v:Value) (bs:List Int) (w:World) (hw:Wr w g base v bs) (hlen:bs.length≤1048576):
 Calls Tryz.prog 78 #[.pointer (some ⟨g,0,none⟩)] w (Slc2 fB bs 0 w):=by
 obtain ⟨hg,hown,hbase⟩:=hw;have h0:=cell_of_row w g 0 _ _ _ hg;have h1:=cell_of_row w g 1 _ _ _ hg;have hgl:=lt_of_block hg;simp at h0 h1;obtain ⟨A1,c1,hv1,hc1,hs1,_⟩:=hown.shape;obtain ⟨l1,hl1⟩:∃l,l=bs.length:=⟨_,rfl⟩
 rw [←hl1] at hv1;have hb0:Below w.heap.size w (w.alloc (.cells #[] 5)):=(Below.refl _ _).alloc (Nat.le_refl _) _;have HB0:=Lib.hid hb0;have HS1:Hid (Sl fB (w.alloc (.cells #[] 5)) w.heap.size A1 l1 bs):=⟨hl1.symm,hs1.up hb0 (Nat.le_refl _)⟩;have HO:Hid (Own fB 5 (w.alloc (.cells #[] 5)) w.heap.size (.slice (some ⟨w.heap.size,0,none⟩) 0 0) []):=World.ownsRow_lit w #[] 0 (Nat.le_refl _) (by unfold maxLen;omega) rfl;have hl2:l1≤1048576:=by omega
 have hlb:bs.length≤1048576:=hlen;have HL1:Hid ((([]:List Int).length+bs.length)*1≤140737488355328):=by show _≤_;simp;omega
 have HL2:Hid (([]:List Int).length+bs.length≤maxLen):=by show _≤_;simp [maxLen];omega
 obtain ⟨i0,hi,hz0,hz1,hz2⟩:=info_parts Tryz.infoB;have HI:=Lib.hid hi;have HZ0:=Lib.hid hz0;have HZ1:=Lib.hid hz1;have HZ2:=Lib.hid hz2;clear hi hz0 hz1 hz2;clear hl1 hb0 hs1 hown hg;subst hv1;go_enter Tryz.func78,Tryz.ntmps78
 go_wp2_with (with_reducible refine ya8 (o:=⟨some 24,_,_,_,_,_⟩) rfl (.tmp 19) (.tmp 23) 40 rfl 5 i0 (.int .u8 0) 1 Tryz.underlying40 HI.out HZ0.out HZ1.out HZ2.out rfl (.slice (some ⟨w.heap.size,0,none⟩) 0 0) [] w.heap.size rfl HO.out _ _ _ w.heap.size bs rfl HS1.out fB1 HL1.out HL2.out HB0.out.size ?_;intro v1 w1 HO1 HG1 _)
 have HO2:=HO1.out;rw [List.nil_append] at HO2;obtain ⟨A',c',rfl,hc',hs',_⟩:=HO2.shape;go_ret2;exact ⟨A',_,c',rfl,hc',hs'.sl,HB0.out.trans (yaY HG1.out (by simp [Value.ownBlock]) HB0.out.size)⟩
open Go.RowKit Go.Lib
def sB (s:ByteArray):List Int:=s.data.toList.map fun b=>(b.toNat:Int)
theorem ya9 (s:ByteArray):(sB s).length=s.size:=by unfold sB;rw [List.length_map,Array.length_toList];rfl
theorem ybr (s:ByteArray):∀b∈sB s,0≤b∧b < 256:=by
 intro b hb;unfold sB at hb;obtain ⟨x,_,rfl⟩:=List.mem_map.1 hb
 have:=x.toNat_lt
 omega
theorem sB_cells (s:ByteArray):strCells s=(sB s).map fB:=by unfold strCells sB;rw [List.map_map];rfl
section
variable {P:Program} {w:World}
theorem run_app_str (t u ty e:TypeId) (i:TypeInfo) (ht:P.underlying t=some (.slice e)) (hu:P.underlying u=some .string) (hi:P.info? e=some i) (hz:i.zero=some (.int .u8 0)) (hsize:i.size=1) (hby:i.bytes=1)
 (v:Value) (xs:List Int) (base:Nat) (hown:Own fB e w base v xs) (s:ByteArray) (hl:xs.length+s.size≤140737488355328) (hbase:base≤w.heap.size):
 ∃v' w',(Builtin.append_ #[t,u] ty #[v,.string s]).run P w= .ok v' w'∧Own fB e w' base v' (xs++sB s)∧w.grownBy w' v.ownBlock∧(v'.ownBlock=v.ownBlock∨v'.ownBlock=some w.heap.size):=by
 obtain ⟨v',w',h1,h2,h3,h4⟩:=run_append_own_string (P:=P) w base t u ty e i ht hu hi hz hsize hby v xs.length (xs.map fB) hown s (by unfold maxLen;omega) hl hbase;refine ⟨v',w',h1,?_,h3,?_⟩
 ·unfold Own
  rw [List.length_append,List.map_append,ya9,←sB_cells];exact h2
 ·rcases hown.2 with ⟨rfl,h0⟩ |⟨g,cap,cur,rfl,_,hg,hnc,hcm,hcs,htake⟩
  ·by_cases hm:s.size=0
   ·rw [h4.2 ⟨rfl,hm⟩]
    exact .inl rfl
   ·have hr:=run_append_nil_string (P:=P) w t u ty e i (.int .u8 0) ht hu hi hz s (by omega) (by omega) (by rw [hby];omega)
    rw [h1] at hr;injection hr with hv _;rw [hv];exact .inr rfl
  ·by_cases hroom:xs.length+s.size≤cap
   ·have hr:=run_append_room_string (P:=P) w t u ty e i ht hu hi hsize g xs.length cap cur hg s hroom (by omega)
    rw [h1] at hr;injection hr with hv _;rw [hv];exact .inl rfl
   ·have hr:=run_append_grow_string (P:=P) w t u ty e i (.int .u8 0) ht hu hi hz ⟨g,0,none⟩ xs.length cap (xs.map fB) (by rw [hsize];simp) (World.ownsRow.cells hown (g:=g) rfl) s (by omega) (by omega) (by rw [hby];exact growslice_fits (by omega) (by omega))
    rw [h1] at hr;injection hr with hv _;rw [hv];exact .inr rfl
theorem wp_app_str {o:Oper} {a:Act} {K:Act→World→Prop} {Q:Exit→Act→World→Prop} (sl x:Operand) (t u:TypeId)
 (ho:o.op= .call {callee:= .builtin .append,args:=#[sl,x],argTypes:=#[t,u]})
 (e:TypeId) (i:TypeInfo) (ht:P.underlying t=some (.slice e)) (hu:P.underlying u=some .string) (hi:P.info? e=some i) (hz:i.zero=some (.int .u8 0)) (hsize:i.size=1) (hby:i.bytes=1)
 (v:Value) (xs:List Int) (base:Nat) (hs:a.eval sl=v) (hown:Own fB e w base v xs) (s:ByteArray) (hx:a.eval x= .string s) (hl:xs.length+s.size≤140737488355328) (hbase:base≤w.heap.size)
 (h:∀v' w',Own fB e w' base v' (xs++sB s)→w.grownBy w' v.ownBlock→(v'.ownBlock=v.ownBlock∨v'.ownBlock=some w.heap.size)→K (a.put o.dst v') w'):o.wp P a w K Q:=by
 obtain ⟨v',w',hr,h2,h3,h4⟩:=run_app_str (P:=P) t u o.type e i ht hu hi hz hsize hby v xs base hown s hl hbase;unfold Oper.wp execOp;simp only [ho,resolve,invoke,builtin,Sem.run_bind,Sem.run_pure,Result.andThen_ok,List.map_toArray,List.map_cons,List.map_nil,hs,hx,hr];exact h v' w' h2 h3 h4
theorem ybK {ops:Array Oper} {rest:List Oper} {o:Oper} {a:Act} {Q:Exit→Act→World→Prop} (hgd:o.guard=none) (sl x:Operand) (t u:TypeId)
 (ho:o.op= .call {callee:= .builtin .append,args:=#[sl,x],argTypes:=#[t,u]})
 (e:TypeId) (i:TypeInfo) (ht:P.underlying t=some (.slice e)) (hu:P.underlying u=some .string) (hi:P.info? e=some i) (hz:i.zero=some (.int .u8 0)) (hsize:i.size=1) (hby:i.bytes=1)
 (v:Value) (xs:List Int) (base:Nat) (hs:a.eval sl=v) (hown:Own fB e w base v xs) (s:ByteArray) (hx:a.eval x= .string s) (hl:xs.length+s.size≤140737488355328) (hbase:base≤w.heap.size)
 (h:∀v' w',Hid (Own fB e w' base v' (xs++sB s))→Hid (w.grownBy w' v.ownBlock)→Hid (v'.ownBlock=v.ownBlock∨v'.ownBlock=some w.heap.size)→wpList P ops Q rest (a.put o.dst v') w'):wpList P ops Q (o::rest) a w:=
 wpList_plain hgd fun _ hK=>wp_app_str sl x t u ho e i ht hu hi hz hsize hby v xs base hs hown s hx hl hbase fun v' w' h2 h3 h4=>hK _ _ (h v' w' h2 h3 h4)
end
theorem ybG {P:Program} (src e dst:TypeId) (hs:P.underlying src=some (.slice e)) (he:P.underlying e=some (.int .u8)) (hd:P.underlying dst=some .string) (w:World) (B:Nat) (A:Option Addr) (n c:Nat) (xs:List Int) (h:Sl fB w B A n xs):
 (convert src dst (.slice A n c)).run P w= .ok (.string (strOfNums xs)) w:=by
 obtain ⟨rfl,h⟩:=h
 cases xs with
 |nil=>
  cases A with
  |none=>exact run_convert_bytes_nil w src e hs he _ c dst hd
  |some ad=>
   rw [run_convert_bytes_string w src dst e _ _ c hs he hd];simp [Conv.bytesToString,strOfNums,loadCells,loadCellsFrom]
   rfl
 |cons x l=>
  obtain ⟨b,off,rfl,_,hc⟩:=h (by simp)
  exact run_convert_bytes_arg w src e hs he b off _ c (x::l) rfl (fun i hi=>by
   obtain ⟨z,hz⟩:=ybn hi
   rw [hc i z hz,ybg hz]) dst hd
def baOf (xs:List Int):ByteArray:=strOfNums xs
def baNo:ByteArray:=⟨#[]⟩
theorem ybi {xs:List Int} (h:∀b∈xs,0≤b∧b < 256):sB (baOf xs)=xs:=by
 unfold sB baOf strOfNums;simp only [List.map_map]
 conv=>rhs;rw [←List.map_id xs]
 apply List.map_congr_left;intro x hx
 have:=h x hx
 show ((UInt8.ofNat x.toNat).toNat:Int)=x
 rw [UInt8.toNat_ofNat'];omega
theorem encF_rng:∀(k n:Nat),∀b∈encF k n,0≤b∧b < 256
 |0,_,b,h=>by simp [encF] at h
 |k+1,n,b,h=>by
  rw [encF] at h
  split at h
  ·obtain rfl:=List.mem_singleton.1 h;omega
  ·rcases List.mem_cons.1 h with rfl |h
   ·omega
   ·exact encF_rng k _ b h
theorem ya7 (n:Nat):∀b∈enc n,0≤b∧b < 256:=encF_rng 10 n
def Wc (g base:Nat) (v:Value) (w0:World) (bs:List Int) (w:World):Prop:=∃v',Wr w g base v' bs∧But (foot g v) w0 w∧NewRow v v' w0
section
variable {g base:Nat} {v:Value} {w0 w:World} {bs bs':List Int}
theorem Wc.start (h:Wr w g base v bs):Wc g base v w bs w:=⟨v,h,But.refl _ _,.inl rfl⟩
theorem Wc.step (h:Wc g base v w0 bs w) {f:FuncId} {args:Array Value} {P:Program} (hc:∀v',Wr w g base v' bs→NewRow v v' w0→Calls P f args w (WPost g base v' bs' w)):
 Calls P f args w fun e w'=>e= .returned (.tuple #[])∧Wc g base v w0 bs' w':=by
 obtain ⟨v1,h1,h2,h3⟩:=h;refine (hc v1 h1 h3).mono ?_;rintro e w' ⟨v2,rfl,k1,k2,k3⟩;exact ⟨rfl,v2,k1,h2.wr h3 k2,h3.trans k3 h2.size⟩
theorem Wc.alloc (h:Wc g base v w0 bs w) (o:Obj):Wc g base v w0 bs (w.alloc o):=by
 obtain ⟨v1,h1,h2,h3⟩:=h;exact ⟨v1,h1.alloc o,h2.alloc o,h3⟩
theorem Wr.fresh (h:Wr w g base v bs):¬foot g v w.heap.size:=by
 rintro (h1 |h1)
 ·have:=lt_of_block h.1;omega
 ·have:=(World.ownsRow.lt h.2.1 _ h1).2;omega
theorem Wc.keep (h:Wc g base v w0 bs w) {k:Nat} (hk:¬foot g v k) (hl:k < w0.heap.size):w.heap[k]? =w0.heap[k]? :=by
 obtain ⟨v1,h1,h2,h3⟩:=h;exact h2.block k hl hk
theorem Wc.size (h:Wc g base v w0 bs w):w0.heap.size≤w.heap.size:=by
 obtain ⟨v1,h1,h2,h3⟩:=h;exact h2.size
theorem foot_still {v':Value} (hn:NewRow v v' w0) {k:Nat} (hk:¬foot g v k) (hl:k < w0.heap.size):¬foot g v' k:=by
 intro h;rcases foot_step hn k h with h1 |h1
 ·exact hk h1
 ·omega
theorem Wc.post (h:Wc g base v w0 bs w):WPost g base v bs w0 (.returned (.tuple #[])) w:=by
 obtain ⟨v1,h1,h2,h3⟩:=h;exact ⟨v1,rfl,h1,h2,h3⟩
theorem Wr.put {w1:World} {v1:Value} {A:Option Addr} {l c:Nat} (hg:w1.heap[g]? =some (.cells #[v,.int .i64 0] 217 (0,0))) (ho:Own fB 5 w1 base v1 bs) (hne:v1.ownBlock≠some g) (hbase:base≤w1.heap.size) (hv:v1= .slice A l c):
 Wr (w1.setCell ⟨g,0,none⟩ (.slice A l c)) g base v1 bs:=by
 subst hv;have hst:But (fun k=>k=g) w1 (w1.setCell ⟨g,0,none⟩ (.slice A l c)):=But.setCell (p:=fun k=>k=g) (x:=⟨g,0,none⟩) (But.refl _ _) (.inl rfl) _;exact ⟨heap_setCell_same _ _ _ _ _ _ hg,ho.but hst fun k hk e=>hne (by rw [hk,e]),Nat.le_trans hbase hst.size⟩
theorem But.put {w1:World} (h:But (foot g v) w0 w1) (u:Value):But (foot g v) w0 (w1.setCell ⟨g,0,none⟩ u):=h.setCell (.inl (.inl rfl)) _
theorem But.app {w1 w2:World} {v1:Value} (h:But (foot g v) w0 w1) (hn:NewRow v v1 w0) (hg:w1.grownBy w2 v1.ownBlock):But (foot g v) w0 w2:=h.grown hg fun k hk=>by
 rcases hn with h1 |⟨j,h1,hj⟩
 ·exact .inl (.inr (by rw [←h1];exact hk))
 ·right;rw [h1] at hk;injection hk with hk;omega
theorem NewRow.app {w1:World} {v1 v2:Value} (hn:NewRow v v1 w0) (hs:w0.heap.size≤w1.heap.size) (h:v2.ownBlock=v1.ownBlock∨v2.ownBlock=some w1.heap.size):NewRow v v2 w0:=by
 rcases h with h |h
 ·rcases hn with h1 |⟨j,h1,hj⟩
  ·exact .inl (h.trans h1)
  ·exact .inr ⟨j,h.trans h1,hj⟩
 ·exact .inr ⟨_,h,hs⟩
end
theorem Wr.appd {g base:Nat} {v v1:Value} {w w1:World} {bs':List Int} (hg:w1.heap[g]? =some (.cells #[v,.int .i64 0] 217 (0,0))) (hne:v1.ownBlock≠some g) (hb:But (foot g v) w w1) (hn:NewRow v v1 w) (hbase:base≤w1.heap.size) (v2:Value) (w2:World) (ho:Own fB 5 w2 base v2 bs') (hgr:w1.grownBy w2 v1.ownBlock) (hv:v2.ownBlock=v1.ownBlock∨v2.ownBlock=some w1.heap.size):
 ∃A l c,v2= .slice A l c∧Hid (Wr (w2.setCell ⟨g,0,none⟩ (.slice A l c)) g base (.slice A l c) bs'∧But (foot g v) w (w2.setCell ⟨g,0,none⟩ (.slice A l c))∧NewRow v (.slice A l c) w)∧w2.frozen? ⟨g,0,none⟩=false∧w2.cell? ⟨g,0,none⟩=some v:=by
 have hgg:w2.heap[g]? =some (.cells #[v,.int .i64 0] 217 (0,0)):=(hgr.block g (lt_of_block hg) (fun e=>hne e.symm)).trans hg;have hne2:v2.ownBlock≠some g:=ho.ne_of hgg (by decide);have hB2:=hb.app hn hgr;have hN2:=hn.app hb.size hv;obtain ⟨A,c,hs,_⟩:=ho.shape;have hw:=Wr.put hgg ho hne2 (Nat.le_trans hbase hgr.size) hs;subst hs;exact ⟨A,_,c,rfl,⟨hw,hB2.put _,hN2⟩,frozen_of_row w2 g 0 _ _ hgg,by rw [cell_of_row w2 g 0 _ _ _ hgg];rfl⟩
theorem wtext_any (g base:Nat) (v:Value) (bs:List Int) (s:ByteArray) (w:World) (hw:Wr w g base v bs) (hs:s.size≤1099511627776) (hlen:bs.length≤1099511627776):
 Calls Tryz.prog 153 #[.pointer (some ⟨g,0,none⟩),.string s] w (WPost g base v (bs++(enc s.size++sB s)) w):=by
 obtain ⟨hg,hown,hbase⟩:=hw;have h0:=cell_of_row w g 0 _ _ _ hg;have h1:=cell_of_row w g 1 _ _ _ hg;simp at h0 h1;have HC:=Lib.hid (yb7 v bs s.size w base hown hbase (by omega) hlen);have HG:=Lib.hid hg;have HNE:Hid (v.ownBlock≠some g):=hown.ne_of hg (by decide);have HBASE:=Lib.hid hbase;obtain ⟨i0,hi,hz0,hz1,hz2⟩:=info_parts Tryz.infoB;have HI:=Lib.hid hi;have HZ0:=Lib.hid hz0;have HZ1:=Lib.hid hz1;have HZ2:=Lib.hid hz2
 have HL:Hid ((bs++enc s.size).length+s.size≤140737488355328):=by
  show _≤_
  have:=ya1 s.size
  rw [List.length_append];omega
 have HSS:Hid (((s.size:Nat):Int)=s.size):=rfl;clear hi hz0 hz1 hz2 hg hown hbase;go_enter Tryz.func153,Tryz.ntmps153
 go_wp2_with fail
 refine HC.out.mono ?_;rintro e w1 ⟨v1,rfl,ho1,hb1,hv1⟩;have HG1:Hid (w1.heap[g]? =some (.cells #[v,.int .i64 0] 217 (0,0))):=(hb1.block g (lt_of_block HG.out) HNE.out).trans HG.out;have HB1:Hid (But (foot g v) w w1):=hb1.mono fun i hi=> .inl (.inr hi)
 have HO1:=Lib.hid ho1;have HV1:Hid (NewRow v v1 w):=hv1;have HS1:Hid (base≤w1.heap.size):=Nat.le_trans HBASE.out hb1.size;have HNE1:Hid (v1.ownBlock≠some g):=ho1.ne_of HG1.out (by decide);have HAPP:=Lib.hid (Wr.appd (bs':=(bs++enc s.size)++sB s) HG1.out HNE1.out HB1.out HV1.out HS1.out);clear hb1 ho1 hv1 h0 h1
 go_wp2_with (at_builtin;(with_reducible refine ybK (o:=⟨some 19,_,_,_,_,_⟩) rfl (.tmp 17) (.tmp 18) 40 9 rfl 5 i0 Tryz.underlying40 Tryz.underlying9 HI.out HZ0.out HZ1.out HZ2.out v1 (bs++enc s.size) base rfl HO1.out s rfl HL.out HS1.out ?_);intro v2 w2 HO2 HG2 HV2;obtain ⟨A2,l2,c2,hv2,HF2,hfr,hcl⟩:=HAPP.out v2 w2 HO2.out HG2.out HV2.out;subst hv2)
 go_wp2
 go_end0
 rw [←List.append_assoc];exact ⟨_,rfl,HF2.out.1,HF2.out.2.1,HF2.out.2.2⟩
theorem ydA (g base:Nat) (v:Value) (bs:List Int) (s:ByteArray) (w:World) (hw:Wr w g base v bs) (hs:s.size=32) (hlen:bs.length≤1099511627776):
 Calls Tryz.prog 77 #[.pointer (some ⟨g,0,none⟩),.string s] w (WPost g base v (bs++sB s) w):=by
 obtain ⟨hg,hown,hbase⟩:=hw;have h0:=cell_of_row w g 0 _ _ _ hg;have h1:=cell_of_row w g 1 _ _ _ hg;simp at h0 h1;have HG:=Lib.hid hg;have HO:=Lib.hid hown;have HNE:Hid (v.ownBlock≠some g):=hown.ne_of hg (by decide);have HBASE:=Lib.hid hbase;obtain ⟨i0,hi,hz0,hz1,hz2⟩:=info_parts Tryz.infoB;have HI:=Lib.hid hi;have HZ0:=Lib.hid hz0;have HZ1:=Lib.hid hz1;have HZ2:=Lib.hid hz2;have HL:Hid (bs.length+s.size≤140737488355328):=by show _≤_;omega
 have hne32:(((s.size:Nat):Int) != 32)=false:=by simp;omega
 have HAPP:=Lib.hid (Wr.appd (bs':=bs++sB s) hg HNE.out (But.refl _ w) (Or.inl rfl:NewRow v v w) hbase);clear hi hz0 hz1 hz2 hg hown hbase;go_enter Tryz.func77,Tryz.ntmps77
 go_wp2_with (at_builtin;(with_reducible refine ybK (o:=⟨some 21,_,_,_,_,_⟩) rfl (.tmp 19) (.tmp 20) 40 9 rfl 5 i0 Tryz.underlying40 Tryz.underlying9 HI.out HZ0.out HZ1.out HZ2.out v bs base rfl HO.out s rfl HL.out HBASE.out ?_);intro v2 w2 HO2 HG2 HV2;obtain ⟨A2,l2,c2,hv2,HF2,hfr,hcl⟩:=HAPP.out v2 w2 HO2.out HG2.out HV2.out;subst hv2)
 go_wp2
 go_end0
 exact ⟨_,rfl,HF2.out.1,HF2.out.2.1,HF2.out.2.2⟩
theorem wbytes_any (g base:Nat) (v:Value) (bs:List Int) (A:Option Addr) (n c B:Nat) (xs:List Int) (w:World) (hw:Wr w g base v bs) (hx:Sl fB w B A n xs) (hB:B≤w.heap.size) (hf:∀k,k < B→¬foot g v k) (hs:n≤1099511627776) (hlen:bs.length≤1099511627776):
 Calls Tryz.prog 75 #[.pointer (some ⟨g,0,none⟩),.slice A n c] w (WPost g base v (bs++(enc n++xs)) w):=by
 obtain ⟨hg,hown,hbase⟩:=hw;have h0:=cell_of_row w g 0 _ _ _ hg;have h1:=cell_of_row w g 1 _ _ _ hg;simp at h0 h1;have HC:=Lib.hid (yb7 v bs n w base hown hbase (by omega) hlen);have HG:=Lib.hid hg;have HNE:Hid (v.ownBlock≠some g):=hown.ne_of hg (by decide);have HBASE:=Lib.hid hbase
 have HXB:Hid (∀w1,But (fun k=>v.ownBlock=some k) w w1→Sl fB w1 w1.heap.size A n xs):=fun w1 hb1=>⟨hx.1,fun hn=>by
  obtain ⟨b,off,e,hlt,hc⟩:=hx.2 hn
  exact ⟨b,off,e,Nat.lt_of_lt_of_le (Nat.lt_of_lt_of_le hlt hB) hb1.size,hc.keep (hb1.block b (Nat.lt_of_lt_of_le hlt hB) (fun h=>hf b hlt (.inr h)))⟩⟩
 have HXN:Hid (xs.length=n):=hx.1;obtain ⟨i0,hi,hz0,hz1,hz2⟩:=info_parts Tryz.infoB;have HI:=Lib.hid hi;have HZ0:=Lib.hid hz0;have HZ1:=Lib.hid hz1;have HZ2:=Lib.hid hz2
 have HL:Hid (((bs++enc n).length+xs.length)*1≤140737488355328):=by
  show _≤_
  have:=ya1 n
  have:=HXN.out
  rw [List.length_append];omega
 have HL2:Hid ((bs++enc n).length+xs.length≤maxLen):=by
  show _≤_
  have:=ya1 n
  have:=HXN.out
  rw [List.length_append];unfold maxLen;omega
 have HSS:Hid (((n:Nat):Int)=n):=rfl;clear hi hz0 hz1 hz2 hg hown hbase hx hf;go_enter Tryz.func75,Tryz.ntmps75
 go_wp2_with fail
 refine HC.out.mono ?_;rintro e w1 ⟨v1,rfl,ho1,hb1,hv1⟩;have HG1:Hid (w1.heap[g]? =some (.cells #[v,.int .i64 0] 217 (0,0))):=(hb1.block g (lt_of_block HG.out) HNE.out).trans HG.out;have HX1:=Lib.hid (HXB.out w1 hb1);have HB1:Hid (But (foot g v) w w1):=hb1.mono fun i hi=> .inl (.inr hi)
 have HO1:=Lib.hid ho1;have HV1:Hid (NewRow v v1 w):=hv1;have HS1:Hid (base≤w1.heap.size):=Nat.le_trans HBASE.out hb1.size;have HNE1:Hid (v1.ownBlock≠some g):=ho1.ne_of HG1.out (by decide);have HAPP:=Lib.hid (Wr.appd (bs':=(bs++enc n)++xs) HG1.out HNE1.out HB1.out HV1.out HS1.out);clear hb1 ho1 hv1 h0 h1
 go_wp2_with (at_builtin;(with_reducible refine ya8 (o:=⟨some 19,_,_,_,_,_⟩) rfl (.tmp 17) (.tmp 18) 40 rfl 5 i0 (.int .u8 0) 1 Tryz.underlying40 HI.out HZ0.out HZ1.out HZ2.out rfl v1 (bs++enc n) base rfl HO1.out A n c w1.heap.size xs rfl HX1.out fB1 HL.out HL2.out HS1.out ?_);intro v2 w2 HO2 HG2 HV2;obtain ⟨A2,l2,c2,hv2,HF2,hfr,hcl⟩:=HAPP.out v2 w2 HO2.out HG2.out HV2.out;subst hv2)
 go_wp2
 go_end0
 rw [←List.append_assoc];exact ⟨_,rfl,HF2.out.1,HF2.out.2.1,HF2.out.2.2⟩
theorem tkH {P:Program} {ops:Array Oper} {Q:Exit→Act→World→Prop} {md:Region.Mode} {S:World→Prop} {i:Nat} {oi:Oper} {v:Value} {fuel:Nat} {listed:Array Bool} {a:Act} {w:World} (hi:ops[i]? =some oi:=by simp only [List.getElem?_toArray,List.getElem?_cons_succ,List.getElem?_cons_zero];rfl)
 (hs:Region.noSelect ops=true:=by kernel_rfl) (hf:Region.free md ops listed i=true:=by kernel_rfl) (hr:(Region.ready md ops listed).contains i=true:=by kernel_rfl)
 (hQ:∀c a w,Q (.panic c) (a.put oi.dst v) w→Q (.panic c) a w:=by exact fun _ _ _ h=>h) (y:YieldsIf P ops S oi v a) (hS:S w:=by assumption)
 (h:wpAnyH P md ops Q S fuel (listed.setIfInBounds i true) (a.put oi.dst v) w):wpAnyH P md ops Q S (fuel+1) listed a w:=wpAnyH_take hi hs hf hr hQ y hS h
theorem pt:(∀(l:List Bool) (i:Nat) (v:Bool),l.toArray.setIfInBounds i v=(l.set i v).toArray)∧(∀(l:List Value) (i:Nat) (v:Value),l.toArray.setIfInBounds i v=(l.set i v).toArray)∧(∀(x v:Bool) (l:List Bool),(x::l).set 0 v=v::l)∧(∀(x v:Bool) (l:List Bool) (n:Nat),(x::l).set (n+1) v=x::l.set n v)∧(∀(x v:Value) (l:List Value),(x::l).set 0 v=v::l)∧(∀(x v:Value) (l:List Value) (n:Nat),(x::l).set (n+1) v=x::l.set n v)∧(∀(a:Act) (d:Tmp) (v:Value),a.put (some d) v={a with tmps:=a.tmps.setIfInBounds d v})∧(∀(a:Act) (v:Value),a.put none v=a):=
 ⟨fun _ _ _=>by simp,fun _ _ _=>by simp,fun _ _ _=>rfl,fun _ _ _ _=>rfl,fun _ _ _=>rfl,fun _ _ _ _=>rfl,fun _ _ _=>rfl,fun _ _=>rfl⟩
theorem tkY {P:Program} {ops:Array Oper} {Q:Exit→Act→World→Prop} {md:Region.Mode} {S:World→Prop} {fuel:Nat} {listed:Array Bool} {a:Act} {w:World} {oi:Oper} {v:Value} {l':Array Bool} {a':Act} (i:Nat)
 (h:wpAnyH P md ops Q S fuel l' a' w) (hi:ops[i]? =some oi:=by simp only [List.getElem?_toArray,List.getElem?_cons_succ,List.getElem?_cons_zero];rfl)
 (hs:Region.noSelect ops=true:=by kernel_rfl) (hf:Region.free md ops listed i=true:=by kernel_rfl) (hr:(Region.ready md ops listed).contains i=true:=by kernel_rfl)
 (hQ:∀c a w,Q (.panic c) (a.put oi.dst v) w→Q (.panic c) a w:=by exact fun _ _ _ h=>h) (y:YieldsIf P ops S oi v a:=by exact Or.inl ⟨by rfl,by (intro w hSw;(try dsimp only at hSw);go_simp;try (with_reducible rfl))⟩) (hS:S w:=by assumption)
 (hl:listed.setIfInBounds i true=l':=by first |(simp only [pt];rfl) |rfl) (ha:a.put oi.dst v=a':=by first |(simp only [pt];rfl) |rfl):wpAnyH P md ops Q S (fuel+1) listed a w:=wpAnyH_take hi hs hf hr hQ y hS (by rw [hl,ha];exact h)
theorem tkN {P:Program} {ops:Array Oper} {Q:Exit→Act→World→Prop} {md:Region.Mode} {S:World→Prop} {fuel:Nat} {listed:Array Bool} {a:Act} {w:World} {oi:Oper} {v:Value} {l':Array Bool} {a':Act} (i:Nat)
 (h:wpAnyH P md ops Q S fuel l' a' w) (hi:ops[i]? =some oi:=by simp only [List.getElem?_toArray,List.getElem?_cons_succ,List.getElem?_cons_zero];rfl)
 (hs:Region.noSelect ops=true:=by kernel_rfl) (hf:Region.free md ops listed i=true:=by kernel_rfl) (hr:(Region.ready md ops listed).contains i=true:=by kernel_rfl)
 (hQ:∀c a w,Q (.panic c) (a.put oi.dst v) w→Q (.panic c) a w:=by exact fun _ _ _ h=>h) (y:YieldsIf P ops S oi v a:=by exact Or.inr ⟨by rfl,rfl⟩) (hS:S w:=by assumption)
 (hl:listed.setIfInBounds i true=l':=by first |(simp only [pt];rfl) |rfl) (ha:a.put oi.dst v=a':=by first |(simp only [pt];rfl) |rfl):wpAnyH P md ops Q S (fuel+1) listed a w:=wpAnyH_take hi hs hf hr hQ y hS (by rw [hl,ha];exact h)
theorem rd1 {P:Program} {ops:Array Oper} {Q:Exit→Act→World→Prop} {md:Region.Mode} {S:World→Prop} {fuel:Nat} {listed:Array Bool} {a:Act} {w:World} {oi:Oper} (i:Nat) (h:∀K':Act→World→Prop,Shut (∀a w,S w→(S w→wpAnyH P md ops Q S fuel (listed.setIfInBounds i true) a w)→K' a w)→if Region.wanted oi (yielded ops a.tmps)=true then Oper.wp P oi a w K' Q else K' (a.put oi.dst undef) w) (hr:Region.ready md ops listed=[i]:=by kernel_rfl) (hi:ops[i]? =some oi:=by simp only [List.getElem?_toArray,List.getElem?_cons_succ,List.getElem?_cons_zero];rfl):wpAnyH P md ops Q S (fuel+1) listed a w:=wpAnyH_ready hr (by simp) (AllReadyH.cons hi h AllReadyH.nil)
theorem rd2 {P:Program} {ops:Array Oper} {Q:Exit→Act→World→Prop} {md:Region.Mode} {S:World→Prop} {fuel:Nat} {listed:Array Bool} {a:Act} {w:World} {oi oj:Oper} (i j:Nat) (h:∀K':Act→World→Prop,Shut (∀a w,S w→(S w→wpAnyH P md ops Q S fuel (listed.setIfInBounds i true) a w)→K' a w)→if Region.wanted oi (yielded ops a.tmps)=true then Oper.wp P oi a w K' Q else K' (a.put oi.dst undef) w) (g:∀K':Act→World→Prop,Shut (∀a w,S w→(S w→wpAnyH P md ops Q S fuel (listed.setIfInBounds j true) a w)→K' a w)→if Region.wanted oj (yielded ops a.tmps)=true then Oper.wp P oj a w K' Q else K' (a.put oj.dst undef) w) (hr:Region.ready md ops listed=[i,j]:=by kernel_rfl) (hi:ops[i]? =some oi:=by simp only [List.getElem?_toArray,List.getElem?_cons_succ,List.getElem?_cons_zero];rfl) (hj:ops[j]? =some oj:=by simp only [List.getElem?_toArray,List.getElem?_cons_succ,List.getElem?_cons_zero];rfl):wpAnyH P md ops Q S (fuel+1) listed a w:=wpAnyH_ready hr (by simp) (AllReadyH.cons hi h (AllReadyH.cons hj g AllReadyH.nil))
theorem yaa{p:Prop}(h:p:=by exact ⟨(HK.out _ yav).1,(HK.out _ yav).2.1,(HK.out _ yav).2.2.1,(HK.out _ yav).2.2.2,HXC.out _ yav⟩):p:=h
theorem yab{p:Prop}(h:p:=by first |exact ⟨(HC.out _ yap).1,(HC.out _ yap).2,HPC.out _ yap⟩ |go_keep):p:=h
theorem yac{p:Prop}(h:p:=by first |exact HC.out _ HBd.out |exact HC.out _ (HBc.out.alloc HS4.out _) |first |exact HC.out _ HBc.out |exact HC.out _ (by repeat (first |exact HBr.out |exact HBc.out |exact Below.refl _ _ |refine Below.drew ?_ |refine below_dN' ?_ _ |refine ya0 ?_ _)) |go_keep):p:=h
theorem yad{p:Prop}(h:p:=by first |exact HC.out _ HBd.out |exact HC.out _ (HBc.out.alloc HS4.out _) |first |exact HC.out _ HBc.out |exact HC.out _ (by repeat (first |exact HBr.out |exact Below.refl _ _ |refine Below.drew ?_ |refine below_dN' ?_ _ |refine ya0 ?_ _)) |go_keep):p:=h
theorem yae{p:Prop}(h:p:=by first |exact HBi.out |exact yag):p:=h
theorem yaf{p:Prop}(h:p:=by first |exact HC.out _ HBx.out |exact HC.out _ HB1.out |exact HC.out _ (by repeat (first |exact HBx.out |exact HB1.out |exact Below.refl _ _ |refine Below.drew ?_ |refine below_dN' ?_ _ |refine ya0 ?_ _)) |go_keep):p:=h
theorem yag{p:Prop}(h:p:=by repeat (first |assumption |exact Below.refl _ _ |exact HBq.out |refine Below.alloc ?_ (by simp<;>omega) _ |refine Below.alloc ?_ (Below.size (by assumption)) _ |refine ya0 ?_ _ |refine ya0 (n:=1) ?_ _)):p:=h
theorem yah{p:Prop}(h:p:=by first |exact HK.out _ HBd.out |exact HK.out _ HBc.out |exact HK.out _ (by repeat (first |exact HBr.out |exact Below.refl _ _ |refine Below.drew ?_ |refine below_dN' ?_ _ |refine ya0 ?_ _)) |go_keep):p:=h
theorem yai{p:Prop}(h:p:=by first |exact HK.out _ HB6.out |exact HK.out _ HBc.out |exact HK.out _ (by repeat (first |exact HBc.out |exact Below.refl _ _ |refine Below.drew ?_ |refine below_dN' ?_ _ |refine ya0 ?_ _)) |go_keep):p:=h
theorem yaj{p:Prop}(h:p:=by first |exact HC.out _ HBc.out |exact HC.out _ (by repeat (first |exact HBr.out |exact HBc.out |exact Below.refl _ _ |refine Below.drew ?_ |refine below_dN' ?_ _ |refine ya0 ?_ _)) |go_keep):p:=h
theorem yak{p:Prop}(h:p:=by first |exact HC.out _ HB7.out |exact HC.out _ yap |go_keep):p:=h
theorem yal{p:Prop}(h:p:=by simp only [HH0.out,HH1.out,HH2.out,HH3.out,HH4.out,HH5.out,HH6.out,HH7.out,HH8.out,HH9.out,HH10.out,Bool.false_and,Bool.and_false,Bool.true_and,Bool.and_true,Bool.not_false,Bool.not_true]):p:=h
theorem yam{p:Prop}(h:p:=by first |exact HVA.out.alloc _ |exact HVA.out.drew.alloc _ |exact (HVA.out.drewN _).alloc _ |exact (HVA.out.alloc _).drew |exact (HVA.out.alloc _).drewN _ |exact HVA.out |exact HVA.out.drew):p:=h
theorem yan{p:Prop}(h:p:=by first |exact ⟨HJ7.out.jd,HX7.out⟩ |exact ⟨(Below.heap_alloc _ _ _ (lt_of_block HJ7.out.jd)).trans HJ7.out.jd,(Below.heap_alloc _ _ _ (lt_of_block HX7.out)).trans HX7.out⟩):p:=h
theorem yao{p:Prop}(h:p:=by simp only [List.length_append,List.length_nil];have:=ya1 d;have:=ya1 q;have:=ya1 ix;have:=ya9 s;have:=ya1 n;have:=ya1 m;omega):p:=h
theorem yap{p:Prop}(h:p:=by repeat (first |exact HBy.out |exact HB7.out |exact Below.refl _ _ |refine Below.drew ?_ |refine below_dN' ?_ _ |refine ya0 ?_ _)):p:=h
theorem yaq{p:Prop}(h:p:=by simp only [HH0.out,HH1.out,HH2.out,HH3.out,Bool.false_and,Bool.and_false,Bool.true_and,Bool.and_true,Bool.not_false,Bool.not_true]):p:=h
theorem yar{p:Prop}(h:p:=by first |exact HB.out.trans (HBy.out.mono (Nat.le_add_right _ 2)) |exact (HB.out.trans (HBy.out.mono (Nat.le_add_right _ 2))).drew):p:=h
theorem yas{p:Prop}(h:p:=by exact ⟨HF.out.1.jd,(HG5.out.block _ (lt_of_block HW4.out.2) (fun e=>by injection e with e;have:=HS5.out;omega)).trans HW4.out.2⟩):p:=h
theorem yat{p:Prop}(h:p:=by simp only [HH0.out,HH1.out,HH2.out,Bool.false_and,Bool.and_false,Bool.true_and,Bool.and_true,Bool.not_false,Bool.not_true]):p:=h
theorem yau{p:Prop}(h:p:=by repeat (first |exact HBx.out |exact Below.refl _ _ |refine Below.drew ?_ |refine below_dN' ?_ _ |refine ya0 ?_ _)):p:=h
theorem yav{p:Prop}(h:p:=by repeat (first |exact HB.out |exact Below.refl _ _ |refine Below.drew ?_ |refine below_dN' ?_ _ |refine ya0 ?_ _)):p:=h
theorem yaw{p:Prop}(h:p:=by repeat (first |exact Below.refl _ _ |refine Below.drew ?_ |refine below_dN' ?_ _ |refine Below.alloc ?_ (by simp) _)):p:=h
theorem yax{p:Prop}(h:p:=by repeat (first |exact HBx.out |exact HB1.out |refine Below.drew ?_ |refine below_dN' ?_ _ |refine ya0 ?_ _)):p:=h
theorem yay{p:Prop}(h:p:=by simp only [HH0.out,HH1.out,Bool.false_and,Bool.and_false,Bool.true_and,Bool.and_true,Bool.not_false,Bool.not_true]):p:=h
theorem yaz{p:Prop}(h:p:=by first |exact HB1.out.trans (HB.out.mono HB1.out.size) |exact HB1.out.trans (Below.drew (HB.out.mono HB1.out.size))):p:=h
theorem yaA{p:Prop}(h:p:=by repeat (first |exact Below.refl _ _ |refine Below.drew ?_ |refine below_dN' ?_ _ |refine ya0 ?_ _)):p:=h
theorem yaB{p:Prop}(h:p:=by simp only [HH0.out,Bool.false_and,Bool.and_false,Bool.true_and,Bool.and_true,Bool.not_false,Bool.not_true]):p:=h
theorem yaC{p:Prop}(h:p:=by repeat (first |exact HB1.out |refine Below.drew ?_ |refine below_dN' ?_ _ |refine ya0 ?_ _)):p:=h
theorem yaD{p:Prop}(h:p:=by repeat (first |exact HBy.out |refine Below.drew ?_ |refine below_dN' ?_ _ |refine ya0 ?_ _)):p:=h
theorem yaE{p:Prop}(h:p:=by repeat (first |exact HBc.out |refine Below.drew ?_ |refine below_dN' ?_ _ |refine ya0 ?_ _)):p:=h
theorem yaF{p:Prop}(h:p:=by unfold rgB;first |exact (decide_eq_true (by omega)).symm |exact (decide_eq_false (by omega)).symm):p:=h
theorem yaG{p:Prop}(h:p:=by repeat (first |exact Below.refl _ _ |refine Below.drew ?_ |refine ya0 ?_ _)):p:=h
theorem yaH{p:Prop}(h:p:=by have:=ya1 ix;have:=ya1 sz;have:=ya1 dy;simp [List.flatMap_cons];omega):p:=h
theorem yaI{p:Prop}(h:p:=by (have:=HPL.out;refine congrArg (Value.int .i64) ?_;omega)):p:=h
theorem yaJ{p:Prop}(h:p:=by (have:=HPM.out;refine congrArg (Value.int .i64) ?_;omega)):p:=h
theorem yaK{p:Prop}(h:p:=by first |exact HB.out.size |exact Nat.le_refl _):p:=h
theorem yaL{p:Prop}(h:p:=by first |exact HBx.out.size |exact HB1.out.size):p:=h
theorem yaM{p:Prop}(h:p:=by rw [HXN.out];exact Nat.le_refl _):p:=h
theorem yaN{p:Prop}(h:p:=by rw [List.length_drop];omega):p:=h
theorem yaO{p:Prop}(h:p:=by show _ < W3.heap.size;omega):p:=h
theorem yaP{p:Prop}(h:p:=by show _≤w.heap.size+1;omega):p:=h
theorem yaQ{p:Prop}(h:p:=by rw [zw_len ht];exact hlt):p:=h
theorem yaR{p:Prop}(h:p:=by rw [HXN.out];exact hlt):p:=h
theorem yaS{p:Prop}(h:p:=by unfold maxLen;omega):p:=h
theorem yaT{p:Prop}(h:p:=by have:=HPG.out;omega):p:=h
theorem yaU{p:Prop}(h:p:=by have:=HS1.out;omega):p:=h
theorem yaV{p:Prop}(h:p:=by kernel_rfl):p:=h
theorem yaW{p:Prop}(h:p:=by simp;omega):p:=h
theorem yaX{p:Prop}(h:p:=by trivial):p:=h
theorem om{p:Prop}(h:p:=by omega):p:=h
theorem sI{p:Prop}(h:p:=by simp):p:=h
theorem de{p:Prop}(h:p:=by decide):p:=h
theorem nl{n:Nat}:n≤n:=Nat.le_refl n
theorem bl{w:World}{o}:Below w.heap.size w (w.alloc o):=(Below.refl _ _).alloc (Nat.le_refl _) _
theorem br{B:Nat}{w:World}:Below B w w:=Below.refl _ _
theorem lh{p:Prop}(h:p):Hid p:=Lib.hid h
