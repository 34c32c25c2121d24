import Derived.WalkSpells
import Derived.WalkLawsBesides
import Derived.Lib.Hide
import Derived.BigQuiet
import Derived.Deep.RegionHeld3
import Derived.Deep.DeepCutAuto
import Derived.Deep.AppendLies
import Derived.Laws.CopyOwn
import Derived.Deep.WholeRow
import Derived.StillTailTactics
import Derived.Test.YtpdledjgbgalcaaGreatDoorRows
namespace Go.Proofs.YtpdledjgbgalcaaGreatDoor
set_option maxRecDepth 20000
set_option maxHeartbeats 1000000
open Go.RowKit Go.Proofs.Tryz
set_option linter.unusedVariables false
set_option linter.unusedSimpArgs false
theorem ybo {a b:Bool} (h:a=b):Ending.returned (.bool a)= .returned (.bool b):=by rw [h]
theorem ycQ {k:IntKind} {a b:Int} (h:a=b):Ending.returned (.int k a)= .returned (.int k b):=by rw [h]
theorem same_of {P:Program} {f:FuncId} {args:Array Value} {w:World} {v:Value}
 (h:Calls P f args w fun e H=>e= .returned v/\w=H):Calls P f args w fun e G=>e= .returned v/\G=w:=
 h.mono fun _ _ ⟨K,J⟩=>⟨K,J.symm⟩
theorem ybQ {α:Type} {xs:List α} {k:Nat} (h:k < xs.length):∃z,xs[k]? =some z:=⟨xs[k],List.getElem?_eq_getElem h⟩
theorem ybA {α:Type} {xs:List α} {k:Nat} {z d:α} (h:xs[k]? =some z):xs.getD k d=z:=by simp [List.getD,h]
theorem yby {α:Type} {xs:List α} {k:Nat} {x:α} (h:xs[k]? =some x):xs.take (k+1)=xs.take k++[x]:=by
 obtain ⟨hk,rfl⟩:=List.getElem?_eq_some_iff.1 h;rw [List.take_succ_eq_append_getElem hk]
def At {α:Type} (f:α->Value) (w:World) (b off:Nat) (xs:List α):Prop:=∀k x,xs[k]? =some x->w.cell? ⟨b,off+k,none⟩=some (f x)
def SL {α:Type} (f:α->Value) (w:World) (B:Nat) (A:Option Addr) (xs:List α):Prop:=
 0 < xs.length->∃b off,A=some ⟨b,off,none⟩/\b < B/\At f w b off xs
def Sl {α:Type} (f:α->Value) (w:World) (B:Nat) (A:Option Addr) (n:Nat) (xs:List α):Prop:=xs.length=n/\SL f w B A xs
theorem Sl.up {α:Type} {f:α->Value} {w G:World} {B H n:Nat} {A:Option Addr} {xs:List α} (h:Sl f w B A n xs) (L:Below H w G) (K:B<=H):Sl f G B A n xs:=⟨h.1,fun hn=>by
 obtain ⟨b,J,e,hlt,M⟩:=h.2 hn
 exact ⟨b,J,e,hlt,fun k x N=>(L.cell (Nat.lt_of_lt_of_le hlt K)).trans (M k x N)⟩⟩
theorem Sl.more' {α:Type} {f:α->Value} {w:World} {B H n:Nat} {A:Option Addr} {xs:List α} (h:Sl f w B A n xs) (K:B<=H):Sl f w H A n xs:=⟨h.1,fun hn=>by
 obtain ⟨b,G,e,hlt,J⟩:=h.2 hn
 exact ⟨b,G,e,by omega,J⟩⟩
theorem SL.sl {α:Type} {f:α->Value} {w:World} {B:Nat} {A:Option Addr} {xs:List α} (h:SL f w B A xs):Sl f w B A xs.length xs:=⟨rfl,h⟩
section
variable {α:Type} {f:α->Value} {w w':World} {b off B B':Nat} {A:Option Addr} {xs ys:List α}
theorem At.zero (h:At f w b 0 xs) {k:Nat} {x:α} (hx:xs[k]? =some x):w.cell? ⟨b,k,none⟩=some (f x):=by
 have:=h k x hx;rwa [Nat.zero_add] at this
theorem At.drewN (h:At f w b off xs) (n:Nat):At f (w.drewN n) b off xs:=h
theorem At.keep (h:At f w b off xs) (hk:w'.heap[b]? =w.heap[b]?):At f w' b off xs:=fun k x hx=>(World.cell?_of_block (w:=w) (by exact hk)).trans (h k x hx)
theorem At.below (h:At f w b off xs) (hb:Below B w w') (hB:b < B):At f w' b off xs:=h.keep (hb.block b hB)
theorem At.of_block {t:TypeId} {fr:Nat × Nat} (h:w.heap[b]? =some (.cells (xs.map f).toArray t fr)):At f w b 0 xs:=fun k x hx=>by
 rw [cell_of_row w b _ _ _ _ h];simp [hx]
theorem SL.nil:SL f w B A []:=fun h=>absurd h (by simp)
theorem SL.at_ (h:SL f w B A xs) {k:Nat} (H:k < xs.length):∃b G x,A=some ⟨b,G,none⟩/\b < B/\xs[k]? =some x/\w.cell? ⟨b,G+k,none⟩=some (f x):=by
 obtain ⟨b,G,e,K,J⟩:=h (by omega);exact ⟨b,G,xs[k],e,K,List.getElem?_eq_getElem H,J k _ (List.getElem?_eq_getElem H)⟩
theorem SL.up (h:SL f w B A xs) (hb:Below B' w w') (hB:B<=B'):SL f w' B A xs:=fun hn=>by
 obtain ⟨b,off,e,hlt,hc⟩:=h hn;exact ⟨b,off,e,hlt,hc.below hb (by omega)⟩
theorem SL.more (h:SL f w B A xs) (hB:B<=B'):SL f w B' A xs:=fun hn=>by
 obtain ⟨b,off,e,hlt,hc⟩:=h hn;exact ⟨b,off,e,by omega,hc⟩
theorem SL.drewN (h:SL f w B A xs) (n:Nat):SL f (w.drewN n) B A xs:=h
theorem SL.take_ (h:SL f w B A xs) (n:Nat):SL f w B A (xs.take n):=fun hn=>by
 obtain ⟨b,G,e,hlt,J⟩:=h (by simp at hn;omega);exact ⟨b,G,e,hlt,fun k x H=>J k x (by rw [List.getElem?_take] at H;split at H<;>simp_all)⟩
theorem SL.cut (h:SL f w B A xs) {n cap:Nat} (K:xs.length<=cap):SL f w B (if cap=n then A else A.map (·.add n)) (xs.drop n):=fun hn=>by
 have hl:n < xs.length:=by simp at hn;omega
 obtain ⟨b,H,rfl,hlt,G⟩:=h (by omega);rw [if_neg (by omega)];refine ⟨b,H+n,by simp [Addr.add_mid],hlt,fun k x J=>?_⟩;rw [Nat.add_assoc];exact G _ x (by rw [<-J,List.getElem?_drop])
theorem SL.cells (h:SL f w B A xs):0 < (xs.map f).length->∃ad,A=some ad/\∀j v,(xs.map f)[j]? =some v->w.cell? (ad.add j)=some v:=fun hn=>by
 obtain ⟨b,K,e,L,H⟩:=h (by simpa using hn);refine ⟨_,e,fun j v G=>?_⟩;obtain ⟨x,J,rfl⟩:∃x,xs[j]? =some x/\f x=v:=by simpa [List.getElem?_map] using G
 rw [Addr.add_mid,H j x J]
theorem SL.of_block {t:TypeId} {fr:Nat × Nat} {g:Nat} (h:w.heap[g]? =some (.cells (xs.map f).toArray t fr)) (hg:g < B):SL f w B (some ⟨g,0,none⟩) xs:=fun _=>⟨g,0,rfl,hg,At.of_block h⟩
end
def Own {α:Type} (f:α->Value) (e:TypeId) (w:World) (base:Nat) (v:Value) (xs:List α):Prop:=w.ownsRow base e 1 v xs.length (xs.map f)
section
variable {α:Type} {f:α->Value} {e:TypeId} {w w':World} {base B:Nat} {v:Value} {xs ys:List α}
theorem Own.nil:Own f e w base (.slice none 0 0) []:=World.ownsRow_nil w base e 1
theorem Own.alloc (h:Own f e w base v xs) (o:Obj):Own f e (w.alloc o) base v xs:=World.ownsRow.alloc h o
theorem Own.drewN (h:Own f e w base v xs) (n:Nat):Own f e (w.drewN n) base v xs:=h
theorem Own.kept {row:Option Nat} (h:Own f e w base v xs) (hg:w.grownBy w' row) (hne:v.ownBlock=none∨v.ownBlock≠row):Own f e w' base v xs:=World.ownsRow.kept h hg hne
theorem Own.up {B:Nat} (h:Own f e w base v xs) (M:Below B w w') (L:∀k,v.ownBlock=some k->k < B):Own f e w' base v xs:=by
 refine ⟨h.1,?_⟩;rcases h.2 with hn |⟨g,cap,H,rfl,J,K,G⟩
 ·exact .inl hn
 ·exact .inr ⟨g,cap,H,rfl,J,(M.block g (L g rfl)).trans K,G⟩
theorem Own.on (h:Own f e w base v xs) (hb:Below w.heap.size w w'):Own f e w' base v xs:=h.up hb fun k hk=>(World.ownsRow.lt h k hk).2
theorem Own.shape (h:Own f e w base v xs):∃A c,v= .slice A xs.length c/\xs.length<=c/\SL f w w.heap.size A xs/\(∀g,v.ownBlock=some g->base<=g):=by
 have hlt:=World.ownsRow.lt h;have G:= @World.ownsRow.cells w base e 1 v xs.length (xs.map f) h;rcases h.2 with ⟨rfl,hn⟩ |⟨g,cap,M,rfl,_,O,K,N,_⟩
 ·refine ⟨none,0,by rw [hn],by omega,?_,by simp [Value.ownBlock]⟩;obtain rfl:xs=[]:=List.eq_nil_of_length_eq_zero hn;exact SL.nil
 ·refine ⟨_,cap,rfl,K,fun _=>⟨g,0,rfl,(hlt g rfl).2,fun k x L=>?_⟩,fun J H=>(hlt J H).1⟩;have:=G (g:=g) rfl k (f x) (by simp [L]);rwa [Addr.add_mid] at this
theorem Own.below {G:Nat} {H:World} (h:Own f e w base v xs) (L:Below G H w) (K:G<=base) (hs:G<=w.heap.size) (M:w.grownBy w' v.ownBlock):Below G H w':=
 L.grown M hs fun k J=>Nat.le_trans K (World.ownsRow.lt h k J).1
end
section
variable {P:Program} {w:World} {α:Type} {f:α->Value}
theorem run_app (t ty e:TypeId) (i:TypeInfo) (z:Value) (bytes:Nat) (ht:P.underlying t=some (.slice e)) (hi:P.info? e=some i) (hz:i.zero=some z)
 (L:i.size=1) (W:i.bytes=bytes) (ac:z.cells.size=1) (v:Value) (xs:List α) (base:Nat) (G:Own f e w base v xs)
 (A:Option Addr) (m c B:Nat) (ys:List α) (hr:Sl f w B A m ys) (h1:∀y,(f y).oneCell'=true) (K:(xs.length+ys.length)*bytes<=140737488355328) (O:xs.length+ys.length<=maxLen) (M:base<=w.heap.size):
 ∃H J,(Builtin.append_ #[t,t] ty #[v,.slice A m c]).run P w= .ok H J/\Own f e J base H (xs++ys)/\w.grownBy J v.ownBlock/\
  (H.ownBlock=v.ownBlock∨H.ownBlock=some w.heap.size):=by
 obtain ⟨rfl,hr⟩:=hr;rcases A with _ |ad
 ·have hy:ys=[]:=by
   cases ys with
   |nil=>rfl
   |cons y l=>obtain ⟨_,_,hh,_⟩:=hr (by simp);cases hh
  subst hy;refine ⟨v,w,?_,by simpa using G,World.grownBy.refl w _,.inl rfl⟩;rcases G.2 with ⟨rfl,h0⟩ |⟨g,cap,ae,rfl,_,_,Y,_⟩
  ·simp [Builtin.append_,run_underlying ht,sizeOf,typeInfo,hi,Builtin.lenOf,Builtin.firstCells]
  ·simp [Builtin.append_,run_underlying ht,sizeOf,typeInfo,hi,Builtin.lenOf,Builtin.firstCells,Y,storeCells]
 ·obtain ⟨H,J,Z,U,aa,_,T⟩:=run_append_own_at (P:=P) (w:=w) base t ty e i z 1 bytes ht hi hz L W ac (by omega) v xs.length (xs.map f) G ad ys.length c (ys.map f) (by simp)
   (fun j u N=>by
     have hj:0 < (ys.map f).length:=by have:=(List.getElem?_eq_some_iff.1 N).1;omega
     obtain ⟨af,h,hc⟩:=hr.cells hj;injection h with h;subst h
     exact hc j u N)
   (fun u N=>by obtain ⟨y,_,rfl⟩:=List.mem_map.1 N;exact h1 y) O K M
  refine ⟨H,J,Z,?_,aa,T⟩;unfold Own;rw [List.length_append,List.map_append];exact U
theorem wp_app {o:Oper} {a:Act} {K:Act->World->Prop} {Q:Exit->Act->World->Prop} (s x:Operand) (t:TypeId)
 (J:o.op= .call {callee:= .builtin .append,args:=#[s,x],argTypes:=#[t,t]})
 (e:TypeId) (i:TypeInfo) (z:Value) (bytes:Nat) (ht:P.underlying t=some (.slice e)) (hi:P.info? e=some i) (hz:i.zero=some z)
 (hsize:i.size=1) (hby:i.bytes=bytes) (hzs:z.cells.size=1) (v:Value) (xs:List α) (base:Nat) (hs:a.eval s=v) (hown:Own f e w base v xs)
 (A:Option Addr) (m c B:Nat) (ys:List α) (hx:a.eval x= .slice A m c) (hr:Sl f w B A m ys) (h1:∀y,(f y).oneCell'=true) (hbytes:(xs.length+ys.length)*bytes<=140737488355328) (hmax:xs.length+ys.length<=maxLen) (hbase:base<=w.heap.size)
 (h:∀G H,Own f e H base G (xs++ys)->w.grownBy H v.ownBlock->(G.ownBlock=v.ownBlock∨G.ownBlock=some w.heap.size)->K (a.put o.dst G) H):o.wp P a w K Q:=by
 obtain ⟨G,H,hr,h2,M,L⟩:=run_app (P:=P) t o.type e i z bytes ht hi hz hsize hby hzs v xs base hown A m c B ys hr h1 hbytes hmax hbase;unfold Oper.wp execOp;simp only [J,resolve,invoke,builtin,Sem.run_bind,Sem.run_pure,Result.andThen_ok,List.map_toArray,List.map_cons,List.map_nil,hs,hx,hr];exact h G H h2 M L
theorem ybE {ops:Array Oper} {J:List Oper} {o:Oper} {a:Act} {Q:Exit->Act->World->Prop} (K:o.guard=none) (s x:Operand) (t:TypeId)
 (L:o.op= .call {callee:= .builtin .append,args:=#[s,x],argTypes:=#[t,t]})
 (e:TypeId) (i:TypeInfo) (z:Value) (bytes:Nat) (ht:P.underlying t=some (.slice e)) (hi:P.info? e=some i) (hz:i.zero=some z)
 (hsize:i.size=1) (hby:i.bytes=bytes) (hzs:z.cells.size=1) (v:Value) (xs:List α) (base:Nat) (hs:a.eval s=v) (hown:Own f e w base v xs)
 (A:Option Addr) (m c B:Nat) (ys:List α) (hx:a.eval x= .slice A m c) (hr:Sl f w B A m ys) (h1:∀y,(f y).oneCell'=true) (hbytes:(xs.length+ys.length)*bytes<=140737488355328) (hmax:xs.length+ys.length<=maxLen) (hbase:base<=w.heap.size)
 (h:∀G H,Hid (Own f e H base G (xs++ys))->Hid (w.grownBy H v.ownBlock)->Hid (G.ownBlock=v.ownBlock∨G.ownBlock=some w.heap.size)->wpList P ops Q J (a.put o.dst G) H):wpList P ops Q (o::J) a w:=
 wpList_plain K fun _ N=>wp_app s x t L e i z bytes ht hi hz hsize hby hzs v xs base hs hown A m c B ys hx hr h1 hbytes hmax hbase fun G H h2 O M=>N _ _ (h G H h2 O M)
theorem ybw {ops:Array Oper} {L:List Oper} {o:Oper} {a:Act} {Q:Exit->Act->World->Prop} (M:o.guard=none) (s x:Operand) (t:TypeId)
 (T:o.op= .call {callee:= .builtin .append,args:=#[s,x],argTypes:=#[t,t]})
 (e:TypeId) (i:TypeInfo) (z:Value) (bytes:Nat) (ht:P.underlying t=some (.slice e)) (hi:P.info? e=some i) (hz:i.zero=some z)
 (hsize:i.size=1) (hby:i.bytes=bytes) (hzs:z.cells.size=1) (v:Value) (xs:List α) (base:Nat) (hs:a.eval s=v) (hown:Own f e w base v xs)
 (y:α) (c:Nat) (hx:a.eval x= .slice (some ⟨w.heap.size,0,none⟩) 1 c) (h1:∀y,(f y).oneCell'=true) (hbytes:(xs.length+1)*bytes<=140737488355328) (hmax:xs.length+1<=maxLen) (hbase:base<=w.heap.size)
 (h:∀G H,Hid (Own f e H base G (xs++[y]))->Hid (w.grownBy H v.ownBlock)->Hid (G.ownBlock=v.ownBlock∨∃g,G.ownBlock=some g/\w.heap.size<=g)->wpList P ops Q L (a.put o.dst G) H):wpList P ops Q (o::L) a (w.alloc (.cells #[f y] e)):=
 wpList_plain M fun _ U=>wp_app s x t T e i z bytes ht hi hz hsize hby hzs v xs base hs (hown.alloc _) _ 1 c _ [y] hx (SL.sl (SL.of_block (t:=e) (fr:=(0,0)) (heap_alloc_new w _) (Nat.lt_succ_self _))) h1 hbytes hmax (by simp;omega)
  fun G H h2 K J=>U _ _ (h G H h2 ⟨K.os,K.tape,K.output,Nat.le_trans (by simp) K.size,fun k O N=>(K.block k (by simp;omega) N).trans (Below.heap_alloc w _ k O)⟩ (by
   rcases J with J |J
   ·exact .inl J
   ·exact .inr ⟨_,J,by simp⟩))
theorem yd7 {ops:Array Oper} {H:List Oper} {o:Oper} {a:Act} {Q:Exit->Act->World->Prop} (K:o.guard=none) (J:TypeId) (x y:Operand) (O:o.op= .store J x y)
 (g:Nat) (t:TypeId) (G cells:Array Value) (Y:a.eval x= .pointer (some ⟨g,0,none⟩)) (T:a.eval y= .agg cells) (M:w.heap[g]? =some (.cells G t (0,0))) (hi:(P.info? J).map (·.size)=some cells.size)
 (hs:G.size=cells.size) (h1:cells.all (·.oneCell')=true) (B:Nat) (L:World) (W:Below B L w) (U:B<=g)
 (h:∀w',Hid (w'.heap[g]? =some (.cells cells t (0,0)))->Below B L w'->Hid (w.grownBy w' (some g))->wpList P ops Q H (a.put o.dst undef) w'):wpList P ops Q (o::H) a w:=by
 refine wpList_store_row K J x y O g cells Y T t G M hi hs h1 ?_;exact h _ (setRow_heap w g _ _ t _ M) (below_setRow W U _) ⟨rfl,rfl,rfl,by simp [World.setRow],fun k _ N=>setRow_other w g k cells (fun e=>N (by rw [e]))⟩
theorem ybr {ops:Array Oper} {H:List Oper} {o:Oper} {a:Act} {Q:Exit->Act->World->Prop} (K:o.guard=none) (J:TypeId) (x y:Operand) (L:o.op= .store J x y)
 (t:TypeId) (G cells:Array Value) (N:a.eval x= .pointer (some ⟨w.heap.size,0,none⟩)) (M:a.eval y= .agg cells) (hi:(P.info? J).map (·.size)=some cells.size)
 (hs:G.size=cells.size) (h1:cells.all (·.oneCell')=true)
 (h:wpList P ops Q H (a.put o.dst undef) (w.alloc (.cells cells t))):wpList P ops Q (o::H) a (w.alloc (.cells G t)):=by
 refine wpList_store_row K J x y L w.heap.size cells N M t G (heap_alloc_new w _) hi hs h1 ?_;rw [World.setRow_alloc_new];exact h
theorem yd0 {J:Func} {p u:Tmp} {H:TypeId} (hr:J.results=#[.cell p H,.tmp u]) {G:Array Value} {g:Nat} {t:TypeId} {cs:Array Value} {fr:Nat × Nat} {n e:Nat}
 (hp:G.getD p undef= .pointer (some ⟨g,0,none⟩)) (L:w.heap[g]? =some (.cells cs t fr)) (K:P.underlying H=some (.array n e)) (hi:(P.info? H).map (·.size)=some cs.size):
 (results J G).run P w= .ok (.tuple #[.agg cs,G.getD u undef]) w:=by
 rw [results_cell_tmp hr,hp];simp [asAddr,Result.andThen,run_loadVar_row w g t H cs fr _ L K rfl hi]
end
theorem yds {P:Program} (t e n:Nat) (i:TypeInfo) (ht:P.underlying t=some (.array n e)) (hi:P.info? e=some i) (g G:Nat) (H:IntKind) (h:Int) (m:Nat) (J:h=m) (h2:m<=n) (w:World):
 (Instr.sliceAt t (.pointer (some ⟨g,G,none⟩)) none (some (.int H h)) none).run P w= .ok (.slice (some ⟨g,G,none⟩) m n) w:=by
 subst J;simp [Instr.sliceAt,run_underlying ht,Instr.sureAddr,Instr.sliceBounds,run_sliceBound w H (m:Int) n _ (by omega) (by omega),sizeOf,typeInfo,hi,Addr.add]
theorem ybR {P:Program} (t e:Nat) (i:TypeInfo) (ht:P.underlying t=some (.slice e)) (hi:P.info? e=some i) (A:Option Addr) (n c:Nat) (G:IntKind) (h:Int) (m:Nat) (J:h=m) (h2:m<=c) (w:World):
 (Instr.slice t (.slice A n c) none (some (.int G h)) none).run P w= .ok (.slice A m c) w:=by
 subst J;have H:(Option.map (fun a:Addr=>a.add 0) A)=A:=by cases A<;>simp [Addr.add]
 simp [Instr.slice,run_underlying ht,Instr.sliceBounds,run_sliceBound w G (m:Int) c _ (by omega) (by omega),sizeOf,typeInfo,hi,H]
theorem ybm {w w':World} {row:Option Nat} {B:Nat} (h:w.grownBy w' row) (hr:∀k,row=some k->B<=k) (hB:B<=w.heap.size):Below B w w':=
 (Below.refl _ _).grown h hB hr
def Slc {α:Type} (f:α->Value) (xs:List α) (w:World) (e:Ending) (w':World):Prop:=
 ∃A n c,e= .returned (.slice A n c)/\n<=c/\Sl f w' w'.heap.size A n xs/\Below w.heap.size w w'
def Slc2 {α:Type} (f:α->Value) (xs:List α) (r:Int) (w:World) (e:Ending) (w':World):Prop:=
 ∃A n c,e= .returned (.tuple #[.slice A n c,.int .i64 r])/\n<=c/\Sl f w' w'.heap.size A n xs/\Below w.heap.size w w'
structure Hd where
 a:Option Addr
 n:Nat
 c:Nat
def fS (h:Hd):Value:= .slice h.a h.n h.c
def SLL {α:Type} (f:α->Value) (w:World) (B:Nat) (A:Option Addr) (n:Nat) (vs:List (List α)):Prop:=
 ∃hs:List Hd,Sl fS w B A n hs/\vs.length=n/\∀(k:Nat) (h:Hd) (v:List α),hs[k]? =some h->vs[k]? =some v->Sl f w B h.a h.n v
theorem SLL.up {α:Type} {f:α->Value} {w G:World} {B H n:Nat} {A:Option Addr} {vs:List (List α)} (h:SLL f w B A n vs) (K:Below H w G) (J:B<=H):SLL f G B A n vs:=by
 obtain ⟨hs,h1,h2,N⟩:=h;exact ⟨hs,h1.up K J,h2,fun k h v M L=>(N k h v M L).up K J⟩
theorem SLL.at_ {α:Type} {f:α->Value} {w:World} {B n:Nat} {A:Option Addr} {vs:List (List α)} (h:SLL f w B A n vs) {k:Nat} (N:k < n):
 ∃b G a m c v,A=some ⟨b,G,none⟩/\b < B/\vs[k]? =some v/\w.cell? ⟨b,G+k,none⟩=some (.slice a m c)/\Sl f w B a m v:=by
 obtain ⟨hs,h1,h2,K⟩:=h;obtain ⟨b,G,e,L,M⟩:=h1.2 (by have:=h1.1;omega);obtain ⟨h,J⟩:=ybQ (xs:=hs) (k:=k) (by have:=h1.1;omega);obtain ⟨v,H⟩:=ybQ (xs:=vs) (k:=k) (by omega);exact ⟨b,G,h.a,h.n,h.c,v,e,L,H,M k h J,K k h v J H⟩
abbrev I:=Value.int .i64
theorem I1:∀y,(I y).oneCell'=true:=fun _=>rfl
theorem flat_get {α:Type} {f:α->List Value} {s:Nat} (hs:∀x,(f x).length=s):∀(xs:List α) (k j:Nat) (x:α),xs[k]? =some x->j < s->(xs.flatMap f)[k*s+j]? =(f x)[j]?
 | [],k,j,x,h,_=>by simp at h
 |y::xs,0,j,x,h,hj=>by
  simp at h;subst h;rw [List.flatMap_cons,Nat.zero_mul,Nat.zero_add,List.getElem?_append_left (by rw [hs];exact hj)]
 |y::xs,k+1,j,x,h,hj=>by
  rw [List.flatMap_cons,List.getElem?_append_right (by rw [hs,Nat.succ_mul];omega),hs];have:(k+1)*s+j - s=k*s+j:=by rw [Nat.succ_mul];omega
  rw [this];exact flat_get hs xs k j x (by simpa using h) hj
theorem ycG {α:Type} {f:α->List Value} {s:Nat} (hs:∀x,(f x).length=s) (xs:List α):(xs.flatMap f).length=xs.length*s:=by
 induction xs with
 |nil=>simp
 |cons x xs ih=>rw [List.flatMap_cons,List.length_append,hs,ih,List.length_cons,Nat.succ_mul];omega
def AtN {α:Type} (f:α->List Value) (s:Nat) (w:World) (b off:Nat) (xs:List α):Prop:=
 ∀k x,xs[k]? =some x->∀j v,(f x)[j]? =some v->w.cell? ⟨b,off+(k*s+j),none⟩=some v
def SlN {α:Type} (f:α->List Value) (s:Nat) (w:World) (B:Nat) (A:Option Addr) (n:Nat) (xs:List α):Prop:=
 xs.length=n/\(0 < xs.length->∃b off,A=some ⟨b,off,none⟩/\b < B/\AtN f s w b off xs)
section
variable {α:Type} {f:α->List Value} {s:Nat} {w w':World} {b off B B' n:Nat} {A:Option Addr} {xs ys:List α}
theorem AtN.below (h:AtN f s w b off xs) (hb:Below B w w') (hB:b < B):AtN f s w' b off xs:=fun k x hx j v hv=>(hb.cell (p:=⟨b,_,none⟩) hB).trans (h k x hx j v hv)
theorem SlN.up (h:SlN f s w B A n xs) (hb:Below B' w w') (hB:B<=B'):SlN f s w' B A n xs:=⟨h.1,fun hn=>by
 obtain ⟨b,off,e,hlt,hc⟩:=h.2 hn
 exact ⟨b,off,e,hlt,hc.below hb (by omega)⟩⟩
theorem SlN.more (h:SlN f s w B A n xs) (hB:B<=B'):SlN f s w B' A n xs:=⟨h.1,fun hn=>by
 obtain ⟨b,off,e,hlt,hc⟩:=h.2 hn
 exact ⟨b,off,e,by omega,hc⟩⟩
theorem SlN.nil:SlN f s w B A 0 []:=⟨rfl,fun h=>absurd h (by simp)⟩
theorem SlN.at_ (h:SlN f s w B A n xs) {k:Nat} (J:k < n):∃b G x,A=some ⟨b,G,none⟩/\b < B/\xs[k]? =some x/\∀j v,(f x)[j]? =some v->w.cell? ⟨b,G+(k*s+j),none⟩=some v:=by
 have H:k < xs.length:=by rw [h.1];exact J
 obtain ⟨b,G,e,K,L⟩:=h.2 (by omega);exact ⟨b,G,xs[k],e,K,List.getElem?_eq_getElem H,L k _ (List.getElem?_eq_getElem H)⟩
end
def OwnN {α:Type} (f:α->List Value) (s:Nat) (e:TypeId) (w:World) (base:Nat) (v:Value) (xs:List α):Prop:=w.ownsRow base e s v xs.length (xs.flatMap f)
section
variable {α:Type} {f:α->List Value} {s:Nat} {e:TypeId} {w w':World} {base B:Nat} {v:Value} {xs ys:List α}
theorem OwnN.nil:OwnN f s e w base (.slice none 0 0) []:=World.ownsRow_nil w base e s
theorem OwnN.alloc (h:OwnN f s e w base v xs) (o:Obj):OwnN f s e (w.alloc o) base v xs:=World.ownsRow.alloc h o
theorem OwnN.drewN (h:OwnN f s e w base v xs) (n:Nat):OwnN f s e (w.drewN n) base v xs:=h
theorem OwnN.drew (h:OwnN f s e w base v xs):OwnN f s e w.drew base v xs:=h
theorem OwnN.kept {row:Option Nat} (h:OwnN f s e w base v xs) (hg:w.grownBy w' row) (hne:v.ownBlock=none∨v.ownBlock≠row):OwnN f s e w' base v xs:=World.ownsRow.kept h hg hne
theorem OwnN.up {B:Nat} (h:OwnN f s e w base v xs) (M:Below B w w') (L:∀k,v.ownBlock=some k->k < B):OwnN f s e w' base v xs:=by
 refine ⟨h.1,?_⟩;rcases h.2 with hn |⟨g,cap,H,rfl,J,K,G⟩
 ·exact .inl hn
 ·exact .inr ⟨g,cap,H,rfl,J,(M.block g (L g rfl)).trans K,G⟩
theorem OwnN.on (h:OwnN f s e w base v xs) (hb:Below w.heap.size w w'):OwnN f s e w' base v xs:=h.up hb fun k hk=>(World.ownsRow.lt h k hk).2
theorem OwnN.shape (hs:∀x,(f x).length=s) (h:OwnN f s e w base v xs):∃A c,v= .slice A xs.length c/\xs.length<=c/\SlN f s w w.heap.size A xs.length xs/\(∀g,v.ownBlock=some g->base<=g):=by
 have hlt:=World.ownsRow.lt h;have G:= @World.ownsRow.cells w base e s v xs.length (xs.flatMap f) h;rcases h.2 with ⟨rfl,hn⟩ |⟨g,cap,N,rfl,_,T,K,O,_⟩
 ·refine ⟨none,0,by rw [hn],by omega,?_,by simp [Value.ownBlock]⟩;obtain rfl:xs=[]:=List.eq_nil_of_length_eq_zero hn;exact SlN.nil
 ·refine ⟨_,cap,rfl,K,⟨rfl,fun _=>⟨g,0,rfl,(hlt g rfl).2,fun k x L j u H=>?_⟩⟩,fun M J=>(hlt M J).1⟩;have hj:j < s:=by have:=(List.getElem?_eq_some_iff.1 H).1;rw [hs] at this;exact this
  have:=G (g:=g) rfl (k*s+j) u (by rw [flat_get hs xs k j x L hj];exact H);rwa [Addr.add_mid] at this
theorem OwnN.below {G:Nat} {H:World} (h:OwnN f s e w base v xs) (L:Below G H w) (K:G<=base) (hs:G<=w.heap.size) (M:w.grownBy w' v.ownBlock):Below G H w':=
 L.grown M hs fun k J=>Nat.le_trans K (World.ownsRow.lt h k J).1
end
section
variable {P:Program} {w:World} {α:Type} {f:α->List Value} {s:Nat}
theorem run_appN (hs:∀x,(f x).length=s) (T:0 < s) (t ty e:TypeId) (i:TypeInfo) (z:Value) (bytes:Nat) (ht:P.underlying t=some (.slice e)) (hi:P.info? e=some i) (hz:i.zero=some z)
 (L:i.size=s) (ae:i.bytes=bytes) (ai:z.cells.size=s) (v:Value) (xs:List α) (base:Nat) (G:OwnN f s e w base v xs)
 (A:Option Addr) (m c B:Nat) (ys:List α) (hr:SlN f s w B A m ys) (h1:∀y,∀u∈f y,u.oneCell'=true) (K:(xs.length+m)*bytes<=140737488355328) (U:xs.length+m<=maxLen) (M:base<=w.heap.size):
 ∃H J,(Builtin.append_ #[t,t] ty #[v,.slice A m c]).run P w= .ok H J/\OwnN f s e J base H (xs++ys)/\w.grownBy J v.ownBlock/\
  (H.ownBlock=v.ownBlock∨H.ownBlock=some w.heap.size):=by
 obtain ⟨rfl,hr⟩:=hr;rcases A with _ |ad
 ·have W:ys=[]:=by
   cases ys with
   |nil=>rfl
   |cons y l=>obtain ⟨_,_,hh,_⟩:=hr (by simp);cases hh
  subst W;refine ⟨v,w,?_,by simpa using G,World.grownBy.refl w _,.inl rfl⟩;rcases G.2 with ⟨rfl,h0⟩ |⟨g,cap,aj,rfl,_,_,af,_⟩
  ·simp [Builtin.append_,run_underlying ht,sizeOf,typeInfo,hi,Builtin.lenOf,Builtin.firstCells]
  ·simp [Builtin.append_,run_underlying ht,sizeOf,typeInfo,hi,Builtin.lenOf,Builtin.firstCells,af,storeCells]
 ·obtain ⟨H,J,ag,ac,ah,_,Z⟩:=run_append_own_at (P:=P) (w:=w) base t ty e i z s bytes ht hi hz L ae ai T v xs.length (xs.flatMap f) G ad ys.length c (ys.flatMap f) (ycG hs ys)
   (fun j u N=>by
     have hj:j < ys.length*s:=by have:=(List.getElem?_eq_some_iff.1 N).1;rw [ycG hs] at this;exact this
     have aa:0 < ys.length:=by
      rcases Nat.eq_zero_or_pos ys.length with h0 |h0
      ·rw [h0] at hj;omega
      ·exact h0
     obtain ⟨b,ak,h,_,hc⟩:=hr aa;injection h with h;subst h;have hk:j / s < ys.length:=Nat.div_lt_of_lt_mul (by rwa [Nat.mul_comm]);have O:j / s*s+j % s=j:=by rw [Nat.mul_comm];exact Nat.div_add_mod j s
     have hm:=Nat.mod_lt j T;rw [Addr.add_mid];have Y:=flat_get hs ys (j / s) (j % s) ys[j / s] (List.getElem?_eq_getElem hk) hm;rw [O] at Y;have:=hc (j / s) _ (List.getElem?_eq_getElem hk) (j % s) u (by rw [<-Y];exact N)
     rwa [O] at this)
   (fun u N=>by obtain ⟨y,_,W⟩:=List.mem_flatMap.1 N;exact h1 y u W) U K M
  refine ⟨H,J,ag,?_,ah,Z⟩;unfold OwnN;rw [List.length_append,List.flatMap_append];exact ac
theorem wp_appN (hs:∀x,(f x).length=s) (J:0 < s) {o:Oper} {a:Act} {K:Act->World->Prop} {Q:Exit->Act->World->Prop} (sl x:Operand) (t:TypeId)
 (L:o.op= .call {callee:= .builtin .append,args:=#[sl,x],argTypes:=#[t,t]})
 (e:TypeId) (i:TypeInfo) (z:Value) (bytes:Nat) (ht:P.underlying t=some (.slice e)) (hi:P.info? e=some i) (hz:i.zero=some z)
 (hsize:i.size=s) (hby:i.bytes=bytes) (hzs:z.cells.size=s) (v:Value) (xs:List α) (base:Nat) (hsl:a.eval sl=v) (hown:OwnN f s e w base v xs)
 (A:Option Addr) (m c B:Nat) (ys:List α) (hx:a.eval x= .slice A m c) (hr:SlN f s w B A m ys) (h1:∀y,∀u∈f y,u.oneCell'=true) (hbytes:(xs.length+m)*bytes<=140737488355328) (hmax:xs.length+m<=maxLen) (hbase:base<=w.heap.size)
 (h:∀G H,OwnN f s e H base G (xs++ys)->w.grownBy H v.ownBlock->(G.ownBlock=v.ownBlock∨G.ownBlock=some w.heap.size)->K (a.put o.dst G) H):o.wp P a w K Q:=by
 obtain ⟨G,H,hr,h2,N,M⟩:=run_appN (P:=P) hs J t o.type e i z bytes ht hi hz hsize hby hzs v xs base hown A m c B ys hr h1 hbytes hmax hbase;unfold Oper.wp execOp;simp only [L,resolve,invoke,builtin,Sem.run_bind,Sem.run_pure,Result.andThen_ok,List.map_toArray,List.map_cons,List.map_nil,hsl,hx,hr];exact h G H h2 N M
theorem yct (hs:∀x,(f x).length=s) (T:0 < s) {ops:Array Oper} {L:List Oper} {o:Oper} {a:Act} {Q:Exit->Act->World->Prop} (O:o.guard=none) (sl x:Operand) (t:TypeId)
 (W:o.op= .call {callee:= .builtin .append,args:=#[sl,x],argTypes:=#[t,t]})
 (e:TypeId) (i:TypeInfo) (z:Value) (bytes:Nat) (ht:P.underlying t=some (.slice e)) (hi:P.info? e=some i) (hz:i.zero=some z)
 (hsize:i.size=s) (hby:i.bytes=bytes) (hzs:z.cells.size=s) (v:Value) (xs:List α) (base:Nat) (hsl:a.eval sl=v) (hown:OwnN f s e w base v xs)
 (y:α) (c:Nat) (hx:a.eval x= .slice (some ⟨w.heap.size,0,none⟩) 1 c) (h1:∀y,∀u∈f y,u.oneCell'=true) (hbytes:(xs.length+1)*bytes<=140737488355328) (hmax:xs.length+1<=maxLen) (hbase:base<=w.heap.size)
 (h:∀G H,Hid (OwnN f s e H base G (xs++[y]))->Hid (w.grownBy H v.ownBlock)->Hid (G.ownBlock=v.ownBlock∨∃g,G.ownBlock=some g/\w.heap.size<=g)->wpList P ops Q L (a.put o.dst G) H):wpList P ops Q (o::L) a (w.alloc (.cells (f y).toArray e)):=
 wpList_plain O fun _ Y=>wp_appN hs T sl x t W e i z bytes ht hi hz hsize hby hzs v xs base hsl (hown.alloc _) _ 1 c (w.heap.size+1) [y] hx
  ⟨rfl,fun _=>⟨w.heap.size,0,rfl,Nat.lt_succ_self _,fun k y' N j u Z=>by
    have M:k=0:=by have:=(List.getElem?_eq_some_iff.1 N).1;simp at this;exact this
    subst M;simp at N;subst N
    rw [cell_of_row _ _ _ _ _ _ (heap_alloc_new w _),Nat.zero_mul,Nat.zero_add,Nat.zero_add,List.getElem?_toArray];exact Z⟩⟩ h1 hbytes hmax (by simp;omega)
  fun G H h2 K J=>Y _ _ (h G H h2 ⟨K.os,K.tape,K.output,Nat.le_trans (by simp) K.size,fun k M U=>(K.block k (by simp;omega) U).trans (Below.heap_alloc w _ k M)⟩ (by
   rcases J with J |J
   ·exact .inl J
   ·exact .inr ⟨_,J,by simp⟩))
end
theorem SlN.of_block {α:Type} {f:α->List Value} {s:Nat} {w:World} {g B:Nat} {t:TypeId} {fr:Nat × Nat} {y:α} (h:w.heap[g]? =some (.cells (f y).toArray t fr)) (K:g < B):SlN f s w B (some ⟨g,0,none⟩) 1 [y]:=
 ⟨rfl,fun _=>⟨g,0,rfl,K,fun k L G j u J=>by
     have H:k=0:=by have:=(List.getElem?_eq_some_iff.1 G).1;simp at this;exact this
     subst H;simp at G;subst G
     rw [cell_of_row _ _ _ _ _ _ h,Nat.zero_mul,Nat.zero_add,Nat.zero_add,List.getElem?_toArray];exact J⟩⟩
theorem Tryz.infoB:(prog.info? 5).map (fun i=>(i.zero,i.size,i.bytes))=some (some (.int .u8 0),1,1):=by kernel_rfl
abbrev fB:=Value.int .u8
theorem fB1:∀y,(fB y).oneCell'=true:=fun _=>rfl
structure But (p:Nat->Prop) (w w':World):Prop where
 os:w'.os=w.os
 tape:w'.tape=w.tape
 output:w'.output=w.output
 size:w.heap.size<=w'.heap.size
 block:∀k,k < w.heap.size->¬p k->w'.heap[k]? =w.heap[k]?
theorem But.refl (p:Nat->Prop) (w:World):But p w w:=⟨rfl,rfl,rfl,Nat.le_refl _,fun _ _ _=>rfl⟩
theorem But.trans {p q:Nat->Prop} {a b c:World} (h:But p a b) (k:But q b c) (J:∀i,q i->p i∨a.heap.size<=i):But p a c:=
 ⟨k.os.trans h.os,k.tape.trans h.tape,k.output.trans h.output,Nat.le_trans h.size k.size,fun i hi hp=>(k.block i (Nat.lt_of_lt_of_le hi h.size) (fun H=>by
   rcases J i H with G |G
   ·exact hp G
   ·omega)).trans (h.block i hi hp)⟩
theorem But.alloc {p:Nat->Prop} {a b:World} (h:But p a b) (o:Obj):But p a (b.alloc o):=
 ⟨h.os,h.tape,h.output,Nat.le_trans h.size (by simp),fun i hi hp=>(Below.heap_alloc b o i (Nat.lt_of_lt_of_le hi h.size)).trans (h.block i hi hp)⟩
theorem But.setCell {p:Nat->Prop} {a b:World} (h:But p a b) {x:Addr} (H:p x.block∨a.heap.size<=x.block) (u:Value):But p a (b.setCell x u):=
 ⟨h.os,h.tape,h.output,Nat.le_trans h.size (by simp [World.setCell]),fun i hi hp=>(Below.heap_setCell b x u i (fun e=>by
   subst e;rcases H with G |G
   ·exact hp G
   ·omega)).trans (h.block i hi hp)⟩
theorem But.drewN {p:Nat->Prop} {a b:World} (h:But p a b) (n:Nat):But p a (b.drewN n):=⟨h.os,h.tape,h.output,h.size,h.block⟩
theorem But.grown {p:Nat->Prop} {a b c:World} (h:But p a b) {row:Option Nat} (G:b.grownBy c row) (hr:∀k,row=some k->p k∨a.heap.size<=k):But p a c:=
 h.trans (q:=fun k=>row=some k) ⟨G.os,G.tape,G.output,G.size,fun k H hn=>G.block k H (fun e=>hn e.symm)⟩ hr
theorem But.of_below {p:Nat->Prop} {a b:World} (h:Below a.heap.size a b):But p a b:=⟨h.os,h.tape,h.output,h.size,fun k hk _=>h.block k hk⟩
theorem But.mono {p q:Nat->Prop} {a b:World} (h:But p a b) (H:∀i,p i->q i∨a.heap.size<=i):But q a b:=
 ⟨h.os,h.tape,h.output,h.size,fun i hi hn=>h.block i hi (fun hp=>by
   rcases H i hp with G |G
   ·exact hn G
   ·omega)⟩
theorem But.below {p:Nat->Prop} {a b:World} {B:Nat} (h:But p a b) (H:B<=a.heap.size) (hp:∀i,p i->B<=i):Below B a b:=
 ⟨h.os,h.tape,h.output,h.size,fun i hi=>h.block i (by omega) (fun G=>by have:=hp i G;omega)⟩
theorem SL.but {α:Type} {f:α->Value} {w G:World} {B:Nat} {A:Option Addr} {xs:List α} {p:Nat->Prop} (h:SL f w B A xs) (J:But p w G) (M:B<=w.heap.size) (L:∀a,A=some a->¬p a.block):SL f G B A xs:=fun hn=>by
 obtain ⟨b,H,e,hlt,K⟩:=h hn;exact ⟨b,H,e,hlt,K.keep (J.block b (by omega) (L _ e))⟩
def encF:Nat->Nat->List Int
 |0,_=>[]
 |k+1,n=>if n < 128 then [(n:Int)] else ((n % 128+128:Nat):Int)::encF k (n / 128)
def enc (n:Nat):List Int:=encF 10 n
theorem encF_len (k n:Nat):(encF k n).length<=k:=by
 induction k generalizing n with
 |zero=>exact Nat.le_refl _
 |succ k ih=>
  unfold encF
  split
  ·simp
  ·have:=ih (n / 128);simp only [List.length_cons];omega
theorem ybx (n:Nat):(enc n).length<=10:=encF_len 10 n
theorem or128 (n:Nat):bits .or .u8 ((n:Int) % 256) 128=(n:Int) % 128+128:=by
 have h1:((n:Int) % 256)=((n % 256:Nat):Int):=by omega
 have h2:n % 256 < 256:=Nat.mod_lt _ (by omega)
 have H:∀a:Nat,a < 256->bits .or .u8 ((a:Nat):Int) 128=((a % 128+128:Nat):Int):=by
  intro a ha;have G:∀a:Fin 256,bits .or .u8 ((a.val:Nat):Int) 128=((a.val % 128+128:Nat):Int):=by decide+kernel
  exact G ⟨a,ha⟩
 rw [h1,H _ h2];omega
theorem yc7 (v:Value) (bs:List Int) (n:Nat) (w:World) (base:Nat) (af:Own fB 5 w base v bs) (ak:base<=w.heap.size) (hn:n < 18446744073709551616) (al:bs.length<=1099511627776):
 Calls prog 135 #[v,.int .u64 n] w fun e w'=>∃v',e= .returned v'/\Own fB 5 w' base v' (bs++enc n)/\But (fun k=>v.ownBlock=some k) w w'/\(v'.ownBlock=v.ownBlock∨∃g,v'.ownBlock=some g/\w.heap.size<=g):=by
 obtain ⟨i0,hi,T,Z,z⟩:=info_parts Tryz.infoB;have HI:=Lib.hid hi;have ac:=Lib.hid T;have ae:=Lib.hid Z;have Y:=Lib.hid z;clear hi T Z z;have ag:Hid (n < 128 ^ 10):=by show _ < _;omega
 clear hn;go_enter func135,ntmps135;go_wp2
 go_loopw [0,1] (fun u i wr=>∃(k m:Nat) (out:List Int),i= .int .u64 m/\Hid (m < 128 ^ k)/\0 < k/\k<=10/\out.length+k<=10/\Hid (out++encF k m=enc n)/\Hid (Own fB 5 wr base u (bs++out))/\Hid (But (fun k=>v.ownBlock=some k) w wr)/\Hid (u.ownBlock=v.ownBlock∨∃g,u.ownBlock=some g/\w.heap.size<=g)) (fun _ i _=>(intOf i).toNat)
 case atStart=>exact ⟨10,n,[],rfl,ag,by omega,by omega,by simp,by show _=_;rfl,by show Own _ _ _ _ _ _;rw [List.append_nil];exact af,But.refl _ _,.inl rfl⟩
 case round=>
  obtain ⟨k,m,out,rfl,HM,ao,K,aq,HE,HO,HB,HV⟩:=hrel;have aa:Hid (((bs++out).length+1)*1<=140737488355328):=by show _<=_;rw [List.length_append];omega
  have U:Hid ((bs++out).length+1<=maxLen):=by show _<=_;rw [List.length_append];unfold maxLen;omega
  have HS:Hid (base<=wr.heap.size):=by show _<=_;have:=HB.out.size;omega
  have J:Hid (∀W L,wr.grownBy W u0.ownBlock->(L=u0.ownBlock∨∃g,L=some g/\wr.heap.size<=g)->But (fun k=>v.ownBlock=some k) w W/\(L=v.ownBlock∨∃g,L=some g/\w.heap.size<=g)):=fun W L hg ai=>by
   refine ⟨HB.out.grown hg fun k K=>?_,?_⟩
   ·rcases HV.out with h |⟨g,h,ah⟩
    ·exact .inl (by rw [<-h];exact K)
    ·right;rw [h] at K;injection K with K;omega
   ·rcases ai with h |⟨g,h,ah⟩
    ·rw [h];exact HV.out
    ·exact .inr ⟨g,h,by have:=HB.out.size;omega⟩
  obtain ⟨k,rfl⟩:∃k',k=k'+1:=⟨k - 1,by omega⟩
  by_cases am:128<=m
  ·have hor:=or128 m;have O:Hid (m / 128 < 128 ^ k):=by show _ < _;have:=HM.out;rw [Nat.pow_succ] at this;omega
   have aj:0 < k:=by
    have:=O.out
    rcases k with _ |k
    ·rw [Nat.pow_zero] at this;omega
    ·omega
   have M:Hid ((out++[(m:Int) % 128+128])++encF k (m / 128)=enc n):=by
    show _=_;rw [<-HE.out,encF,if_neg (by omega),List.append_assoc]
    congr 1
   go_wp2_with (with_reducible refine ybw (o:=⟨some 12,_,_,_,_,_⟩) rfl (.tmp 7) (.tmp 11) 40 rfl 5 i0 (.int .u8 0) 1 underlying40 HI.out ac.out ae.out Y.out rfl _ (bs++out) base rfl HO.out ((m:Int) % 128+128) 1 rfl fB1 aa.out U.out HS.out ?_;intro v1 w1 N H G)
   go_roundw
   case rel=>exact ⟨k,m / 128,out++[(m:Int) % 128+128],by first |rfl |go_num,O,aj,by omega,by rw [List.length_append];simp only [List.length_cons,List.length_nil];omega,M,by show Own _ _ _ _ _ _;rw [<-List.append_assoc];exact N.out,(J.out _ _ H.out G.out).1,(J.out _ _ H.out G.out).2⟩
   case measure=>simp [intOf];omega
  ·have ap:(m:Int) % 256=m:=by omega
   have M:Hid (out++[(m:Int)]=enc n):=by
    show _=_;rw [<-HE.out,encF,if_pos (by omega)]
   go_wp2_with (with_reducible refine ybw (o:=⟨some 19,_,_,_,_,_⟩) rfl (.tmp 15) (.tmp 18) 40 rfl 5 i0 (.int .u8 0) 1 underlying40 HI.out ac.out ae.out Y.out rfl _ (bs++out) base rfl HO.out (m:Int) 1 rfl fB1 aa.out U.out HS.out ?_;intro v1 w1 N H G)
   go_ret;exact ⟨v1,rfl,by rw [<-M.out,<-List.append_assoc];exact N.out,(J.out _ _ H.out G.out).1,(J.out _ _ H.out G.out).2⟩
def foot (g:Nat) (v:Value) (k:Nat):Prop:=k=g∨v.ownBlock=some k
def NewRow (v v':Value) (w:World):Prop:=v'.ownBlock=v.ownBlock∨∃k,v'.ownBlock=some k/\w.heap.size<=k
def Wr (w:World) (g base:Nat) (v:Value) (bs:List Int):Prop:=w.heap[g]? =some (.cells #[v,.int .i64 0] 217 (0,0))/\Own fB 5 w base v bs/\base<=w.heap.size
def WPost (g base:Nat) (v:Value) (bs:List Int) (w:World) (e:Ending) (w':World):Prop:=
 ∃v',e= .returned (.tuple #[])/\Wr w' g base v' bs/\But (foot g v) w w'/\NewRow v v' w
theorem Own.ne_of {w:World} {base g:Nat} {v:Value} {bs:List Int} {cs:Array Value} {t e:TypeId} (h:Own fB e w base v bs) (K:w.heap[g]? =some (.cells cs t (0,0))) (H:e≠t):v.ownBlock≠some g:=by
 rcases h.2 with ⟨rfl,_⟩ |⟨L,cap,M,rfl,_,G,_⟩
 ·simp [Value.ownBlock]
 ·intro J;have:L=g:=by simpa [Value.ownBlock] using J
  subst this;rw [K] at G;injection G with G;injection G with _ ht;exact H ht.symm
theorem NewRow.trans {v J G:Value} {w H:World} (h:NewRow v J w) (k:NewRow J G H) (hs:w.heap.size<=H.heap.size):NewRow v G w:=by
 rcases k with k |⟨i,k,hi⟩
 ·rcases h with h |⟨j,h,hj⟩
  ·exact .inl (k.trans h)
  ·exact .inr ⟨j,k.trans h,hj⟩
 ·exact .inr ⟨i,k,by omega⟩
theorem foot_step {g:Nat} {v G:Value} {w:World} (h:NewRow v G w):∀i,foot g G i->foot g v i∨w.heap.size<=i:=fun i hi=>by
 rcases hi with rfl |hi
 ·exact .inl (.inl rfl)
 ·rcases h with h |⟨k,h,H⟩
  ·exact .inl (.inr (by rw [<-h];exact hi))
  ·right;rw [h] at hi;injection hi with hi;omega
theorem But.wr {g:Nat} {v v':Value} {a b c:World} (h:But (foot g v) a b) (hn:NewRow v v' a) (k:But (foot g v') b c):But (foot g v) a c:=h.trans k (foot_step hn)
theorem Own.but {w M:World} {base:Nat} {e:TypeId} {v:Value} {bs:List Int} {p:Nat->Prop} (h:Own fB e w base v bs) (O:But p w M) (N:∀k,v.ownBlock=some k->¬p k):Own fB e M base v bs:=
 ⟨h.1,by
   rcases h.2 with hn |⟨J,cap,K,rfl,L,G,H⟩
   ·exact .inl hn
   ·exact .inr ⟨J,cap,K,rfl,L,(O.block J (lt_of_block G) (N J rfl)).trans G,H⟩⟩
theorem Wr.but {w N:World} {g base:Nat} {v:Value} {bs:List Int} {p:Nat->Prop} (h:Wr w g base v bs) (H:But p w N) (T:¬p g) (O:∀k,v.ownBlock=some k->¬p k):Wr N g base v bs:=
 ⟨(H.block g (lt_of_block h.1) T).trans h.1,⟨h.2.1.1,by
   rcases h.2.1.2 with hn |⟨K,cap,L,rfl,M,G,J⟩
   ·exact .inl hn
   ·exact .inr ⟨K,cap,L,rfl,M,(H.block K (lt_of_block G) (O K rfl)).trans G,J⟩⟩,Nat.le_trans h.2.2 H.size⟩
theorem Wr.alloc {w:World} {g base:Nat} {v:Value} {bs:List Int} (h:Wr w g base v bs) (o:Obj):Wr (w.alloc o) g base v bs:=
 ⟨(Below.heap_alloc w o g (lt_of_block h.1)).trans h.1,h.2.1.alloc o,Nat.le_trans h.2.2 (by simp)⟩
theorem Wr.on {w H:World} {g base:Nat} {v:Value} {bs:List Int} (h:Wr w g base v bs) (G:Below w.heap.size w H):Wr H g base v bs:=
 ⟨(G.block g (lt_of_block h.1)).trans h.1,h.2.1.on G,Nat.le_trans h.2.2 G.size⟩
theorem ycH (w:World):Calls prog 72 #[] w fun e G=>e= .returned (.pointer (some ⟨w.heap.size,0,none⟩))/\w.alloc (.cells #[.slice none 0 0,.int .i64 0] 217)=G:=by
 go_enter func72,ntmps72;go_wp2;go_ret;exact ⟨rfl,rfl⟩
theorem Wr.new (w:World):Wr (w.alloc (.cells #[.slice none 0 0,.int .i64 0] 217)) w.heap.size (w.heap.size+1) (.slice none 0 0) []:=⟨heap_alloc_new w _,Own.nil,by simp⟩
theorem yb4 (g base:Nat) (v:Value) (bs:List Int) (n:Nat) (w:World) (hw:Wr w g base v bs) (hn:n < 18446744073709551616) (W:bs.length<=1099511627776):
 Calls prog 73 #[.pointer (some ⟨g,0,none⟩),.int .u64 n] w (WPost g base v (bs++enc n) w):=by
 obtain ⟨K,G,M⟩:=hw;have h0:=cell_of_row w g 0 _ _ _ K;have h1:=cell_of_row w g 1 _ _ _ K;simp at h0 h1;have HC:=Lib.hid (yc7 v bs n w base G M hn W);have HG:=Lib.hid K;have aa:Hid (v.ownBlock≠some g):=G.ne_of K (by decide);clear hn K G;go_enter func73,ntmps73;go_wp2_with fail;refine HC.out.mono ?_;rintro e w1 ⟨v',rfl,T,HB1,N⟩;have J:Hid (w1.heap[g]? =some (.cells #[v,.int .i64 0] 217 (0,0))):=(HB1.block g (lt_of_block HG.out) aa.out).trans HG.out;have z:=Lib.hid HB1;have H:=Lib.hid T;have Z:Hid (NewRow v v' w):=N;have af:=HB1.size;clear HB1 T N;have Y:Hid (v'.ownBlock≠some g):=H.out.ne_of J.out (by decide);obtain ⟨A1,c1,O,_⟩:=H.out.shape;obtain ⟨l1,U⟩:∃l,l=(bs++enc n).length:=⟨_,rfl⟩
 rw [<-U] at O;clear U;subst O;have ae:=frozen_of_row w1 g 0 _ _ J.out;have ac:=cell_of_row w1 g 0 _ _ _ J.out;simp at ac;go_wp2
 go_end0
 have L:But (fun k=>k=g) w1 (w1.setCell ⟨g,0,none⟩ (.slice A1 l1 c1)):=But.setCell (p:=fun k=>k=g) (x:=⟨g,0,none⟩) (But.refl _ _) (.inl rfl) _;refine ⟨_,rfl,⟨heap_setCell_same _ _ _ _ _ _ J.out,H.out.but L ?_,by have:=L.size;omega⟩,?_,Z.out⟩
 ·intro k hk e;subst e;exact Y.out hk
 ·exact (z.out.mono fun i hi=> .inl (.inr hi)).trans L fun i hi=> .inl (.inl hi)
theorem wcount_any (g base:Nat) (v:Value) (bs:List Int) (n:Nat) (w:World) (G:Wr w g base v bs) (hn:n<=1099511627776) (H:bs.length<=1099511627776):
 Calls prog 76 #[.pointer (some ⟨g,0,none⟩),.int .i64 n] w (WPost g base v (bs++enc n) w):=by
 have HC:=Lib.hid (yb4 g base v bs n w G (by omega) H);have h1:=cell_of_row w g 1 _ _ _ G.1;simp at h1;clear G;go_enter func76,ntmps76;go_wp2_with fail;refine HC.out.mono ?_;rintro e w1 ⟨J,rfl,h⟩;go_wp2
 go_end0
 exact ⟨J,rfl,h⟩
theorem wdone_any (g base:Nat) (v:Value) (bs:List Int) (w:World) (hw:Wr w g base v bs) (Y:bs.length<=1048576):
 Calls prog 78 #[.pointer (some ⟨g,0,none⟩)] w (Slc2 fB bs 0 w):=by
 obtain ⟨L,G,aj⟩:=hw;have h0:=cell_of_row w g 0 _ _ _ L;have h1:=cell_of_row w g 1 _ _ _ L;have al:=lt_of_block L;simp at h0 h1;obtain ⟨A1,c1,M,am,W,_⟩:=G.shape;obtain ⟨l1,K⟩:∃l,l=bs.length:=⟨_,rfl⟩
 rw [<-K] at M;have J:Below w.heap.size w (w.alloc (.cells #[] 5)):=(Below.refl _ _).alloc (Nat.le_refl _) _;have H:=Lib.hid J;have HS1:Hid (Sl fB (w.alloc (.cells #[] 5)) w.heap.size A1 l1 bs):=⟨K.symm,W.up J (Nat.le_refl _)⟩;have HO:Hid (Own fB 5 (w.alloc (.cells #[] 5)) w.heap.size (.slice (some ⟨w.heap.size,0,none⟩) 0 0) []):=World.ownsRow_lit w #[] 0 (Nat.le_refl _) (by unfold maxLen;omega) rfl;have ak:l1<=1048576:=by omega
 have ao:bs.length<=1048576:=Y;have af:Hid ((([]:List Int).length+bs.length)*1<=140737488355328):=by show _<=_;simp;omega
 have z:Hid (([]:List Int).length+bs.length<=maxLen):=by show _<=_;simp [maxLen];omega
 obtain ⟨i0,hi,N,O,U⟩:=info_parts Tryz.infoB;have HI:=Lib.hid hi;have ag:=Lib.hid N;have ah:=Lib.hid O;have aa:=Lib.hid U;clear hi N O U;clear K J W G L;subst M;go_enter func78,ntmps78;go_wp2_with (with_reducible refine ybE (o:=⟨some 24,_,_,_,_,_⟩) rfl (.tmp 19) (.tmp 23) 40 rfl 5 i0 (.int .u8 0) 1 underlying40 HI.out ag.out ah.out aa.out rfl (.slice (some ⟨w.heap.size,0,none⟩) 0 0) [] w.heap.size rfl HO.out _ _ _ w.heap.size bs rfl HS1.out fB1 af.out z.out H.out.size ?_;intro v1 w1 ae ai _);have T:=ae.out;rw [List.nil_append] at T;obtain ⟨A',c',rfl,ac,Z,_⟩:=T.shape;go_ret2;exact ⟨A',_,c',rfl,ac,Z.sl,H.out.trans (ybm ai.out (by simp [Value.ownBlock]) H.out.size)⟩
open Go.RowKit Go.Lib
def sB (s:ByteArray):List Int:=s.data.toList.map fun b=>(b.toNat:Int)
theorem ybS (s:ByteArray):(sB s).length=s.size:=by unfold sB;rw [List.length_map,Array.length_toList];rfl
theorem ycR (s:ByteArray):∀b∈sB s,0<=b/\b < 256:=by
 intro b hb;unfold sB at hb;obtain ⟨x,_,rfl⟩:=List.mem_map.1 hb;have:=x.toNat_lt;omega
theorem sB_cells (s:ByteArray):strCells s=(sB s).map fB:=by unfold strCells sB;rw [List.map_map];rfl
section
variable {P:Program} {w:World}
theorem run_app_str (t u M e:TypeId) (i:TypeInfo) (ht:P.underlying t=some (.slice e)) (T:P.underlying u=some .string) (hi:P.info? e=some i) (U:i.zero=some (.int .u8 0)) (G:i.size=1) (L:i.bytes=1)
 (v:Value) (xs:List Int) (base:Nat) (H:Own fB e w base v xs) (s:ByteArray) (hl:xs.length+s.size<=140737488355328) (O:base<=w.heap.size):
 ∃J K,(Builtin.append_ #[t,u] M #[v,.string s]).run P w= .ok J K/\Own fB e K base J (xs++sB s)/\w.grownBy K v.ownBlock/\(J.ownBlock=v.ownBlock∨J.ownBlock=some w.heap.size):=by
 obtain ⟨J,K,h1,h2,h3,z⟩:=run_append_own_string (P:=P) w base t u M e i ht T hi U G L v xs.length (xs.map fB) H s (by unfold maxLen;omega) hl O;refine ⟨J,K,h1,?_,h3,?_⟩
 ·unfold Own;rw [List.length_append,List.map_append,ybS,<-sB_cells];exact h2
 ·rcases H.2 with ⟨rfl,h0⟩ |⟨g,cap,W,rfl,_,Z,ac,aa,ae,Y⟩
  ·by_cases hm:s.size=0
   ·rw [z.2 ⟨rfl,hm⟩];exact .inl rfl
   ·have hr:=run_append_nil_string (P:=P) w t u M e i (.int .u8 0) ht T hi U s (by omega) (by omega) (by rw [L];omega);rw [h1] at hr;injection hr with hv _;rw [hv];exact .inr rfl
  ·by_cases N:xs.length+s.size<=cap
   ·have hr:=run_append_room_string (P:=P) w t u M e i ht T hi G g xs.length cap W Z s N (by omega);rw [h1] at hr;injection hr with hv _;rw [hv];exact .inl rfl
   ·have hr:=run_append_grow_string (P:=P) w t u M e i (.int .u8 0) ht T hi U ⟨g,0,none⟩ xs.length cap (xs.map fB) (by rw [G];simp) (World.ownsRow.cells H (g:=g) rfl) s (by omega) (by omega) (by rw [L];exact growslice_fits (by omega) (by omega));rw [h1] at hr;injection hr with hv _;rw [hv];exact .inr rfl
theorem wp_app_str {o:Oper} {a:Act} {K:Act->World->Prop} {Q:Exit->Act->World->Prop} (sl x:Operand) (t u:TypeId)
 (J:o.op= .call {callee:= .builtin .append,args:=#[sl,x],argTypes:=#[t,u]})
 (e:TypeId) (i:TypeInfo) (ht:P.underlying t=some (.slice e)) (hu:P.underlying u=some .string) (hi:P.info? e=some i) (hz:i.zero=some (.int .u8 0)) (hsize:i.size=1) (hby:i.bytes=1)
 (v:Value) (xs:List Int) (base:Nat) (hs:a.eval sl=v) (hown:Own fB e w base v xs) (s:ByteArray) (hx:a.eval x= .string s) (hl:xs.length+s.size<=140737488355328) (hbase:base<=w.heap.size)
 (h:∀G H,Own fB e H base G (xs++sB s)->w.grownBy H v.ownBlock->(G.ownBlock=v.ownBlock∨G.ownBlock=some w.heap.size)->K (a.put o.dst G) H):o.wp P a w K Q:=by
 obtain ⟨G,H,hr,h2,M,L⟩:=run_app_str (P:=P) t u o.type e i ht hu hi hz hsize hby v xs base hown s hl hbase;unfold Oper.wp execOp;simp only [J,resolve,invoke,builtin,Sem.run_bind,Sem.run_pure,Result.andThen_ok,List.map_toArray,List.map_cons,List.map_nil,hs,hx,hr];exact h G H h2 M L
theorem ycf {ops:Array Oper} {J:List Oper} {o:Oper} {a:Act} {Q:Exit->Act->World->Prop} (K:o.guard=none) (sl x:Operand) (t u:TypeId)
 (L:o.op= .call {callee:= .builtin .append,args:=#[sl,x],argTypes:=#[t,u]})
 (e:TypeId) (i:TypeInfo) (ht:P.underlying t=some (.slice e)) (hu:P.underlying u=some .string) (hi:P.info? e=some i) (hz:i.zero=some (.int .u8 0)) (hsize:i.size=1) (hby:i.bytes=1)
 (v:Value) (xs:List Int) (base:Nat) (hs:a.eval sl=v) (hown:Own fB e w base v xs) (s:ByteArray) (hx:a.eval x= .string s) (hl:xs.length+s.size<=140737488355328) (hbase:base<=w.heap.size)
 (h:∀G H,Hid (Own fB e H base G (xs++sB s))->Hid (w.grownBy H v.ownBlock)->Hid (G.ownBlock=v.ownBlock∨G.ownBlock=some w.heap.size)->wpList P ops Q J (a.put o.dst G) H):wpList P ops Q (o::J) a w:=
 wpList_plain K fun _ N=>wp_app_str sl x t u L e i ht hu hi hz hsize hby v xs base hs hown s hx hl hbase fun G H h2 O M=>N _ _ (h G H h2 O M)
end
theorem yb1 {P:Program} (G e dst:TypeId) (hs:P.underlying G=some (.slice e)) (H:P.underlying e=some (.int .u8)) (hd:P.underlying dst=some .string) (w:World) (B:Nat) (A:Option Addr) (n c:Nat) (xs:List Int) (h:Sl fB w B A n xs):
 (convert G dst (.slice A n c)).run P w= .ok (.string (strOfNums xs)) w:=by
 obtain ⟨rfl,h⟩:=h
 cases xs with
 |nil=>
  cases A with
  |none=>exact run_convert_bytes_nil w G e hs H _ c dst hd
  |some ad=>
   rw [run_convert_bytes_string w G dst e _ _ c hs H hd];simp [Conv.bytesToString,strOfNums,loadCells,loadCellsFrom];rfl
 |cons x l=>
  obtain ⟨b,J,rfl,_,L⟩:=h (by simp)
  exact run_convert_bytes_arg w G e hs H b J _ c (x::l) rfl (fun i hi=>by
   obtain ⟨z,K⟩:=ybQ hi
   rw [L i z K,ybA K]) dst hd
def baOf (xs:List Int):ByteArray:=strOfNums xs
def baNo:ByteArray:=⟨#[]⟩
theorem ybL {xs:List Int} (h:∀b∈xs,0<=b/\b < 256):sB (baOf xs)=xs:=by
 unfold sB baOf strOfNums;simp only [List.map_map]
 conv=>rhs;rw [<-List.map_id xs]
 apply List.map_congr_left;intro x G
 have:=h x G;show ((UInt8.ofNat x.toNat).toNat:Int)=x;rw [UInt8.toNat_ofNat'];omega
theorem encF_rng:∀(k n:Nat),∀b∈encF k n,0<=b/\b < 256
 |0,_,b,h=>by simp [encF] at h
 |k+1,n,b,h=>by
  rw [encF] at h
  split at h
  ·obtain rfl:=List.mem_singleton.1 h;omega
  ·rcases List.mem_cons.1 h with rfl |h
   ·omega
   ·exact encF_rng k _ b h
theorem ybO (n:Nat):∀b∈enc n,0<=b/\b < 256:=encF_rng 10 n
def Wc (g base:Nat) (v:Value) (w0:World) (bs:List Int) (w:World):Prop:=∃v',Wr w g base v' bs/\But (foot g v) w0 w/\NewRow v v' w0
section
variable {g base:Nat} {v:Value} {w0 w:World} {bs bs':List Int}
theorem Wc.start (h:Wr w g base v bs):Wc g base v w bs w:=⟨v,h,But.refl _ _,.inl rfl⟩
theorem Wc.step (h:Wc g base v w0 bs w) {f:FuncId} {args:Array Value} {P:Program} (O:∀v',Wr w g base v' bs->NewRow v v' w0->Calls P f args w (WPost g base v' bs' w)):
 Calls P f args w fun e H=>e= .returned (.tuple #[])/\Wc g base v w0 bs' H:=by
 obtain ⟨N,h1,h2,G⟩:=h;refine (O N h1 G).mono ?_;rintro e H ⟨M,rfl,J,K,L⟩;exact ⟨rfl,M,J,h2.wr G K,G.trans L h2.size⟩
theorem Wc.alloc (h:Wc g base v w0 bs w) (o:Obj):Wc g base v w0 bs (w.alloc o):=by
 obtain ⟨v1,h1,h2,h3⟩:=h;exact ⟨v1,h1.alloc o,h2.alloc o,h3⟩
theorem Wr.fresh (h:Wr w g base v bs):¬foot g v w.heap.size:=by
 rintro (h1 |h1)
 ·have:=lt_of_block h.1;omega
 ·have:=(World.ownsRow.lt h.2.1 _ h1).2;omega
theorem Wc.keep (h:Wc g base v w0 bs w) {k:Nat} (hk:¬foot g v k) (hl:k < w0.heap.size):w.heap[k]? =w0.heap[k]? :=by
 obtain ⟨v1,h1,h2,h3⟩:=h;exact h2.block k hl hk
theorem Wc.size (h:Wc g base v w0 bs w):w0.heap.size<=w.heap.size:=by
 obtain ⟨v1,h1,h2,h3⟩:=h;exact h2.size
theorem Wc.post (h:Wc g base v w0 bs w):WPost g base v bs w0 (.returned (.tuple #[])) w:=by
 obtain ⟨v1,h1,h2,h3⟩:=h;exact ⟨v1,rfl,h1,h2,h3⟩
theorem Wr.put {w1:World} {H:Value} {A:Option Addr} {l c:Nat} (O:w1.heap[g]? =some (.cells #[v,.int .i64 0] 217 (0,0))) (M:Own fB 5 w1 base H bs) (K:H.ownBlock≠some g) (G:base<=w1.heap.size) (N:H= .slice A l c):
 Wr (w1.setCell ⟨g,0,none⟩ (.slice A l c)) g base H bs:=by
 subst N;have J:But (fun k=>k=g) w1 (w1.setCell ⟨g,0,none⟩ (.slice A l c)):=But.setCell (p:=fun k=>k=g) (x:=⟨g,0,none⟩) (But.refl _ _) (.inl rfl) _;exact ⟨heap_setCell_same _ _ _ _ _ _ O,M.but J fun k L e=>K (by rw [L,e]),Nat.le_trans G J.size⟩
theorem But.put {w1:World} (h:But (foot g v) w0 w1) (u:Value):But (foot g v) w0 (w1.setCell ⟨g,0,none⟩ u):=h.setCell (.inl (.inl rfl)) _
theorem But.app {w1 J:World} {H:Value} (h:But (foot g v) w0 w1) (hn:NewRow v H w0) (K:w1.grownBy J H.ownBlock):But (foot g v) w0 J:=h.grown K fun k G=>by
 rcases hn with h1 |⟨j,h1,hj⟩
 ·exact .inl (.inr (by rw [<-h1];exact G))
 ·right;rw [h1] at G;injection G with G;omega
theorem NewRow.app {w1:World} {H G:Value} (hn:NewRow v H w0) (hs:w0.heap.size<=w1.heap.size) (h:G.ownBlock=H.ownBlock∨G.ownBlock=some w1.heap.size):NewRow v G w0:=by
 rcases h with h |h
 ·rcases hn with h1 |⟨j,h1,hj⟩
  ·exact .inl (h.trans h1)
  ·exact .inr ⟨j,h.trans h1,hj⟩
 ·exact .inr ⟨_,h,hs⟩
end
theorem Wr.appd {g base:Nat} {v M:Value} {w w1:World} {bs':List Int} (Z:w1.heap[g]? =some (.cells #[v,.int .i64 0] 217 (0,0))) (T:M.ownBlock≠some g) (Y:But (foot g v) w w1) (hn:NewRow v M w) (L:base<=w1.heap.size) (J:Value) (G:World) (N:Own fB 5 G base J bs') (K:w1.grownBy G M.ownBlock) (hv:J.ownBlock=M.ownBlock∨J.ownBlock=some w1.heap.size):
 ∃A l c,J= .slice A l c/\Hid (Wr (G.setCell ⟨g,0,none⟩ (.slice A l c)) g base (.slice A l c) bs'/\But (foot g v) w (G.setCell ⟨g,0,none⟩ (.slice A l c))/\NewRow v (.slice A l c) w)/\G.frozen? ⟨g,0,none⟩=false/\G.cell? ⟨g,0,none⟩=some v:=by
 have H:G.heap[g]? =some (.cells #[v,.int .i64 0] 217 (0,0)):=(K.block g (lt_of_block Z) (fun e=>T e.symm)).trans Z;have O:J.ownBlock≠some g:=N.ne_of H (by decide);have U:=Y.app hn K;have W:=hn.app Y.size hv;obtain ⟨A,c,hs,_⟩:=N.shape;have z:=Wr.put H N O (Nat.le_trans L K.size) hs;subst hs;exact ⟨A,_,c,rfl,⟨z,U.put _,W⟩,frozen_of_row G g 0 _ _ H,by rw [cell_of_row G g 0 _ _ _ H];rfl⟩
theorem wtext_any (g base:Nat) (v:Value) (bs:List Int) (s:ByteArray) (w:World) (hw:Wr w g base v bs) (hs:s.size<=1099511627776) (aa:bs.length<=1099511627776):
 Calls prog 153 #[.pointer (some ⟨g,0,none⟩),.string s] w (WPost g base v (bs++(enc s.size++sB s)) w):=by
 obtain ⟨K,H,G⟩:=hw;have h0:=cell_of_row w g 0 _ _ _ K;have h1:=cell_of_row w g 1 _ _ _ K;simp at h0 h1;have HC:=Lib.hid (yc7 v bs s.size w base H G (by omega) aa);have HG:=Lib.hid K;have ak:Hid (v.ownBlock≠some g):=H.ne_of K (by decide);have N:=Lib.hid G;obtain ⟨i0,hi,T,U,W⟩:=info_parts Tryz.infoB;have HI:=Lib.hid hi;have am:=Lib.hid T;have ao:=Lib.hid U;have ag:=Lib.hid W
 have HL:Hid ((bs++enc s.size).length+s.size<=140737488355328):=by
  show _<=_;have:=ybx s.size;rw [List.length_append];omega
 have aq:Hid (((s.size:Nat):Int)=s.size):=rfl;clear hi T U W K H G;go_enter func153,ntmps153;go_wp2_with fail;refine HC.out.mono ?_;rintro e w1 ⟨z,rfl,L,J,O⟩;have Y:Hid (w1.heap[g]? =some (.cells #[v,.int .i64 0] 217 (0,0))):=(J.block g (lt_of_block HG.out) ak.out).trans HG.out;have HB1:Hid (But (foot g v) w w1):=J.mono fun i hi=> .inl (.inr hi);have al:=Lib.hid L;have ae:Hid (NewRow v z w):=O;have HS1:Hid (base<=w1.heap.size):=Nat.le_trans N.out J.size;have ac:Hid (z.ownBlock≠some g):=L.ne_of Y.out (by decide);have Z:=Lib.hid (Wr.appd (bs':=(bs++enc s.size)++sB s) Y.out ac.out HB1.out ae.out HS1.out);clear J L O h0 h1;go_wp2_with (at_builtin;(with_reducible refine ycf (o:=⟨some 19,_,_,_,_,_⟩) rfl (.tmp 17) (.tmp 18) 40 9 rfl 5 i0 underlying40 underlying9 HI.out am.out ao.out ag.out z (bs++enc s.size) base rfl al.out s rfl HL.out HS1.out ?_);intro v2 w2 ai ah aj;obtain ⟨A2,l2,c2,af,M,ap,ar⟩:=Z.out v2 w2 ai.out ah.out aj.out;subst af);go_wp2
 go_end0
 rw [<-List.append_assoc];exact ⟨_,rfl,M.out.1,M.out.2.1,M.out.2.2⟩
theorem wsum_any (g base:Nat) (v:Value) (bs:List Int) (s:ByteArray) (w:World) (hw:Wr w g base v bs) (hs:s.size=32) (ag:bs.length<=1099511627776):
 Calls prog 77 #[.pointer (some ⟨g,0,none⟩),.string s] w (WPost g base v (bs++sB s) w):=by
 obtain ⟨J,H,G⟩:=hw;have h0:=cell_of_row w g 0 _ _ _ J;have h1:=cell_of_row w g 1 _ _ _ J;simp at h0 h1;have HG:=Lib.hid J;have HO:=Lib.hid H;have aa:Hid (v.ownBlock≠some g):=H.ne_of J (by decide);have L:=Lib.hid G;obtain ⟨i0,hi,M,N,O⟩:=info_parts Tryz.infoB;have HI:=Lib.hid hi;have ac:=Lib.hid M;have ae:=Lib.hid N;have W:=Lib.hid O;have HL:Hid (bs.length+s.size<=140737488355328):=by show _<=_;omega
 have af:(((s.size:Nat):Int) != 32)=false:=by simp;omega
 have T:=Lib.hid (Wr.appd (bs':=bs++sB s) J aa.out (But.refl _ w) (Or.inl rfl:NewRow v v w) G);clear hi M N O J H G;go_enter func77,ntmps77;go_wp2_with (at_builtin;(with_reducible refine ycf (o:=⟨some 21,_,_,_,_,_⟩) rfl (.tmp 19) (.tmp 20) 40 9 rfl 5 i0 underlying40 underlying9 HI.out ac.out ae.out W.out v bs base rfl HO.out s rfl HL.out L.out ?_);intro v2 w2 Z Y z;obtain ⟨A2,l2,c2,U,K,ah,ai⟩:=T.out v2 w2 Z.out Y.out z.out;subst U);go_wp2
 go_end0
 exact ⟨_,rfl,K.out.1,K.out.2.1,K.out.2.2⟩
theorem tkH {P:Program} {ops:Array Oper} {Q:Exit->Act->World->Prop} {md:Region.Mode} {S:World->Prop} {i:Nat} {oi:Oper} {v:Value} {fuel:Nat} {listed:Array Bool} {a:Act} {w:World} (hi:ops[i]? =some oi:=by simp only [List.getElem?_toArray,List.getElem?_cons_succ,List.getElem?_cons_zero];rfl)
 (hs:Region.noSelect ops=true:=by kernel_rfl) (hf:Region.free md ops listed i=true:=by kernel_rfl) (hr:(Region.ready md ops listed).contains i=true:=by kernel_rfl)
 (hQ:∀c a w,Q (.panic c) (a.put oi.dst v) w->Q (.panic c) a w:=by exact fun _ _ _ h=>h) (y:YieldsIf P ops S oi v a) (hS:S w:=by assumption)
 (h:wpAnyH P md ops Q S fuel (listed.setIfInBounds i true) (a.put oi.dst v) w):wpAnyH P md ops Q S (fuel+1) listed a w:=wpAnyH_take hi hs hf hr hQ y hS h
theorem pt:(∀(l:List Bool) (i:Nat) (v:Bool),l.toArray.setIfInBounds i v=(l.set i v).toArray)/\(∀(l:List Value) (i:Nat) (v:Value),l.toArray.setIfInBounds i v=(l.set i v).toArray)/\(∀(x v:Bool) (l:List Bool),(x::l).set 0 v=v::l)/\(∀(x v:Bool) (l:List Bool) (n:Nat),(x::l).set (n+1) v=x::l.set n v)/\(∀(x v:Value) (l:List Value),(x::l).set 0 v=v::l)/\(∀(x v:Value) (l:List Value) (n:Nat),(x::l).set (n+1) v=x::l.set n v)/\(∀(a:Act) (d:Tmp) (v:Value),a.put (some d) v={a with tmps:=a.tmps.setIfInBounds d v})/\(∀(a:Act) (v:Value),a.put none v=a):=
 ⟨fun _ _ _=>by simp,fun _ _ _=>by simp,fun _ _ _=>rfl,fun _ _ _ _=>rfl,fun _ _ _=>rfl,fun _ _ _ _=>rfl,fun _ _ _=>rfl,fun _ _=>rfl⟩
theorem tkY {P:Program} {ops:Array Oper} {Q:Exit->Act->World->Prop} {md:Region.Mode} {S:World->Prop} {fuel:Nat} {listed:Array Bool} {a:Act} {w:World} {oi:Oper} {v:Value} {l':Array Bool} {a':Act} (i:Nat)
 (h:wpAnyH P md ops Q S fuel l' a' w) (hi:ops[i]? =some oi:=by simp only [List.getElem?_toArray,List.getElem?_cons_succ,List.getElem?_cons_zero];rfl)
 (hs:Region.noSelect ops=true:=by kernel_rfl) (hf:Region.free md ops listed i=true:=by kernel_rfl) (hr:(Region.ready md ops listed).contains i=true:=by kernel_rfl)
 (hQ:∀c a w,Q (.panic c) (a.put oi.dst v) w->Q (.panic c) a w:=by exact fun _ _ _ h=>h) (y:YieldsIf P ops S oi v a:=by exact Or.inl ⟨by rfl,by (intro w hSw;(try dsimp only at hSw);go_simp;try (with_reducible rfl))⟩) (hS:S w:=by assumption)
 (hl:listed.setIfInBounds i true=l':=by first |(simp only [pt];rfl) |rfl) (ha:a.put oi.dst v=a':=by first |(simp only [pt];rfl) |rfl):wpAnyH P md ops Q S (fuel+1) listed a w:=wpAnyH_take hi hs hf hr hQ y hS (by rw [hl,ha];exact h)
theorem tkA {P:Program} {ops:Array Oper} {Q:Exit->Act->World->Prop} {md:Region.Mode} {S:World->Prop} {fuel:Nat} {listed:Array Bool} {a:Act} {w:World} {oi:Oper} {v:Value} {l':Array Bool} {a':Act} {i:Nat}
 (h:wpAnyH P md ops Q S fuel l' a' w) (hn:listed.toList.findIdx (!·)=i:=by first |exact (rfl:_=0) |exact (rfl:_=1) |exact (rfl:_=2) |exact (rfl:_=3) |exact (rfl:_=4) |exact (rfl:_=5) |exact (rfl:_=6) |exact (rfl:_=7) |exact (rfl:_=8) |exact (rfl:_=9) |exact (rfl:_=10) |exact (rfl:_=11) |exact (rfl:_=12) |exact (rfl:_=13) |exact (rfl:_=14) |exact (rfl:_=15) |exact (rfl:_=16) |exact (rfl:_=17) |exact (rfl:_=18) |exact (rfl:_=19) |exact (rfl:_=20) |exact (rfl:_=21) |exact (rfl:_=22) |exact (rfl:_=23) |exact (rfl:_=24) |exact (rfl:_=25) |exact (rfl:_=26) |exact (rfl:_=27) |exact (rfl:_=28) |exact (rfl:_=29) |exact (rfl:_=30) |exact (rfl:_=31) |exact (rfl:_=32) |exact (rfl:_=33) |exact (rfl:_=34) |exact (rfl:_=35) |exact (rfl:_=36) |exact (rfl:_=37) |exact (rfl:_=38) |exact (rfl:_=39) |exact (rfl:_=40) |exact (rfl:_=41) |exact (rfl:_=42) |exact (rfl:_=43) |exact (rfl:_=44) |exact (rfl:_=45) |exact (rfl:_=46) |exact (rfl:_=47) |exact (rfl:_=48) |exact (rfl:_=49) |exact (rfl:_=50) |exact (rfl:_=51) |exact (rfl:_=52) |exact (rfl:_=53) |exact (rfl:_=54) |exact (rfl:_=55) |exact (rfl:_=56) |exact (rfl:_=57) |exact (rfl:_=58) |exact (rfl:_=59) |exact (rfl:_=60) |exact (rfl:_=61) |exact (rfl:_=62) |exact (rfl:_=63)) (hi:ops[i]? =some oi:=by simp only [List.getElem?_toArray,List.getElem?_cons_succ,List.getElem?_cons_zero];rfl)
 (hs:Region.noSelect ops=true:=by kernel_rfl) (hf:Region.free md ops listed i=true:=by kernel_rfl) (hr:(Region.ready md ops listed).contains i=true:=by kernel_rfl)
 (hQ:∀c a w,Q (.panic c) (a.put oi.dst v) w->Q (.panic c) a w:=by exact fun _ _ _ h=>h) (y:YieldsIf P ops S oi v a:=by exact Or.inl ⟨by rfl,by (intro w hSw;(try dsimp only at hSw);go_simp;try (with_reducible rfl))⟩) (hS:S w:=by assumption)
 (hl:listed.setIfInBounds i true=l':=by first |(simp only [pt];rfl) |rfl) (ha:a.put oi.dst v=a':=by first |(simp only [pt];rfl) |rfl):wpAnyH P md ops Q S (fuel+1) listed a w:=wpAnyH_take hi hs hf hr hQ y hS (by rw [hl,ha];exact h)
theorem tkN {P:Program} {ops:Array Oper} {Q:Exit->Act->World->Prop} {md:Region.Mode} {S:World->Prop} {fuel:Nat} {listed:Array Bool} {a:Act} {w:World} {oi:Oper} {v:Value} {l':Array Bool} {a':Act} (i:Nat)
 (h:wpAnyH P md ops Q S fuel l' a' w) (hi:ops[i]? =some oi:=by simp only [List.getElem?_toArray,List.getElem?_cons_succ,List.getElem?_cons_zero];rfl)
 (hs:Region.noSelect ops=true:=by kernel_rfl) (hf:Region.free md ops listed i=true:=by kernel_rfl) (hr:(Region.ready md ops listed).contains i=true:=by kernel_rfl)
 (hQ:∀c a w,Q (.panic c) (a.put oi.dst v) w->Q (.panic c) a w:=by exact fun _ _ _ h=>h) (y:YieldsIf P ops S oi v a:=by exact Or.inr ⟨by rfl,rfl⟩) (hS:S w:=by assumption)
 (hl:listed.setIfInBounds i true=l':=by first |(simp only [pt];rfl) |rfl) (ha:a.put oi.dst v=a':=by first |(simp only [pt];rfl) |rfl):wpAnyH P md ops Q S (fuel+1) listed a w:=wpAnyH_take hi hs hf hr hQ y hS (by rw [hl,ha];exact h)
theorem rd1 {P:Program} {ops:Array Oper} {Q:Exit->Act->World->Prop} {md:Region.Mode} {S:World->Prop} {fuel:Nat} {listed:Array Bool} {a:Act} {w:World} {oi:Oper} (i:Nat) (h:∀K':Act->World->Prop,Shut (∀a w,S w->(S w->wpAnyH P md ops Q S fuel (listed.setIfInBounds i true) a w)->K' a w)->if Region.wanted oi (yielded ops a.tmps)=true then Oper.wp P oi a w K' Q else K' (a.put oi.dst undef) w) (hr:Region.ready md ops listed=[i]:=by kernel_rfl) (hi:ops[i]? =some oi:=by simp only [List.getElem?_toArray,List.getElem?_cons_succ,List.getElem?_cons_zero];rfl):wpAnyH P md ops Q S (fuel+1) listed a w:=wpAnyH_ready hr (by simp) (AllReadyH.cons hi h AllReadyH.nil)
theorem rd2 {P:Program} {ops:Array Oper} {Q:Exit->Act->World->Prop} {md:Region.Mode} {S:World->Prop} {fuel:Nat} {listed:Array Bool} {a:Act} {w:World} {oi oj:Oper} (i j:Nat) (h:∀K':Act->World->Prop,Shut (∀a w,S w->(S w->wpAnyH P md ops Q S fuel (listed.setIfInBounds i true) a w)->K' a w)->if Region.wanted oi (yielded ops a.tmps)=true then Oper.wp P oi a w K' Q else K' (a.put oi.dst undef) w) (g:∀K':Act->World->Prop,Shut (∀a w,S w->(S w->wpAnyH P md ops Q S fuel (listed.setIfInBounds j true) a w)->K' a w)->if Region.wanted oj (yielded ops a.tmps)=true then Oper.wp P oj a w K' Q else K' (a.put oj.dst undef) w) (hr:Region.ready md ops listed=[i,j]:=by kernel_rfl) (hi:ops[i]? =some oi:=by simp only [List.getElem?_toArray,List.getElem?_cons_succ,List.getElem?_cons_zero];rfl) (hj:ops[j]? =some oj:=by simp only [List.getElem?_toArray,List.getElem?_cons_succ,List.getElem?_cons_zero];rfl):wpAnyH P md ops Q S (fuel+1) listed a w:=wpAnyH_ready hr (by simp) (AllReadyH.cons hi h (AllReadyH.cons hj g AllReadyH.nil))
theorem yaa{p:Prop}(h:p:=by first |exact ⟨(HC.out _ yaw).1,(HC.out _ yaw).2,HU0.out _ yaw,HU1.out _ yaw,HPC.out _ yaw⟩ |go_keep):p:=h
theorem yab{p:Prop}(h:p:=by exact ⟨(HK.out _ yaz).1,(HK.out _ yaz).2.1,(HK.out _ yaz).2.2.1,(HK.out _ yaz).2.2.2,HXC.out _ yaz⟩):p:=h
theorem yac{p:Prop}(h:p:=by exact ⟨(HK.out _ yaB).1,(HK.out _ yaB).2.1,(HK.out _ yaB).2.2.1,(HK.out _ yaB).2.2.2,HXC.out _ yaB⟩):p:=h
theorem yad{p:Prop}(h:p:=by first |exact ⟨(HC.out _ yaw).1,(HC.out _ yaw).2,HU0.out _ yaw,HU1.out _ yaw⟩ |go_keep):p:=h
theorem yae{p:Prop}(h:p:=by first |exact ⟨(HC.out _ yav).1,(HC.out _ yav).2,HPC.out _ yav⟩ |go_keep):p:=h
theorem yaf{p:Prop}(h:p:=by first |exact ⟨(HC.out _ yaw).1,(HC.out _ yaw).2,HU0.out _ yaw⟩ |go_keep):p:=h
theorem yag{p:Prop}(h:p:=by exact ⟨(HCg.out _ yat).1,(HCg.out _ yat).2.1⟩):p:=h
theorem yah{p:Prop}(h:p:=by first |exact HC.out _ HBd.out |exact HC.out _ (HBc.out.alloc HS4.out _) |first |exact HC.out _ HBc.out |exact HC.out _ (by repeat (first |exact HBr.out |exact HBc.out |exact Below.refl _ _ |refine Below.drew ?_ |refine below_dN' ?_ _ |refine ybl ?_ _)) |go_keep):p:=h
theorem yai{p:Prop}(h:p:=by first |exact HC.out _ HBd.out |exact HC.out _ (HBc.out.alloc HS4.out _) |first |exact HC.out _ HBc.out |exact HC.out _ (by repeat (first |exact HBr.out |exact Below.refl _ _ |refine Below.drew ?_ |refine below_dN' ?_ _ |refine ybl ?_ _)) |go_keep):p:=h
theorem yaj{p:Prop}(h:p:=by first |exact HBi.out |exact yan):p:=h
theorem yak{p:Prop}(h:p:=by first |exact HG7.out.2 |exact ((yaA:Below VE.heap.size VE _).block b (lt_of_block HP.out)).trans HP.out):p:=h
theorem yal{p:Prop}(h:p:=by have h1:=(yaA:Below VE.heap.size VE _).size;have h2:=lt_of_block HP.out;exact Nat.lt_of_lt_of_le h2 h1):p:=h
theorem yam{p:Prop}(h:p:=by first |exact HC.out _ HBx.out |exact HC.out _ HB1.out |exact HC.out _ (by repeat (first |exact HBx.out |exact HB1.out |exact Below.refl _ _ |refine Below.drew ?_ |refine below_dN' ?_ _ |refine ybl ?_ _)) |go_keep):p:=h
theorem yan{p:Prop}(h:p:=by repeat (first |assumption |exact Below.refl _ _ |exact HBq.out |refine Below.alloc ?_ (by simp<;>omega) _ |refine Below.alloc ?_ (Below.size (by assumption)) _ |refine ybl ?_ _ |refine ybl (n:=1) ?_ _)):p:=h
theorem yao{p:Prop}(h:p:=by first |exact HK.out _ HBd.out |exact HK.out _ HBc.out |exact HK.out _ (by repeat (first |exact HBr.out |exact Below.refl _ _ |refine Below.drew ?_ |refine below_dN' ?_ _ |refine ybl ?_ _)) |go_keep):p:=h
theorem yap{p:Prop}(h:p:=by first |exact HK.out _ HB6.out |exact HK.out _ HBc.out |exact HK.out _ (by repeat (first |exact HBc.out |exact Below.refl _ _ |refine Below.drew ?_ |refine below_dN' ?_ _ |refine ybl ?_ _)) |go_keep):p:=h
theorem yaq{p:Prop}(h:p:=by first |exact HB.out.trans (HBy.out.mono (Nat.le_add_right _ 2)) |exact (HB.out.trans (HBy.out.mono (Nat.le_add_right _ 2))).drew |exact (HB.out.trans (HBy.out.mono (Nat.le_add_right _ 2))).drew.drew):p:=h
theorem yar{p:Prop}(h:p:=by first |exact HC.out _ HBc.out |exact HC.out _ (by repeat (first |exact HBr.out |exact HBc.out |exact Below.refl _ _ |refine Below.drew ?_ |refine below_dN' ?_ _ |refine ybl ?_ _)) |go_keep):p:=h
theorem yas{p:Prop}(h:p:=by first |exact HC.out _ HB7.out |exact HC.out _ yav |go_keep):p:=h
theorem yat{p:Prop}(h:p:=by (repeat (first |exact HB.out |exact Below.refl _ _ |refine Below.drew ?_ |refine below_dN' ?_ _ |refine ybl ?_ _ |refine Below.alloc ?_ (by first |exact HB.out.size |simp) _))):p:=h
theorem yau{p:Prop}(h:p:=by first |exact ⟨HJ7.out.jd,HX7.out⟩ |exact ⟨(Below.heap_alloc _ _ _ (lt_of_block HJ7.out.jd)).trans HJ7.out.jd,(Below.heap_alloc _ _ _ (lt_of_block HX7.out)).trans HX7.out⟩):p:=h
theorem yav{p:Prop}(h:p:=by repeat (first |exact HBy.out |exact HB7.out |exact Below.refl _ _ |refine Below.drew ?_ |refine below_dN' ?_ _ |refine ybl ?_ _)):p:=h
theorem yaw{p:Prop}(h:p:=by repeat (first |exact HBy.out |exact HBr.out |exact Below.refl _ _ |refine Below.drew ?_ |refine below_dN' ?_ _ |refine ybl ?_ _)):p:=h
theorem yax{p:Prop}(h:p:=by first |exact HB.out.trans (HBy.out.mono (Nat.le_add_right _ 2)) |exact (HB.out.trans (HBy.out.mono (Nat.le_add_right _ 2))).drew):p:=h
theorem yay{p:Prop}(h:p:=by exact ⟨HF.out.1.jd,(HG5.out.block _ (lt_of_block HW4.out.2) (fun e=>by injection e with e;have:=HS5.out;omega)).trans HW4.out.2⟩):p:=h
theorem yaz{p:Prop}(h:p:=by repeat (first |exact HBx.out |exact Below.refl _ _ |refine Below.drew ?_ |refine below_dN' ?_ _ |refine ybl ?_ _)):p:=h
theorem yaA{p:Prop}(h:p:=by repeat (first |exact HBq.out |exact Below.refl _ _ |refine Below.drew ?_ |refine below_dN' ?_ _ |refine ybl ?_ _)):p:=h
theorem yaB{p:Prop}(h:p:=by repeat (first |exact HB.out |exact Below.refl _ _ |refine Below.drew ?_ |refine below_dN' ?_ _ |refine ybl ?_ _)):p:=h
theorem yaC{p:Prop}(h:p:=by repeat (first |exact Below.refl _ _ |refine Below.drew ?_ |refine below_dN' ?_ _ |refine Below.alloc ?_ (by simp) _)):p:=h
theorem yaD{p:Prop}(h:p:=by repeat (first |exact HBx.out |exact HB1.out |refine Below.drew ?_ |refine below_dN' ?_ _ |refine ybl ?_ _)):p:=h
theorem yaE{p:Prop}(h:p:=by first |exact HB1.out.trans (HB.out.mono HB1.out.size) |exact HB1.out.trans (Below.drew (HB.out.mono HB1.out.size))):p:=h
theorem yaF{p:Prop}(h:p:=by rcases HCZ.out with ⟨rfl,rfl,rfl,rfl,rfl,rfl⟩ |⟨rfl,rfl,rfl,rfl,rfl,rfl⟩ |⟨rfl,rfl,rfl,rfl,rfl,rfl⟩<;>decide):p:=h
theorem yaG{p:Prop}(h:p:=by rcases HCS.out with ⟨rfl,rfl,rfl,rfl,rfl,rfl⟩ |⟨rfl,rfl,rfl,rfl,rfl,rfl⟩ |⟨rfl,rfl,rfl,rfl,rfl,rfl⟩<;>omega):p:=h
theorem yaH{p:Prop}(h:p:=by repeat (first |exact Below.refl _ _ |refine Below.drew ?_ |refine below_dN' ?_ _ |refine ybl ?_ _)):p:=h
theorem yaI{p:Prop}(h:p:=by rcases HCZ.out with ⟨rfl,rfl,rfl,rfl,rfl,rfl⟩ |⟨rfl,rfl,rfl,rfl,rfl,rfl⟩ |⟨rfl,rfl,rfl,rfl,rfl,rfl⟩<;>omega):p:=h
theorem yaJ{p:Prop}(h:p:=by rcases HCS.out with ⟨rfl,rfl,rfl,rfl,rfl,rfl⟩ |⟨rfl,rfl,rfl,rfl,rfl,rfl⟩ |⟨rfl,rfl,rfl,rfl,rfl,rfl⟩<;>rfl):p:=h
theorem yaK{p:Prop}(h:p:=by rcases HCZ.out with ⟨rfl,rfl,rfl,rfl,rfl,rfl⟩ |⟨rfl,rfl,rfl,rfl,rfl,rfl⟩ |⟨rfl,rfl,rfl,rfl,rfl,rfl⟩<;>rfl):p:=h
theorem yaL{p:Prop}(h:p:=by repeat (first |exact HB1.out |refine Below.drew ?_ |refine below_dN' ?_ _ |refine ybl ?_ _)):p:=h
theorem yaM{p:Prop}(h:p:=by repeat (first |exact HBy.out |refine Below.drew ?_ |refine below_dN' ?_ _ |refine ybl ?_ _)):p:=h
theorem yaN{p:Prop}(h:p:=by rw [HR.out];first |exact (decide_eq_true (by omega)).symm |exact (decide_eq_false (by omega)).symm):p:=h
theorem yaO{p:Prop}(h:p:=by simp only [Bool.false_and,Bool.and_false,Bool.true_and,Bool.and_true,Bool.not_false,Bool.not_true]):p:=h
theorem yaP{p:Prop}(h:p:=by unfold rgB;first |exact (decide_eq_true (by omega)).symm |exact (decide_eq_false (by omega)).symm):p:=h
theorem yaQ{p:Prop}(h:p:=by rcases HCZ.out with ⟨rfl,rfl,rfl,rfl,rfl⟩ |⟨rfl,rfl,rfl,rfl,rfl⟩ |⟨rfl,rfl,rfl,rfl,rfl⟩<;>omega):p:=h
theorem yaR{p:Prop}(h:p:=by rcases HCZ.out with ⟨rfl,rfl,rfl,rfl,rfl⟩ |⟨rfl,rfl,rfl,rfl,rfl⟩ |⟨rfl,rfl,rfl,rfl,rfl⟩<;>rfl):p:=h
theorem yaS{p:Prop}(h:p:=by first |exact Nat.le_refl _ |exact HB.out.size |(simp;exact Nat.le_succ_of_le HB.out.size)):p:=h
theorem yaT{p:Prop}(h:p:=by first |exact (decide_eq_true (by omega)).symm |exact (decide_eq_false (by omega)).symm):p:=h
theorem yaU{p:Prop}(h:p:=by simp only [List.getElem?_toArray,List.getElem?_cons_succ,List.getElem?_cons_zero];rfl):p:=h
theorem yaV{p:Prop}(h:p:=by repeat (first |exact Below.refl _ _ |refine Below.drew ?_ |refine ybl ?_ _)):p:=h
theorem yaW{p:Prop}(h:p:=by first |exact HKP.out _ HB9.out |exact HKP.out _ HB10.out |exact HKP.out _ HB12.out):p:=h
theorem yaX{p:Prop}(h:p:=by have:=ybx ix;have:=ybx sz;have:=ybx dy;simp [List.flatMap_cons];omega):p:=h
theorem yaY{p:Prop}(h:p:=by have:=HGL.out;have:=HS1.out;have:=HB.out.size;have:=HBW.out;omega):p:=h
theorem yaZ{p:Prop}(h:p:=by first |exact HC.out _ HBx.out |exact HC.out _ HB1.out |go_keep):p:=h
theorem ya0{p:Prop}(h:p:=by first |exact HB.out.size |exact Nat.le_refl _):p:=h
theorem ya1{p:Prop}(h:p:=by first |exact HBx.out.size |exact HB1.out.size):p:=h
theorem ya2{p:Prop}(h:p:=by first |exact Nat.le_refl _ |(simp<;>omega)):p:=h
theorem ya3{p:Prop}(h:p:=by have:=HGE.out;have:=HAE.out;omega):p:=h
theorem ya4{p:Prop}(h:p:=by rw [HXN.out];exact Nat.le_refl _):p:=h
theorem ya5{p:Prop}(h:p:=by show _ < W3.heap.size;omega):p:=h
theorem ya6{p:Prop}(h:p:=by rw [List.length_drop];omega):p:=h
theorem ya7{p:Prop}(h:p:=by rw [<-HWE.out];exact HG3.out):p:=h
theorem ya8{p:Prop}(h:p:=by show _<=w.heap.size+1;omega):p:=h
theorem ya9{p:Prop}(h:p:=by rw [zw_len ht];exact hlt):p:=h
theorem yba{p:Prop}(h:p:=by rw [HXN.out];exact hlt):p:=h
theorem ybb{p:Prop}(h:p:=by rw [HQL.out];exact hml):p:=h
theorem ybc{p:Prop}(h:p:=by exact fun _ _ _ h=>h):p:=h
theorem ybd{p:Prop}(h:p:=by unfold maxLen;omega):p:=h
theorem ybe{p:Prop}(h:p:=by have:=HGL.out;omega):p:=h
theorem ybf{p:Prop}(h:p:=by have:=HPG.out;omega):p:=h
theorem ybg{p:Prop}(h:p:=by rw [HLN.out];omega):p:=h
theorem ybh{p:Prop}(h:p:=by simp;omega):p:=h
theorem ybi{p:Prop}(h:p:=by kernel_rfl):p:=h
theorem ybj{p:Prop}(h:p:=by trivial):p:=h
theorem om{p:Prop}(h:p:=by omega):p:=h
theorem sI{p:Prop}(h:p:=by simp):p:=h
theorem de{p:Prop}(h:p:=by decide):p:=h
theorem nl{n:Nat}:n<=n:=Nat.le_refl n
theorem bl{w:World}{o}:Below w.heap.size w (w.alloc o):=(Below.refl _ _).alloc (Nat.le_refl _) _
theorem bR{B:Nat}{w:World}:Below B w w:=Below.refl _ _
theorem lh{p:Prop}(h:p):Hid p:=Lib.hid h
theorem bt{w a b:World}(h:Below w.heap.size w a)(k:Below a.heap.size a b):Below w.heap.size w b:=h.trans (k.mono h.size)
theorem gX{α:Type _}(e:α):∃x,e=x:=⟨_,rfl⟩
theorem zz(w:World)(g j:Nat)(cs:Array Value)(t:TypeId)(fr:Nat×Nat)(h:w.heap[g]? =some (.cells cs t fr)):w.cell? ⟨g,j,none⟩=cs[j]?:=cell_of_row w g j cs t fr h
theorem lb{w:World}{b:Nat}{o:Obj}(h:w.heap[b]? =some o):b<w.heap.size:=lt_of_block h
theorem zy(w:World)(o:Obj):(w.alloc o).heap[w.heap.size]? =some o:=heap_alloc_new w o
theorem lT{n m k:Nat}(h:n≤m)(i:m≤k):n≤k:=Nat.le_trans h i
theorem ol{w:World}{base:Nat}{e:TypeId}{size:Nat}{v:Value}{n:Nat}{xs:List Value}(h:w.ownsRow base e size v n xs):∀k:Nat,v.ownBlock=some k→base≤k∧k<w.heap.size:=World.ownsRow.lt h
theorem cB{w w':World}{a:Addr}(h:w'.heap[a.block]? =w.heap[a.block]?):w'.cell? a=w.cell? a:=World.cell?_of_block h
theorem rH{P:Program}{ops:Array Oper}{Q:Exit→Act→World→Prop}{S:World→Prop}{G:Nat}{a:Act}{w:World}(h:P.follows Departure.mixedOrders=true)(i:S w.drew)(k:S w.drew→wpAnyH P Region.Mode.any ops Q S ops.size (Array.replicate ops.size false) a w.drew):Code.wp P (Code.region G ops true) Q a w:=wp_region_held_drew h i k
theorem zx(w:World)(o:Obj)(k:Nat)(h:k<w.heap.size):(w.alloc o).heap[k]? =w.heap[k]?:=Below.heap_alloc w o k h
