import Derived.Test.YtpdledjgbgalcaaGreatDoorPg
namespace Go.Proofs.YtpdledjgbgalcaaGreatDoor
set_option maxRecDepth 100000
set_option maxHeartbeats 4000000
open Go.RowKit Go.Lib Go.Proofs.Tryz
set_option linter.unusedVariables false
set_option linter.unusedSimpArgs false
theorem yd9 {P:Program} (w:World) (b o:Nat) (G:TypeId) (v:Value) (ht:w.there b o 1) (hi:(P.info? G).map (·.size)=some 1) (h1:v.oneCell'=true):
 (storeVar G ⟨b,o,none⟩ v).run P w= .ok () (w.setCells b o [v]):=by
 have K:v.cells=#[v]:=by cases v<;>first |rfl |cases h1
 have:=run_storeCells_cells (P:=P) b o [v] 0 w (fun j hj=>by simpa using (ht j (by simpa using hj)).1) (fun j hj=>by simpa using (ht j (by simpa using hj)).2) (fun x J=>by simp at J;subst J;exact h1)
 cases H:P.info? G with
 |none=>simp [H] at hi
 |some i=>
  have hs:i.size=1:=by simpa [H] using hi
  simp only [Nat.add_zero] at this;simp [storeVar,sizeOf,typeInfo,H,K,hs,this]
theorem ybn {P:Program} {w:World} {ops:Array Oper} {G:List Oper} {o:Oper} {a:Act} {Q:Exit->Act->World->Prop} (K:o.guard=none) (H:TypeId) (x y:Operand) (M:o.op= .store H x y)
 (b:Nat) (t:TypeId) (k:Nat) (cs:Array Value) (v:Value) (T:a.eval x= .pointer (some ⟨b,k,none⟩)) (N:a.eval y=v) (J:w.heap[b]? =some (.cells cs t (0,0))) (L:k < cs.size) (hi:(P.info? H).map (·.size)=some 1)
 (h1:v.oneCell'=true)
 (h:∀w',Hid (w'.heap[b]? =some (.cells (cs.setIfInBounds k v) t (0,0)))->Hid (But (fun k=>k=b) w w')->wpList P ops Q G (a.put o.dst undef) w'):wpList P ops Q (o::G) a w:=by
 have ht:w.there b k 1:=by
  intro j hj;obtain rfl:j=0:=by omega
  refine ⟨?_,frozen_of_row w b _ _ _ J⟩;rw [cell_of_row w b _ _ _ _ J,Nat.add_zero,Array.getElem?_eq_getElem L];rfl
 refine wpList_plain K fun _ O=>?_;unfold Oper.wp execOp;simp only [M,T,N,Instr.storeAt,Instr.sureAddr,Sem.run_bind,Sem.run_pure,Result.andThen_ok,yd9 w b k H v ht hi h1];refine O _ _ (h _ (heap_setCell_same w b k _ _ v J) (But.setCell (p:=fun k=>k=b) (x:=⟨b,k,none⟩) (But.refl _ _) (.inl rfl) _))
theorem ybJ {P:Program} {L:Func} {p d f:Tmp} {H:TypeId} (h:L.results=#[.cell p H,.tmp d,.tmp f]) (G:Array Value) (w:World) (g:Nat) (t:TypeId) (cs:Array Value) (fr:Nat × Nat) (J:TypeDesc)
 (hp:G.getD p undef= .pointer (some ⟨g,0,none⟩)) (N:w.heap[g]? =some (.cells cs t fr))
 (M:P.underlying H=some J) (hd:(match J with | .struct _ | .array _ _=>true |_=>false)=true) (hi:(P.info? H).map (·.size)=some cs.size):
 (results L G).run P w= .ok (.tuple #[.agg cs,G.getD d undef,G.getD f undef]) w:=by
 have K:G[p]?.getD undef= .pointer (some ⟨g,0,none⟩):=by simpa using hp
 simp [results,h,K,asAddr,run_loadVar_row w g t H cs fr J N M hd hi]
abbrev rv (k u n:Int) (s:ByteArray) (m:Int):Array Value:=#[.int .i64 k,.int .u64 u,.int .i64 n,.bool false,.string s,.int .i64 m]
theorem Tryz.sizeRv:(prog.info? 188).map (·.size)=some 6:=by kernel_rfl
theorem ybp (k u n:Int) (s:ByteArray) (m:Int):(prog.info? 188).map (·.size)=some (rv k u n s m).size:=Tryz.sizeRv
theorem rv_lt {k u n m:Int} {s:ByteArray} {i:Nat} (h:i < 6):i < (rv k u n s m).size:=h
theorem ybX (k u n:Int) (s:ByteArray) (m:Int):(rv k u n s m).all (·.oneCell')=true:=by
 rw [Array.all_eq_true'];intro x G;simp only [rv,List.mem_toArray,List.mem_cons,List.not_mem_nil,or_false] at G;rcases G with rfl |rfl |rfl |rfl |rfl |rfl<;>rfl
theorem Tryz.size64u:(prog.info? 93).map (·.size)=some 1:=by kernel_rfl
theorem Tryz.sizeI:(prog.info? 3).map (·.size)=some 1:=by kernel_rfl
theorem Tryz.sizeStr:(prog.info? 9).map (·.size)=some 1:=by kernel_rfl
def rvP17:Array (Nat × Operand):=#[(0,.tmp 15),(5,.tmp 16)]
theorem rvB17 (a:Act) (k m:Int) (h0:a.eval (.tmp 15)= .int .i64 k) (h1:a.eval (.tmp 16)= .int .i64 m):prog.built 188 (rvP17.map fun (i,x)=>(i,a.eval x)).toList=some (rv k 0 0 ⟨#[]⟩ m):=by
 rw [Array.toList_map];show prog.built 188 [(0,a.eval (.tmp 15)),(5,a.eval (.tmp 16))]=_;rw [h0,h1]
 kernel_rfl
def RdP (k u n:Int) (s:ByteArray) (m:Int) (q:Nat) (er:Int) (w:World) (e:Ending) (w':World):Prop:=
 e= .returned (.tuple #[.agg (rv k u n s m),.int .i64 q,.int .i64 er])/\Below w.heap.size w w'
def bxW (w:World) (k m:Int):World:=(w.alloc (.cells (rv 0 0 0 ⟨#[]⟩ 0) 188)).alloc (.cells (rv k 0 0 ⟨#[]⟩ m) 188)
theorem ybN (w:World) (k m:Int):Below w.heap.size w (bxW w k m)/\(bxW w k m).heap[w.heap.size]? =some (.cells (rv 0 0 0 ⟨#[]⟩ 0) 188 (0,0))/\(bxW w k m).heap[w.heap.size+1]? =some (.cells (rv k 0 0 ⟨#[]⟩ m) 188 (0,0))/\(bxW w k m).heap.size=w.heap.size+1+1:=by
 unfold bxW;refine ⟨bl.alloc sI _,?_,?_,by simp⟩
 ·rw [Below.heap_alloc _ _ _ sI];exact zy w _
 ·have:=zy (w.alloc (.cells (rv 0 0 0 ⟨#[]⟩ 0) 188)) (.cells (rv k 0 0 ⟨#[]⟩ m) 188);simpa using this
theorem rd1_no (A:Option Addr) (n c p B:Nat) (m:Int) (bs:List Int) (w:World) (U:Sl fB w B A n bs) (Z:∀b∈bs,0<=b/\b < 256) (W:B<=w.heap.size) (hp:p<=n) (hn:n<=1000000) (ae:n<=c) (z:nmF bs p=(0,0,false)):
 Calls prog 178 #[.slice A n c,.int .i64 p,.int .i64 1,.int .i64 m] w (RdP 1 0 0 ⟨#[]⟩ m p 3 w):=by
 have HX:=lh U;have Y:=lh Z;have HLN:Hid (bs.length=n):=U.1;obtain ⟨J,T,K,N⟩:=ybN w 1 m;obtain ⟨W1,M⟩:=gX (bxW w 1 m);rw [M] at J T K N;have HB1:=lh J;have H:=lh T;have G:=lh K;have HS1:=lh N;have HWE:Hid (W1=(w.alloc (.cells (rv 0 0 0 ⟨#[]⟩ 0) 188)).alloc (.cells (rv 1 0 0 ⟨#[]⟩ m) 188)):=M.symm;have HBW:Hid (B<=W1.heap.size):=lT W J.size;have ac:=lh (U.up J W);clear J T K N M;have aa:Hid (nmF bs p=(0,0,false)):=z;clear U Z W z;go_enter func178,ntmps178;go_upto_region 2 with (with_reducible refine ybq (o:=⟨some 17,_,_,_,_,_⟩) rfl 188 rvP17 ybi (rv 1 0 0 ⟨#[]⟩ m) (rvB17 _ 1 m rfl rfl) ?_)
 rw [<-HWE.out]
 go_wp2_with (first
  |(go_at_call 231;(with_reducible refine (ydE A n c p B bs _ ac.out Y.out HBW.out hp hn).mono ?_);rintro e W2 ⟨rfl,b⟩;(rw [aa.out]);have B2:=lh b;have O:=lh ((b.block _ (lb H.out)).trans H.out);have L:=lh ((b.block _ (lb G.out)).trans G.out);clear H G b;have H:=O;have G:=L;clear O L)
  |(with_reducible refine wpList_load_row (o:=⟨some 70,_,_,_,_,_⟩) rfl 188 (.tmp 11) rfl (w.heap.size+1) rfl 188 (rv 1 0 0 ⟨#[]⟩ m) _ _ G.out underlying188 rfl (ybp _ _ _ _ _) ?_)
  |((with_reducible refine ybk (o:=⟨none,_,_,_,_,_⟩) rfl 188 (.tmp 8) (.tmp 70) rfl w.heap.size 188 (rv 0 0 0 ⟨#[]⟩ 0) (rv 1 0 0 ⟨#[]⟩ m) rfl rfl H.out (ybp _ _ _ _ _) rfl (ybX _ _ _ _ _) ?_);intro W7 HG7 HB7))
 refine bodyPost_ret (ybJ rfl _ _ _ _ _ _ _ rfl HG7.out underlying188 rfl (ybp _ _ _ _ _)) rfl ⟨rfl,(bt HB1.out B2.out).trans (HB7.out.below (lT HB1.out.size B2.out.size) (fun i hi=>by subst hi;exact Nat.le_refl _))⟩
theorem rd1_ok (A:Option Addr) (n c p B:Nat) (m:Int) (bs:List Int) (w:World) (W:Sl fB w B A n bs) (hb:∀b∈bs,0<=b/\b < 256) (z:B<=w.heap.size) (hp:p<=n) (hn:n<=1000000) (af:n<=c) (v:Int) (q:Nat) (hq:nmF bs p=(v,q,true)):
 Calls prog 178 #[.slice A n c,.int .i64 p,.int .i64 1,.int .i64 m] w (RdP 1 v 0 ⟨#[]⟩ m q 0 w):=by
 have HX:=lh W;have aa:=lh hb;have HLN:Hid (bs.length=n):=W.1;obtain ⟨J,U,K,O⟩:=ybN w 1 m;obtain ⟨W1,M⟩:=gX (bxW w 1 m);rw [M] at J U K O;have HB1:=lh J;have H:=lh U;have G:=lh K;have HS1:=lh O;have HWE:Hid (W1=(w.alloc (.cells (rv 0 0 0 ⟨#[]⟩ 0) 188)).alloc (.cells (rv 1 0 0 ⟨#[]⟩ m) 188)):=M.symm;have HBW:Hid (B<=W1.heap.size):=lT z J.size;have ae:=lh (W.up J z);clear J U K O M;have ac:Hid (nmF bs p=(v,q,true)):=hq;clear W hb z hq;go_enter func178,ntmps178;go_upto_region 2 with (with_reducible refine ybq (o:=⟨some 17,_,_,_,_,_⟩) rfl 188 rvP17 ybi (rv 1 0 0 ⟨#[]⟩ m) (rvB17 _ 1 m rfl rfl) ?_)
 rw [<-HWE.out]
 go_wp2_with (first
  |(go_at_call 231;(with_reducible refine (ydE A n c p B bs _ ae.out aa.out HBW.out hp hn).mono ?_);rintro e W2 ⟨rfl,b⟩;(rw [ac.out]);have B2:=lh b;have T:=lh ((b.block _ (lb H.out)).trans H.out);have L:=lh ((b.block _ (lb G.out)).trans G.out);clear H G b;have H:=T;have G:=L;clear T L)
  |((with_reducible refine ybn (o:=⟨none,_,_,_,_,_⟩) rfl 93 (.tmp 76) (.tmp 75) rfl (w.heap.size+1) 188 1 (rv 1 0 0 ⟨#[]⟩ m) (.int .u64 v) ybi rfl G.out (rv_lt de) Tryz.size64u ybi ?_);intro W5 Y N;have HG5:Hid (W5.heap[w.heap.size+1]? =some (.cells (rv 1 v 0 ⟨#[]⟩ m) 188 (0,0))):=Y.out;have Z:Hid (W5.heap[w.heap.size]? =some (.cells (rv 0 0 0 ⟨#[]⟩ 0) 188 (0,0))):=(N.out.block _ (lb H.out) om).trans H.out)
  |(with_reducible refine wpList_load_row (o:=⟨some 77,_,_,_,_,_⟩) rfl 188 (.tmp 11) rfl (w.heap.size+1) rfl 188 (rv 1 v 0 ⟨#[]⟩ m) _ _ HG5.out underlying188 rfl (ybp _ _ _ _ _) ?_)
  |((with_reducible refine ybk (o:=⟨none,_,_,_,_,_⟩) rfl 188 (.tmp 8) (.tmp 77) rfl w.heap.size 188 (rv 0 0 0 ⟨#[]⟩ 0) (rv 1 v 0 ⟨#[]⟩ m) rfl rfl Z.out (ybp _ _ _ _ _) rfl (ybX _ _ _ _ _) ?_);intro W7 HG7 HB7))
 refine bodyPost_ret (ybJ rfl _ _ _ _ _ _ _ rfl HG7.out underlying188 rfl (ybp _ _ _ _ _)) rfl ⟨rfl,((bt HB1.out B2.out).trans (N.out.below (lT HB1.out.size B2.out.size) (fun i hi=>by subst hi;omega))).trans (HB7.out.below (lT (lT HB1.out.size B2.out.size) N.out.size) (fun i hi=>by subst hi;exact Nat.le_refl _))⟩
theorem rd6_no (A:Option Addr) (n c p B:Nat) (m:Int) (bs:List Int) (w:World) (M:Sl fB w B A n bs) (U:∀b∈bs,0<=b/\b < 256) (O:B<=w.heap.size) (hp:p<=n) (hn:n<=1000000) (Z:n<=c) (Y:n < p+32):
 Calls prog 178 #[.slice A n c,.int .i64 p,.int .i64 6,.int .i64 m] w (RdP 6 0 0 ⟨#[]⟩ m p 3 w):=by
 have HX:=lh M;have z:=lh U;have HLN:Hid (bs.length=n):=M.1;obtain ⟨G,L,H,J⟩:=ybN w 6 m;obtain ⟨W,K⟩:=gX (bxW w 6 m);rw [K] at G L H J;have HB1:=lh G;have T:=lh L;have N:=lh H;have HS1:=lh J;have HWE:Hid (W=(w.alloc (.cells (rv 0 0 0 ⟨#[]⟩ 0) 188)).alloc (.cells (rv 6 0 0 ⟨#[]⟩ m) 188)):=K.symm;have HBW:Hid (B<=W.heap.size):=lT O G.size;have aa:=lh (M.up G O);clear G L H J K;have hlt:(n:Int) - (p:Int) < 32:=by omega
 clear M U O Y;go_enter func178,ntmps178;go_upto_region 2 with (with_reducible refine ybq (o:=⟨some 17,_,_,_,_,_⟩) rfl 188 rvP17 ybi (rv 6 0 0 ⟨#[]⟩ m) (rvB17 _ 6 m rfl rfl) ?_)
 rw [<-HWE.out]
 go_wp2_with (first
  |(with_reducible refine wpList_load_row (o:=⟨some 25,_,_,_,_,_⟩) rfl 188 (.tmp 11) rfl (w.heap.size+1) rfl 188 (rv 6 0 0 ⟨#[]⟩ m) _ _ N.out underlying188 rfl (ybp _ _ _ _ _) ?_)
  |((with_reducible refine ybk (o:=⟨none,_,_,_,_,_⟩) rfl 188 (.tmp 8) (.tmp 25) rfl w.heap.size 188 (rv 0 0 0 ⟨#[]⟩ 0) (rv 6 0 0 ⟨#[]⟩ m) rfl rfl T.out (ybp _ _ _ _ _) rfl (ybX _ _ _ _ _) ?_);intro W7 HG7 HB7))
 refine bodyPost_ret (ybJ rfl _ _ _ _ _ _ _ rfl HG7.out underlying188 rfl (ybp _ _ _ _ _)) rfl ⟨rfl,HB1.out.trans (HB7.out.below HB1.out.size (fun i hi=>by subst hi;exact Nat.le_refl _))⟩
theorem rd6_ok (A:Option Addr) (n c p B:Nat) (m:Int) (bs:List Int) (w:World) (U:Sl fB w B A n bs) (hb:∀b∈bs,0<=b/\b < 256) (hB:B<=w.heap.size) (hp:p<=n) (hn:n<=1000000) (af:n<=c) (hq:p+32<=n):
 Calls prog 178 #[.slice A n c,.int .i64 p,.int .i64 6,.int .i64 m] w (RdP 6 0 0 (baOf ((bs.drop p).take 32)) m (p+32) 0 w):=by
 have HX:=lh U;have ai:=lh hb;have HLN:Hid (bs.length=n):=U.1;obtain ⟨G,M,H,N⟩:=ybN w 6 m;obtain ⟨W1,K⟩:=gX (bxW w 6 m);rw [K] at G M H N;have HB1:=lh G;have W:=lh M;have aa:=lh H;have HS1:=lh N;have HWE:Hid (W1=(w.alloc (.cells (rv 0 0 0 ⟨#[]⟩ 0) 188)).alloc (.cells (rv 6 0 0 ⟨#[]⟩ m) 188)):=K.symm;have HBW:Hid (B<=W1.heap.size):=lT hB G.size;have ag:=lh (U.up G hB);clear G M H N K;have hlt:¬(n:Int) - (p:Int) < 32:=by omega
 obtain ⟨i0,ah,_,ae,_⟩:=info_parts Tryz.infoB;have Y:=ycT (P:=prog) 40 5 i0 underlying40 ah ae A n c p (p+32) om om;rw [show ((p+32:Nat):Int)=(p:Int)+32 by omega,show p+32 - p=32 by omega] at Y;obtain ⟨Z,O⟩:∃Z,(if c=p then A else A.map (·.add p))=Z:=⟨_,rfl⟩
 obtain ⟨T,J⟩:∃s,s=baOf ((bs.drop p).take 32):=⟨_,rfl⟩
 have aj:=lh J
 have HP:Hid (∀V,Sl fB V B A n bs->(convert 40 9 (.slice Z 32 (c - p))).run prog V= .ok (.string T) V):=fun V hV=>by
  rw [J,<-O];exact yb1 (P:=prog) 40 5 9 underlying40 underlying5 underlying9 V _ _ _ _ _ (hV.part p 32 om af)
 rw [O] at Y;have ak:=HP.out W1 ag.out;rw [<-J];clear U hb hB hq J O;go_enter func178,ntmps178;go_upto_region 2 with (with_reducible refine ybq (o:=⟨some 17,_,_,_,_,_⟩) rfl 188 rvP17 ybi (rv 6 0 0 ⟨#[]⟩ m) (rvB17 _ 6 m rfl rfl) ?_)
 rw [<-HWE.out]
 go_wp2_with (first
  |((with_reducible refine ybn (o:=⟨none,_,_,_,_,_⟩) rfl 9 (.tmp 33) (.tmp 32) rfl (w.heap.size+1) 188 4 (rv 6 0 0 ⟨#[]⟩ m) (.string T) ybi rfl aa.out (rv_lt de) Tryz.sizeStr ybi ?_);intro W5 z L;have HG5:Hid (W5.heap[w.heap.size+1]? =some (.cells (rv 6 0 0 T m) 188 (0,0))):=z.out;have ac:Hid (W5.heap[w.heap.size]? =some (.cells (rv 0 0 0 ⟨#[]⟩ 0) 188 (0,0))):=(L.out.block _ (lb W.out) om).trans W.out)
  |(with_reducible refine wpList_load_row (o:=⟨some 34,_,_,_,_,_⟩) rfl 188 (.tmp 11) rfl (w.heap.size+1) rfl 188 (rv 6 0 0 T m) _ _ HG5.out underlying188 rfl (ybp _ _ _ _ _) ?_)
  |((with_reducible refine ybk (o:=⟨none,_,_,_,_,_⟩) rfl 188 (.tmp 8) (.tmp 34) rfl w.heap.size 188 (rv 0 0 0 ⟨#[]⟩ 0) (rv 6 0 0 T m) rfl rfl ac.out (ybp _ _ _ _ _) rfl (ybX _ _ _ _ _) ?_);intro W7 HG7 HB7))
 refine bodyPost_ret (ybJ rfl _ _ _ _ _ _ _ rfl HG7.out underlying188 rfl (ybp _ _ _ _ _)) rfl ⟨(by first |rfl |(simp;done) |(congr;omega)),HB1.out.trans ((L.out.below HB1.out.size (fun i hi=>by subst hi;omega)).trans (HB7.out.below (lT HB1.out.size L.out.size) (fun i hi=>by subst hi;exact Nat.le_refl _)))⟩
theorem rd7_no (A:Option Addr) (n c p B:Nat) (m:Int) (bs:List Int) (w:World) (U:Sl fB w B A n bs) (Z:∀b∈bs,0<=b/\b < 256) (W:B<=w.heap.size) (hp:p<=n) (hn:n<=1000000) (ae:n<=c) (hm:0<=m/\m<=1000000) (z:nmF bs p=(0,0,false)):
 Calls prog 178 #[.slice A n c,.int .i64 p,.int .i64 7,.int .i64 m] w (RdP 7 0 0 ⟨#[]⟩ m p 3 w):=by
 have HX:=lh U;have Y:=lh Z;have HLN:Hid (bs.length=n):=U.1;obtain ⟨J,N,K,O⟩:=ybN w 7 m;obtain ⟨W1,M⟩:=gX (bxW w 7 m);rw [M] at J N K O;have HB1:=lh J;have H:=lh N;have G:=lh K;have HS1:=lh O;have HWE:Hid (W1=(w.alloc (.cells (rv 0 0 0 ⟨#[]⟩ 0) 188)).alloc (.cells (rv 7 0 0 ⟨#[]⟩ m) 188)):=M.symm;have HBW:Hid (B<=W1.heap.size):=lT W J.size;have ac:=lh (U.up J W);clear J N K O M;have aa:Hid (nmF bs p=(0,0,false)):=z;clear U Z W z;go_enter func178,ntmps178;go_upto_region 2 with (with_reducible refine ybq (o:=⟨some 17,_,_,_,_,_⟩) rfl 188 rvP17 ybi (rv 7 0 0 ⟨#[]⟩ m) (rvB17 _ 7 m rfl rfl) ?_)
 rw [<-HWE.out]
 go_wp2_with (first
  |(go_at_call 231;(with_reducible refine (ydE A n c p B bs _ ac.out Y.out HBW.out hp hn).mono ?_);rintro e W2 ⟨rfl,b⟩;(rw [aa.out]);have B2:=lh b;have T:=lh ((b.block _ (lb H.out)).trans H.out);have L:=lh ((b.block _ (lb G.out)).trans G.out);clear H G b;have H:=T;have G:=L;clear T L)
  |(with_reducible refine wpList_load_row (o:=⟨some 70,_,_,_,_,_⟩) rfl 188 (.tmp 11) rfl (w.heap.size+1) rfl 188 (rv 7 0 0 ⟨#[]⟩ m) _ _ G.out underlying188 rfl (ybp _ _ _ _ _) ?_)
  |((with_reducible refine ybk (o:=⟨none,_,_,_,_,_⟩) rfl 188 (.tmp 8) (.tmp 70) rfl w.heap.size 188 (rv 0 0 0 ⟨#[]⟩ 0) (rv 7 0 0 ⟨#[]⟩ m) rfl rfl H.out (ybp _ _ _ _ _) rfl (ybX _ _ _ _ _) ?_);intro W7 HG7 HB7))
 refine bodyPost_ret (ybJ rfl _ _ _ _ _ _ _ rfl HG7.out underlying188 rfl (ybp _ _ _ _ _)) rfl ⟨rfl,(bt HB1.out B2.out).trans (HB7.out.below (lT HB1.out.size B2.out.size) (fun i hi=>by subst hi;exact Nat.le_refl _))⟩
theorem rd7_big (A:Option Addr) (n c p B:Nat) (m:Int) (bs:List Int) (w:World) (U:Sl fB w B A n bs) (Z:∀b∈bs,0<=b/\b < 256) (W:B<=w.heap.size) (hp:p<=n) (hn:n<=1000000) (af:n<=c) (hm:0<=m/\m<=1000000) (v q:Nat) (z:nmF bs p=((v:Int),q,true)) (hv:m < v):
 Calls prog 178 #[.slice A n c,.int .i64 p,.int .i64 7,.int .i64 m] w (RdP 7 0 0 ⟨#[]⟩ m p 2 w):=by
 have HX:=lh U;have Y:=lh Z;have HLN:Hid (bs.length=n):=U.1;obtain ⟨J,N,K,O⟩:=ybN w 7 m;obtain ⟨W1,M⟩:=gX (bxW w 7 m);rw [M] at J N K O;have HB1:=lh J;have H:=lh N;have G:=lh K;have HS1:=lh O;have HWE:Hid (W1=(w.alloc (.cells (rv 0 0 0 ⟨#[]⟩ 0) 188)).alloc (.cells (rv 7 0 0 ⟨#[]⟩ m) 188)):=M.symm;have HBW:Hid (B<=W1.heap.size):=lT W J.size;have ac:=lh (U.up J W);clear J N K O M;have aa:Hid (nmF bs p=((v:Int),q,true)):=z;have ae:max m 0=m:=by omega
 have ag:IntKind.u64.wrap m=m:=by rw [IntKind.wrap_u64];omega
 clear U Z W z;go_enter func178,ntmps178;go_upto_region 2 with (with_reducible refine ybq (o:=⟨some 17,_,_,_,_,_⟩) rfl 188 rvP17 ybi (rv 7 0 0 ⟨#[]⟩ m) (rvB17 _ 7 m rfl rfl) ?_)
 rw [<-HWE.out]
 go_wp2_with (first
  |(go_at_call 231;(with_reducible refine (ydE A n c p B bs _ ac.out Y.out HBW.out hp hn).mono ?_);rintro e W2 ⟨rfl,b⟩;(rw [aa.out]);have B2:=lh b;have T:=lh ((b.block _ (lb H.out)).trans H.out);have L:=lh ((b.block _ (lb G.out)).trans G.out);clear H G b;have H:=T;have G:=L;clear T L)
  |(with_reducible refine wpList_load_row (o:=⟨some 91,_,_,_,_,_⟩) rfl 188 (.tmp 11) rfl (w.heap.size+1) rfl 188 (rv 7 0 0 ⟨#[]⟩ m) _ _ G.out underlying188 rfl (ybp _ _ _ _ _) ?_)
  |((with_reducible refine ybk (o:=⟨none,_,_,_,_,_⟩) rfl 188 (.tmp 8) (.tmp 91) rfl w.heap.size 188 (rv 0 0 0 ⟨#[]⟩ 0) (rv 7 0 0 ⟨#[]⟩ m) rfl rfl H.out (ybp _ _ _ _ _) rfl (ybX _ _ _ _ _) ?_);intro W7 HG7 HB7))
 refine bodyPost_ret (ybJ rfl _ _ _ _ _ _ _ rfl HG7.out underlying188 rfl (ybp _ _ _ _ _)) rfl ⟨rfl,(bt HB1.out B2.out).trans (HB7.out.below (lT HB1.out.size B2.out.size) (fun i hi=>by subst hi;exact Nat.le_refl _))⟩
theorem rd7_ok (A:Option Addr) (n c p B:Nat) (m:Int) (bs:List Int) (w:World) (W:Sl fB w B A n bs) (hb:∀b∈bs,0<=b/\b < 256) (z:B<=w.heap.size) (hp:p<=n) (hn:n<=1000000) (ai:n<=c) (hm:0<=m/\m<=1000000) (v q:Nat) (hq:nmF bs p=((v:Int),q,true)) (hv:(v:Int)<=m):
 Calls prog 178 #[.slice A n c,.int .i64 p,.int .i64 7,.int .i64 m] w (RdP 7 0 v ⟨#[]⟩ m q 0 w):=by
 have HX:=lh W;have aa:=lh hb;have HLN:Hid (bs.length=n):=W.1;obtain ⟨J,O,K,T⟩:=ybN w 7 m;obtain ⟨W1,M⟩:=gX (bxW w 7 m);rw [M] at J O K T;have HB1:=lh J;have H:=lh O;have G:=lh K;have HS1:=lh T;have HWE:Hid (W1=(w.alloc (.cells (rv 0 0 0 ⟨#[]⟩ 0) 188)).alloc (.cells (rv 7 0 0 ⟨#[]⟩ m) 188)):=M.symm;have HBW:Hid (B<=W1.heap.size):=lT z J.size;have ae:=lh (W.up J z);clear J O K T M;have ac:Hid (nmF bs p=((v:Int),q,true)):=hq;have ah:max m 0=m:=by omega
 have aj:IntKind.u64.wrap m=m:=by rw [IntKind.wrap_u64];omega
 have af:IntKind.i64.wrap (v:Int)=v:=by unfold IntKind.wrap;simp [IntKind.bits,IntKind.signed];omega
 have ag:¬m < (v:Int):=by omega
 clear W hb z hq;go_enter func178,ntmps178;go_upto_region 2 with (with_reducible refine ybq (o:=⟨some 17,_,_,_,_,_⟩) rfl 188 rvP17 ybi (rv 7 0 0 ⟨#[]⟩ m) (rvB17 _ 7 m rfl rfl) ?_)
 rw [<-HWE.out]
 go_wp2_with (first
  |(go_at_call 231;(with_reducible refine (ydE A n c p B bs _ ae.out aa.out HBW.out hp hn).mono ?_);rintro e W2 ⟨rfl,b⟩;(rw [ac.out]);have B2:=lh b;have U:=lh ((b.block _ (lb H.out)).trans H.out);have L:=lh ((b.block _ (lb G.out)).trans G.out);clear H G b;have H:=U;have G:=L;clear U L)
  |((with_reducible refine ybn (o:=⟨none,_,_,_,_,_⟩) rfl 3 (.tmp 97) (.tmp 96) rfl (w.heap.size+1) 188 2 (rv 7 0 0 ⟨#[]⟩ m) (.int .i64 v) ybi rfl G.out (rv_lt de) Tryz.sizeI ybi ?_);intro W5 Y N;have HG5:Hid (W5.heap[w.heap.size+1]? =some (.cells (rv 7 0 v ⟨#[]⟩ m) 188 (0,0))):=Y.out;have Z:Hid (W5.heap[w.heap.size]? =some (.cells (rv 0 0 0 ⟨#[]⟩ 0) 188 (0,0))):=(N.out.block _ (lb H.out) om).trans H.out)
  |(with_reducible refine wpList_load_row (o:=⟨some 98,_,_,_,_,_⟩) rfl 188 (.tmp 11) rfl (w.heap.size+1) rfl 188 (rv 7 0 v ⟨#[]⟩ m) _ _ HG5.out underlying188 rfl (ybp _ _ _ _ _) ?_)
  |((with_reducible refine ybk (o:=⟨none,_,_,_,_,_⟩) rfl 188 (.tmp 8) (.tmp 98) rfl w.heap.size 188 (rv 0 0 0 ⟨#[]⟩ 0) (rv 7 0 v ⟨#[]⟩ m) rfl rfl Z.out (ybp _ _ _ _ _) rfl (ybX _ _ _ _ _) ?_);intro W7 HG7 HB7))
 refine bodyPost_ret (ybJ rfl _ _ _ _ _ _ _ rfl HG7.out underlying188 rfl (ybp _ _ _ _ _)) rfl ⟨rfl,((bt HB1.out B2.out).trans (N.out.below (lT HB1.out.size B2.out.size) (fun i hi=>by subst hi;omega))).trans (HB7.out.below (lT (lT HB1.out.size B2.out.size) N.out.size) (fun i hi=>by subst hi;exact Nat.le_refl _))⟩
theorem rd4_no (A:Option Addr) (n c p B:Nat) (m:Int) (bs:List Int) (w:World) (U:Sl fB w B A n bs) (Z:∀b∈bs,0<=b/\b < 256) (W:B<=w.heap.size) (hp:p<=n) (hn:n<=1000000) (ae:n<=c) (hm:0<=m/\m<=1000000) (z:nmF bs p=(0,0,false)):
 Calls prog 178 #[.slice A n c,.int .i64 p,.int .i64 4,.int .i64 m] w (RdP 4 0 0 ⟨#[]⟩ m p 3 w):=by
 have HX:=lh U;have Y:=lh Z;have HLN:Hid (bs.length=n):=U.1;obtain ⟨J,N,K,O⟩:=ybN w 4 m;obtain ⟨W1,M⟩:=gX (bxW w 4 m);rw [M] at J N K O;have HB1:=lh J;have H:=lh N;have G:=lh K;have HS1:=lh O;have HWE:Hid (W1=(w.alloc (.cells (rv 0 0 0 ⟨#[]⟩ 0) 188)).alloc (.cells (rv 4 0 0 ⟨#[]⟩ m) 188)):=M.symm;have HBW:Hid (B<=W1.heap.size):=lT W J.size;have ac:=lh (U.up J W);clear J N K O M;have aa:Hid (nmF bs p=(0,0,false)):=z;clear U Z W z;go_enter func178,ntmps178;go_upto_region 2 with (with_reducible refine ybq (o:=⟨some 17,_,_,_,_,_⟩) rfl 188 rvP17 ybi (rv 4 0 0 ⟨#[]⟩ m) (rvB17 _ 4 m rfl rfl) ?_)
 rw [<-HWE.out]
 go_wp2_with (first
  |(go_at_call 231;(with_reducible refine (ydE A n c p B bs _ ac.out Y.out HBW.out hp hn).mono ?_);rintro e W2 ⟨rfl,b⟩;(rw [aa.out]);have B2:=lh b;have T:=lh ((b.block _ (lb H.out)).trans H.out);have L:=lh ((b.block _ (lb G.out)).trans G.out);clear H G b;have H:=T;have G:=L;clear T L)
  |(with_reducible refine wpList_load_row (o:=⟨some 70,_,_,_,_,_⟩) rfl 188 (.tmp 11) rfl (w.heap.size+1) rfl 188 (rv 4 0 0 ⟨#[]⟩ m) _ _ G.out underlying188 rfl (ybp _ _ _ _ _) ?_)
  |((with_reducible refine ybk (o:=⟨none,_,_,_,_,_⟩) rfl 188 (.tmp 8) (.tmp 70) rfl w.heap.size 188 (rv 0 0 0 ⟨#[]⟩ 0) (rv 4 0 0 ⟨#[]⟩ m) rfl rfl H.out (ybp _ _ _ _ _) rfl (ybX _ _ _ _ _) ?_);intro W7 HG7 HB7))
 refine bodyPost_ret (ybJ rfl _ _ _ _ _ _ _ rfl HG7.out underlying188 rfl (ybp _ _ _ _ _)) rfl ⟨rfl,(bt HB1.out B2.out).trans (HB7.out.below (lT HB1.out.size B2.out.size) (fun i hi=>by subst hi;exact Nat.le_refl _))⟩
theorem rd4_big (A:Option Addr) (n c p B:Nat) (m:Int) (bs:List Int) (w:World) (U:Sl fB w B A n bs) (Z:∀b∈bs,0<=b/\b < 256) (W:B<=w.heap.size) (hp:p<=n) (hn:n<=1000000) (af:n<=c) (hm:0<=m/\m<=1000000) (v q:Nat) (z:nmF bs p=((v:Int),q,true)) (hv:m < v):
 Calls prog 178 #[.slice A n c,.int .i64 p,.int .i64 4,.int .i64 m] w (RdP 4 0 0 ⟨#[]⟩ m p 2 w):=by
 have HX:=lh U;have Y:=lh Z;have HLN:Hid (bs.length=n):=U.1;obtain ⟨J,N,K,O⟩:=ybN w 4 m;obtain ⟨W1,M⟩:=gX (bxW w 4 m);rw [M] at J N K O;have HB1:=lh J;have H:=lh N;have G:=lh K;have HS1:=lh O;have HWE:Hid (W1=(w.alloc (.cells (rv 0 0 0 ⟨#[]⟩ 0) 188)).alloc (.cells (rv 4 0 0 ⟨#[]⟩ m) 188)):=M.symm;have HBW:Hid (B<=W1.heap.size):=lT W J.size;have ac:=lh (U.up J W);clear J N K O M;have aa:Hid (nmF bs p=((v:Int),q,true)):=z;have ae:max m 0=m:=by omega
 have ag:IntKind.u64.wrap m=m:=by rw [IntKind.wrap_u64];omega
 clear U Z W z;go_enter func178,ntmps178;go_upto_region 2 with (with_reducible refine ybq (o:=⟨some 17,_,_,_,_,_⟩) rfl 188 rvP17 ybi (rv 4 0 0 ⟨#[]⟩ m) (rvB17 _ 4 m rfl rfl) ?_)
 rw [<-HWE.out]
 go_wp2_with (first
  |(go_at_call 231;(with_reducible refine (ydE A n c p B bs _ ac.out Y.out HBW.out hp hn).mono ?_);rintro e W2 ⟨rfl,b⟩;(rw [aa.out]);have B2:=lh b;have T:=lh ((b.block _ (lb H.out)).trans H.out);have L:=lh ((b.block _ (lb G.out)).trans G.out);clear H G b;have H:=T;have G:=L;clear T L)
  |(with_reducible refine wpList_load_row (o:=⟨some 91,_,_,_,_,_⟩) rfl 188 (.tmp 11) rfl (w.heap.size+1) rfl 188 (rv 4 0 0 ⟨#[]⟩ m) _ _ G.out underlying188 rfl (ybp _ _ _ _ _) ?_)
  |((with_reducible refine ybk (o:=⟨none,_,_,_,_,_⟩) rfl 188 (.tmp 8) (.tmp 91) rfl w.heap.size 188 (rv 0 0 0 ⟨#[]⟩ 0) (rv 4 0 0 ⟨#[]⟩ m) rfl rfl H.out (ybp _ _ _ _ _) rfl (ybX _ _ _ _ _) ?_);intro W7 HG7 HB7))
 refine bodyPost_ret (ybJ rfl _ _ _ _ _ _ _ rfl HG7.out underlying188 rfl (ybp _ _ _ _ _)) rfl ⟨rfl,(bt HB1.out B2.out).trans (HB7.out.below (lT HB1.out.size B2.out.size) (fun i hi=>by subst hi;exact Nat.le_refl _))⟩
theorem rd4_short (A:Option Addr) (n c p B:Nat) (m:Int) (bs:List Int) (w:World) (U:Sl fB w B A n bs) (z:∀b∈bs,0<=b/\b < 256) (Y:B<=w.heap.size) (hp:p<=n) (hn:n<=1000000) (ai:n<=c) (hm:0<=m/\m<=1000000) (v q:Nat) (hq:nmF bs p=((v:Int),q,true)) (hv:(v:Int)<=m) (W:q<=n) (hs:n < q+v):
 Calls prog 178 #[.slice A n c,.int .i64 p,.int .i64 4,.int .i64 m] w (RdP 4 0 0 ⟨#[]⟩ m p 3 w):=by
 have HX:=lh U;have Z:=lh z;have HLN:Hid (bs.length=n):=U.1;obtain ⟨J,N,K,O⟩:=ybN w 4 m;obtain ⟨W1,M⟩:=gX (bxW w 4 m);rw [M] at J N K O;have HB1:=lh J;have H:=lh N;have G:=lh K;have HS1:=lh O;have HWE:Hid (W1=(w.alloc (.cells (rv 0 0 0 ⟨#[]⟩ 0) 188)).alloc (.cells (rv 4 0 0 ⟨#[]⟩ m) 188)):=M.symm;have HBW:Hid (B<=W1.heap.size):=lT Y J.size;have ac:=lh (U.up J Y);clear J N K O M;have aa:Hid (nmF bs p=((v:Int),q,true)):=hq;have ah:max m 0=m:=by omega
 have ak:IntKind.u64.wrap m=m:=by rw [IntKind.wrap_u64];omega
 have ae:IntKind.i64.wrap (v:Int)=v:=by unfold IntKind.wrap;simp [IntKind.bits,IntKind.signed];omega
 have ag:¬m < (v:Int):=by omega
 have W:q<=n:=W;have af:IntKind.u64.wrap ((n:Int) - (q:Int))=(n:Int) - (q:Int):=by rw [IntKind.wrap_u64];omega
 have aj:(n:Int) - (q:Int) < v:=by omega
 clear U z Y hq;go_enter func178,ntmps178;go_upto_region 2 with (with_reducible refine ybq (o:=⟨some 17,_,_,_,_,_⟩) rfl 188 rvP17 ybi (rv 4 0 0 ⟨#[]⟩ m) (rvB17 _ 4 m rfl rfl) ?_)
 rw [<-HWE.out]
 go_wp2_with (first
  |(go_at_call 231;(with_reducible refine (ydE A n c p B bs _ ac.out Z.out HBW.out hp hn).mono ?_);rintro e W2 ⟨rfl,b⟩;(rw [aa.out]);have B2:=lh b;have T:=lh ((b.block _ (lb H.out)).trans H.out);have L:=lh ((b.block _ (lb G.out)).trans G.out);clear H G b;have H:=T;have G:=L;clear T L)
  |(with_reducible refine wpList_load_row (o:=⟨some 107,_,_,_,_,_⟩) rfl 188 (.tmp 11) rfl (w.heap.size+1) rfl 188 (rv 4 0 0 ⟨#[]⟩ m) _ _ G.out underlying188 rfl (ybp _ _ _ _ _) ?_)
  |((with_reducible refine ybk (o:=⟨none,_,_,_,_,_⟩) rfl 188 (.tmp 8) (.tmp 107) rfl w.heap.size 188 (rv 0 0 0 ⟨#[]⟩ 0) (rv 4 0 0 ⟨#[]⟩ m) rfl rfl H.out (ybp _ _ _ _ _) rfl (ybX _ _ _ _ _) ?_);intro W7 HG7 HB7))
 refine bodyPost_ret (ybJ rfl _ _ _ _ _ _ _ rfl HG7.out underlying188 rfl (ybp _ _ _ _ _)) rfl ⟨rfl,(bt HB1.out B2.out).trans (HB7.out.below (lT HB1.out.size B2.out.size) (fun i hi=>by subst hi;exact Nat.le_refl _))⟩
theorem rd4_ok (A:Option Addr) (n c p B:Nat) (m:Int) (bs:List Int) (w:World) (z:Sl fB w B A n bs) (hb:∀b∈bs,0<=b/\b < 256) (hB:B<=w.heap.size) (hp:p<=n) (hn:n<=1000000) (al:n<=c) (hm:0<=m/\m<=1000000) (v q:Nat) (hq:nmF bs p=((v:Int),q,true)) (hv:(v:Int)<=m) (aa:q<=n) (hs:q+v<=n):
 Calls prog 178 #[.slice A n c,.int .i64 p,.int .i64 4,.int .i64 m] w (RdP 4 0 0 (baOf ((bs.drop q).take v)) m (q+v) 0 w):=by
 have HX:=lh z;have ah:=lh hb;have HLN:Hid (bs.length=n):=z.1;obtain ⟨J,T,K,U⟩:=ybN w 4 m;obtain ⟨W1,N⟩:=gX (bxW w 4 m);rw [N] at J T K U;have HB1:=lh J;have H:=lh T;have G:=lh K;have HS1:=lh U;have HWE:Hid (W1=(w.alloc (.cells (rv 0 0 0 ⟨#[]⟩ 0) 188)).alloc (.cells (rv 4 0 0 ⟨#[]⟩ m) 188)):=N.symm;have HBW:Hid (B<=W1.heap.size):=lT hB J.size;have ae:=lh (z.up J hB);clear J T K U N;have ak:Hid (nmF bs p=((v:Int),q,true)):=hq;have ar:max m 0=m:=by omega
 have ay:IntKind.u64.wrap m=m:=by rw [IntKind.wrap_u64];omega
 have ao:IntKind.i64.wrap (v:Int)=v:=by unfold IntKind.wrap;simp [IntKind.bits,IntKind.signed];omega
 have aq:¬m < (v:Int):=by omega
 have aa:q<=n:=aa;have ap:IntKind.u64.wrap ((n:Int) - (q:Int))=(n:Int) - (q:Int):=by rw [IntKind.wrap_u64];omega
 have au:¬(n:Int) - (q:Int) < v:=by omega
 obtain ⟨i0,am,_,aj,_⟩:=info_parts Tryz.infoB;have ac:=ycT (P:=prog) 40 5 i0 underlying40 am aj A n c q (q+v) om om;rw [show ((q+v:Nat):Int)=(q:Int)+(v:Int) by omega,show q+v - q=v by omega] at ac;obtain ⟨A',Y⟩:∃A',(if c=q then A else A.map (·.add q))=A':=⟨_,rfl⟩
 obtain ⟨Z,L⟩:∃s,s=baOf ((bs.drop q).take v):=⟨_,rfl⟩
 have aw:=lh L
 have HP:Hid (∀V,Sl fB V B A n bs->(convert 40 9 (.slice A' v (c - q))).run prog V= .ok (.string Z) V):=fun V hV=>by
  rw [L,<-Y];exact yb1 (P:=prog) 40 5 9 underlying40 underlying5 underlying9 V _ _ _ _ _ (hV.part q v om al)
 rw [Y] at ac;rw [<-L];clear z hb hB hq L Y;go_enter func178,ntmps178;go_upto_region 2 with (with_reducible refine ybq (o:=⟨some 17,_,_,_,_,_⟩) rfl 188 rvP17 ybi (rv 4 0 0 ⟨#[]⟩ m) (rvB17 _ 4 m rfl rfl) ?_)
 rw [<-HWE.out]
 go_wp2_with (first
  |(go_at_call 231;(with_reducible refine (ydE A n c p B bs _ ae.out ah.out HBW.out hp hn).mono ?_);rintro e W2 ⟨rfl,b⟩;(rw [ak.out]);have B2:=lh b;have W:=lh ((b.block _ (lb H.out)).trans H.out);have M:=lh ((b.block _ (lb G.out)).trans G.out);clear H G b;have H:=W;have G:=M;clear W M;have ai:=lh (ae.out.up B2.out HBW.out);have ax:=HP.out W2 ai.out)
  |((with_reducible refine ybn (o:=⟨none,_,_,_,_,_⟩) rfl 9 (.tmp 117) (.tmp 116) rfl (w.heap.size+1) 188 4 (rv 4 0 0 ⟨#[]⟩ m) (.string Z) ybi rfl G.out (rv_lt de) Tryz.sizeStr ybi ?_);intro W5 af O;have HG5:Hid (W5.heap[w.heap.size+1]? =some (.cells (rv 4 0 0 Z m) 188 (0,0))):=af.out;have ag:Hid (W5.heap[w.heap.size]? =some (.cells (rv 0 0 0 ⟨#[]⟩ 0) 188 (0,0))):=(O.out.block _ (lb H.out) om).trans H.out)
  |(with_reducible refine wpList_load_row (o:=⟨some 118,_,_,_,_,_⟩) rfl 188 (.tmp 11) rfl (w.heap.size+1) rfl 188 (rv 4 0 0 Z m) _ _ HG5.out underlying188 rfl (ybp _ _ _ _ _) ?_)
  |((with_reducible refine ybk (o:=⟨none,_,_,_,_,_⟩) rfl 188 (.tmp 8) (.tmp 118) rfl w.heap.size 188 (rv 0 0 0 ⟨#[]⟩ 0) (rv 4 0 0 Z m) rfl rfl ag.out (ybp _ _ _ _ _) rfl (ybX _ _ _ _ _) ?_);intro W7 HG7 HB7))
 refine bodyPost_ret (ybJ rfl _ _ _ _ _ _ _ rfl HG7.out underlying188 rfl (ybp _ _ _ _ _)) rfl ⟨(by first |rfl |(simp;done) |(congr;omega)),((bt HB1.out B2.out).trans (O.out.below (lT HB1.out.size B2.out.size) (fun i hi=>by subst hi;omega))).trans (HB7.out.below (lT (lT HB1.out.size B2.out.size) O.out.size) (fun i hi=>by subst hi;exact Nat.le_refl _))⟩
