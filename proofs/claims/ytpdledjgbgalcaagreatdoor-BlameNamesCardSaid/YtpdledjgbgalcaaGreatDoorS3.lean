import Derived.Test.YtpdledjgbgalcaaGreatDoorPf
namespace Go.Proofs.YtpdledjgbgalcaaGreatDoor
set_option maxRecDepth 100000
set_option maxHeartbeats 16000000
open Go.RowKit Go.Lib Go.Proofs.Tryz
set_option linter.unusedVariables false
set_option linter.unusedSimpArgs false
abbrev cR (r:Rcp):Array Value:=#[.int .i64 r.hd,.int .i64 r.vt,.string r.s,.int .i64 r.ix,.int .i64 r.sz,.int .i64 r.dy,.int .i64 r.sr,.int .i64 r.ct,.int .i64 r.pl,.string r.rt,.slice r.pa.a r.pa.n r.pa.c,.int .i64 r.si,.slice r.pb.a r.pb.n r.pb.c,.slice r.pc.a r.pc.n r.pc.c]
abbrev zR:Array Value:=#[.int .i64 0,.int .i64 0,.string ⟨#[]⟩,.int .i64 0,.int .i64 0,.int .i64 0,.int .i64 0,.int .i64 0,.int .i64 0,.string ⟨#[]⟩,.slice none 0 0,.int .i64 0,.slice none 0 0,.slice none 0 0]
abbrev tR:TypeId:=35
theorem Tryz.sizeRc:(prog.info? 35).map (·.size)=some 14:=by kernel_rfl
theorem yc4 (r:Rcp):(prog.info? 35).map (·.size)=some (cR r).size:=Tryz.sizeRc
theorem zR_size:(prog.info? 35).map (·.size)=some zR.size:=Tryz.sizeRc
theorem cR_one (r:Rcp):(cR r).all (·.oneCell')=true:=by
 rw [Array.all_eq_true'];intro x G;simp only [cR,List.mem_toArray,List.mem_cons,List.not_mem_nil,or_false] at G;rcases G with rfl |rfl |rfl |rfl |rfl |rfl |rfl |rfl |rfl |rfl |rfl |rfl |rfl |rfl<;>rfl
theorem zR_one:zR.all (·.oneCell')=true:=by
 rw [Array.all_eq_true'];intro x G;simp only [zR,List.mem_toArray,List.mem_cons,List.not_mem_nil,or_false] at G;rcases G with rfl |rfl |rfl |rfl |rfl |rfl |rfl |rfl |rfl |rfl |rfl |rfl |rfl |rfl<;>rfl
abbrev zM (bs:List Int) (s:RS):Int × RS:=rN 0 1099511627776 bs s
def rc1 (bs:List Int):Int × RS:=zM bs (0,0)
def rc2 (bs:List Int):Int × RS:=zM bs (rc1 bs).2
def rc3 (bs:List Int):ByteArray × RS:=rS bs (rc2 bs).2
def ri1 (bs:List Int):Int × RS:=zM bs (rc3 bs).2
def ri2 (bs:List Int):Int × RS:=zM bs (ri1 bs).2
def ri3 (bs:List Int):Int × RS:=zM bs (ri2 bs).2
def ri4 (bs:List Int):Int × RS:=zM bs (ri3 bs).2
def ri5 (bs:List Int):Int × RS:=zM bs (ri4 bs).2
def ri6 (bs:List Int):Int × RS:=zM bs (ri5 bs).2
def rc5 (bs:List Int):List ByteArray × RS:=rL bs 8 (ri6 bs).2
def rc7 (bs:List Int):ByteArray × RS:=rS bs (rc5 bs).2
def rc8 (bs:List Int):Int × RS:=zM bs (rc7 bs).2
def rc9 (bs:List Int):List ByteArray × RS:=rL bs 300 (rc8 bs).2
def rcA (bs:List Int):List ByteArray × RS:=rL bs 8 (rc9 bs).2
def rcV (bs:List Int) (pa pb pc:Hd):Rcp:=⟨(rc1 bs).1,(rc2 bs).1,(rc3 bs).1,(ri1 bs).1,(ri2 bs).1,(ri3 bs).1,(ri4 bs).1,(ri5 bs).1,(ri6 bs).1,(rc7 bs).1,pa,(rc8 bs).1,pb,pc⟩
def okR (bs:List Int):Bool:=decide ((rcA bs).2.2=0/\¬(rcA bs).2.1 < bs.length)&&vaB (rcV bs ⟨none,0,0⟩ ⟨none,0,0⟩ ⟨none,0,0⟩) (rc5 bs).1 (rc9 bs).1 (rcA bs).1
theorem Own.slH {α:Type} {f:α->Value} {w:World} {base:Nat} {e:TypeId} {A:Option Addr} {n c:Nat} {xs:List α} (h:Own f e w base (.slice A n c) xs):Sl f w w.heap.size A n xs:=by
 obtain ⟨H,J,G,_,hs,_⟩:=h.shape;injection G with h1 h2 h3;subst h1;exact ⟨h2.symm,hs⟩
def RcO (w:World) (base:Nat) (r:Rcp) (ps qs rs:List ByteArray):Prop:=Own fT 9 w base (.slice r.pa.a r.pa.n r.pa.c) ps/\Own fT 9 w base (.slice r.pb.a r.pb.n r.pb.c) qs/\Own fT 9 w base (.slice r.pc.a r.pc.n r.pc.c) rs
theorem RcO.rcIn {w:World} {base:Nat} {r:Rcp} {ps qs rs:List ByteArray} (h:RcO w base r ps qs rs):RcIn w w.heap.size r ps qs rs:=⟨h.1.slH,h.2.1.slH,h.2.2.slH⟩
theorem RcO.but {w J:World} {base:Nat} {r:Rcp} {ps qs rs:List ByteArray} {p:Nat->Prop} (h:RcO w base r ps qs rs) (H:But p w J) (hp:∀k,base<=k->k < w.heap.size->¬p k):RcO J base r ps qs rs:=
 ⟨h.1.butG H fun k G=>hp k (ol h.1 k G).1 (ol h.1 k G).2,h.2.1.butG H fun k G=>hp k (ol h.2.1 k G).1 (ol h.2.1 k G).2,h.2.2.butG H fun k G=>hp k (ol h.2.2 k G).1 (ol h.2.2 k G).2⟩
theorem RcO.on {w w':World} {base:Nat} {r:Rcp} {ps qs rs:List ByteArray} (h:RcO w base r ps qs rs) (hb:Below w.heap.size w w'):RcO w' base r ps qs rs:=⟨h.1.on hb,h.2.1.on hb,h.2.2.on hb⟩
theorem RcO.low {w:World} {base base':Nat} {r:Rcp} {ps qs rs:List ByteArray} (h:RcO w base r ps qs rs) (G:base'<=base):RcO w base' r ps qs rs:=⟨World.ownsRow.mono h.1 G,World.ownsRow.mono h.2.1 G,World.ownsRow.mono h.2.2 G⟩
def RDPost (bs:List Int) (w:World) (e:Ending) (w':World):Prop:=
 (okR bs=true/\∃pa pb pc,e= .returned (.tuple #[.agg (cR (rcV bs pa pb pc)),.int .i64 0])/\RcO w' w.heap.size (rcV bs pa pb pc) (rc5 bs).1 (rc9 bs).1 (rcA bs).1/\Below w.heap.size w w')
 ∨(okR bs=false/\e= .returned (.tuple #[.agg zR,.int .i64 3])/\Below w.heap.size w w')
theorem ybB {P:Program} {L:Func} {p d:Tmp} {H:TypeId} (h:L.results=#[.cell p H,.tmp d]) (G:Array Value) (w:World) (g:Nat) (t:TypeId) (cs:Array Value) (fr:Nat × Nat) (J:TypeDesc)
 (hp:G.getD p undef= .pointer (some ⟨g,0,none⟩)) (N:w.heap[g]? =some (.cells cs t fr))
 (M:P.underlying H=some J) (hd:(match J with | .struct _ | .array _ _=>true |_=>false)=true) (hi:(P.info? H).map (·.size)=some cs.size):
 (results L G).run P w= .ok (.tuple #[.agg cs,G.getD d undef]) w:=by
 have K:G[p]?.getD undef= .pointer (some ⟨g,0,none⟩):=by simpa using hp
 simp [results,h,K,asAddr,run_loadVar_row w g t H cs fr J N M hd hi]
structure DT (t:TypeId) (V0 V:World) (g:Nat) (A1:Option Addr) (n c1:Nat) (bs:List Int) (s:RS) (b:Nat) (cs:Array Value):Prop where
 rd:RdS g A1 n c1 bs s V
 pc:V.heap[b]? =some (.cells cs t (0,0))
 but:But (fun k=>k=g∨k=b) V0 V
 gb:b≠g
 ab:∀a,A1=some a->a.block≠b
theorem DT.read {t:TypeId} {K V H:World} {g:Nat} {G:Option Addr} {n c1:Nat} {bs:List Int} {s J:RS} {b:Nat} {cs:Array Value} (h:DT t K V g G n c1 bs s b cs) (hr:RdS g G n c1 bs J H) (L:But (fun k=>k=g) V H):DT t K H g G n c1 bs J b cs:=
 ⟨hr,(L.block _ (lb h.pc) h.gb).trans h.pc,h.but.trans L (fun i hi=> .inl (.inl hi)),h.gb,h.ab⟩
theorem DT.set {t:TypeId} {K V H:World} {g:Nat} {J:Option Addr} {n c1:Nat} {bs:List Int} {s:RS} {b:Nat} {cs G:Array Value} (h:DT t K V g J n c1 bs s b cs) (hp:H.heap[b]? =some (.cells G t (0,0))) (L:But (fun k=>k=b) V H):DT t K H g J n c1 bs s b G:=
 ⟨h.rd.but2 L (fun e=>h.gb e.symm) (fun a ha e=>h.ab a ha e),hp,h.but.trans L (fun i hi=> .inl (.inr hi)),h.gb,h.ab⟩
theorem DT.cell {t:TypeId} {H V:World} {g:Nat} {G:Option Addr} {n c1:Nat} {bs:List Int} {s:RS} {b:Nat} {cs:Array Value} (h:DT t H V g G n c1 bs s b cs) (i:Nat) (v:Value):DT t H (V.setCell ⟨b,i,none⟩ v) g G n c1 bs s b (cs.setIfInBounds i v):=
 h.set (heap_setCell_same V b i _ _ v h.pc) (But.setCell (p:=fun k=>k=b) (x:=⟨b,i,none⟩) (But.refl _ _) (.inl rfl) _)
theorem DT.base {t:TypeId} {H V:World} {g:Nat} {G:Option Addr} {n c1:Nat} {bs:List Int} {s:RS} {b:Nat} {cs:Array Value} (h:DT t H V g G n c1 bs s b cs):DT t V V g G n c1 bs s b cs:=⟨h.rd,h.pc,But.refl _ _,h.gb,h.ab⟩
theorem DT.keep {t:TypeId} {J V K:World} {g:Nat} {H:Option Addr} {n c1:Nat} {bs:List Int} {s:RS} {b:Nat} {cs:Array Value} (h:DT t J V g H n c1 bs s b cs) (G:Below V.heap.size V K):DT t J K g H n c1 bs s b cs:=
 ⟨h.rd.on G,(G.block _ (lb h.pc)).trans h.pc,h.but.trans (But.of_below (p:=fun k=>k=g∨k=b) G) (fun i hi=> .inl hi),h.gb,h.ab⟩
theorem Own.lowG {α:Type} {f:α->Value} {w:World} {base base':Nat} {e:TypeId} {v:Value} {xs:List α} (h:Own f e w base v xs) (hb:base'<=base):Own f e w base' v xs:=World.ownsRow.mono h hb
theorem ybs {w:World} {b:Nat} {t:TypeId} {r:Rcp} (h:w.heap[b]? =some (.cells (cR r) t (0,0))):w.cell? ⟨b,0,none⟩=some (.int .i64 r.hd)/\w.cell? ⟨b,1,none⟩=some (.int .i64 r.vt)/\w.cell? ⟨b,2,none⟩=some (.string r.s)/\w.cell? ⟨b,3,none⟩=some (.int .i64 r.ix)/\w.cell? ⟨b,4,none⟩=some (.int .i64 r.sz)/\w.cell? ⟨b,5,none⟩=some (.int .i64 r.dy)/\w.cell? ⟨b,6,none⟩=some (.int .i64 r.sr)/\w.cell? ⟨b,7,none⟩=some (.int .i64 r.ct)/\w.cell? ⟨b,8,none⟩=some (.int .i64 r.pl)/\w.cell? ⟨b,9,none⟩=some (.string r.rt)/\w.cell? ⟨b,10,none⟩=some (.slice r.pa.a r.pa.n r.pa.c)/\w.cell? ⟨b,11,none⟩=some (.int .i64 r.si)/\w.cell? ⟨b,12,none⟩=some (.slice r.pb.a r.pb.n r.pb.c)/\w.cell? ⟨b,13,none⟩=some (.slice r.pc.a r.pc.n r.pc.c):=by
 refine ⟨?_,?_,?_,?_,?_,?_,?_,?_,?_,?_,?_,?_,?_,?_⟩<;>(rw [cell_of_row w b _ _ _ _ h];rfl)
def stp (k:Nat) (a0 a1 a2 a3 a4 a5 a6:Prop):Prop:=match k with |0=>a0 |1=>a1 |2=>a2 |3=>a3 |4=>a4 |5=>a5 |_=>a6
theorem rdec_any (A:Option Addr) (n c B:Nat) (bs:List Int) (w:World) (hx:Sl fB w B A n bs) (hB:B<=w.heap.size) (hn:n<=1000000) (N:∀b∈bs,0<=b/\b < 256):
 Calls prog 174 #[.slice A n c] w (RDPost bs w):=by
 have hl:bs.length=n:=hx.1;have bk:(0,(0:Int)).1<=n:=Nat.zero_le _;have aj:(rc1 bs).2.1<=n:=rN_le hl bk;have aq:(rc2 bs).2.1<=n:=rN_le hl aj;have ah:(rc3 bs).2.1<=n:=rS_le hl aq;have aa:(ri1 bs).2.1<=n:=rN_le hl ah;have am:(ri2 bs).2.1<=n:=rN_le hl aa;have ac:(ri3 bs).2.1<=n:=rN_le hl am;have af:(ri4 bs).2.1<=n:=rN_le hl ac;have ao:(ri5 bs).2.1<=n:=rN_le hl af;have ap:(ri6 bs).2.1<=n:=rN_le hl ao;have ai:(rc5 bs).2.1<=n:=rL_le hl ap;have ae:(rc7 bs).2.1<=n:=rS_le hl ai;have al:(rc8 bs).2.1<=n:=rN_le hl ae;have ag:(rc9 bs).2.1<=n:=rL_le hl al;have a4:(rcA bs).2.1<=n:=rL_le hl ag;obtain ⟨W1,ak⟩:∃W1:World,W1=(w.alloc (.cells zR tR)).alloc (.cells zR tR):=⟨_,rfl⟩
 have aN:Below w.heap.size w W1:=by rw [ak];exact bl.alloc sI _
 have bw:W1.heap.size=w.heap.size+1+1:=by rw [ak];simp
 have bA:W1.heap[w.heap.size]? =some (.cells zR tR (0,0)):=by rw [ak,Below.heap_alloc _ _ _ sI];exact zy w _
 have br:W1.heap[w.heap.size+1]? =some (.cells zR tR (0,0)):=by
  rw [ak];have:=zy (w.alloc (.cells zR tR)) (.cells zR tR);simpa using this
 have bb:=lh (yci A n c bs W1 ((hx.up aN hB).more' (lT hB aN.size)) hn);have HB1:=lh aN;have HS1:=lh bw;have a8:=lh bA;have HG3:=lh br;have HWE:=lh ak;rw [ak] at bb;have a0:Hid (∀g G c1 V,n<=c1->RdS g G n c1 bs (0,0) V->Calls prog 218 #[.pointer (some ⟨g,0,none⟩)] V (RPost g G n c1 bs (.int .i64 (rc1 bs).1) (rc1 bs).2 V)):=fun g G c1 V M h=>ydK g G n c1 bs (0,0) V h ⟨N,hn,M⟩ bk;have aV:Hid (∀g G c1 V,n<=c1->RdS g G n c1 bs (rc1 bs).2 V->Calls prog 218 #[.pointer (some ⟨g,0,none⟩)] V (RPost g G n c1 bs (.int .i64 (rc2 bs).1) (rc2 bs).2 V)):=fun g G c1 V M h=>ydK g G n c1 bs (rc1 bs).2 V h ⟨N,hn,M⟩ aj;have a7:Hid (∀g G c1 V,n<=c1->RdS g G n c1 bs (rc2 bs).2 V->Calls prog 172 #[.pointer (some ⟨g,0,none⟩)] V (RPost g G n c1 bs (.string (rc3 bs).1) (rc3 bs).2 V)):=fun g G c1 V M h=>rs_any g G n c1 bs (rc2 bs).2 V h ⟨N,hn,M⟩ aq;have bj:Hid (∀g G c1 V,n<=c1->RdS g G n c1 bs (rc3 bs).2 V->Calls prog 218 #[.pointer (some ⟨g,0,none⟩)] V (RPost g G n c1 bs (.int .i64 (ri1 bs).1) (ri1 bs).2 V)):=fun g G c1 V M h=>ydK g G n c1 bs (rc3 bs).2 V h ⟨N,hn,M⟩ ah;have aQ:Hid (∀g G c1 V,n<=c1->RdS g G n c1 bs (ri1 bs).2 V->Calls prog 218 #[.pointer (some ⟨g,0,none⟩)] V (RPost g G n c1 bs (.int .i64 (ri2 bs).1) (ri2 bs).2 V)):=fun g G c1 V M h=>ydK g G n c1 bs (ri1 bs).2 V h ⟨N,hn,M⟩ aa;have aT:Hid (∀g G c1 V,n<=c1->RdS g G n c1 bs (ri2 bs).2 V->Calls prog 218 #[.pointer (some ⟨g,0,none⟩)] V (RPost g G n c1 bs (.int .i64 (ri3 bs).1) (ri3 bs).2 V)):=fun g G c1 V M h=>ydK g G n c1 bs (ri2 bs).2 V h ⟨N,hn,M⟩ am;have aW:Hid (∀g G c1 V,n<=c1->RdS g G n c1 bs (ri3 bs).2 V->Calls prog 218 #[.pointer (some ⟨g,0,none⟩)] V (RPost g G n c1 bs (.int .i64 (ri4 bs).1) (ri4 bs).2 V)):=fun g G c1 V M h=>ydK g G n c1 bs (ri3 bs).2 V h ⟨N,hn,M⟩ ac;have bf:Hid (∀g G c1 V,n<=c1->RdS g G n c1 bs (ri4 bs).2 V->Calls prog 218 #[.pointer (some ⟨g,0,none⟩)] V (RPost g G n c1 bs (.int .i64 (ri5 bs).1) (ri5 bs).2 V)):=fun g G c1 V M h=>ydK g G n c1 bs (ri4 bs).2 V h ⟨N,hn,M⟩ af;have aY:Hid (∀g G c1 V,n<=c1->RdS g G n c1 bs (ri5 bs).2 V->Calls prog 218 #[.pointer (some ⟨g,0,none⟩)] V (RPost g G n c1 bs (.int .i64 (ri6 bs).1) (ri6 bs).2 V)):=fun g G c1 V M h=>ydK g G n c1 bs (ri5 bs).2 V h ⟨N,hn,M⟩ ao;have bg:Hid (∀g G c1 V,n<=c1->RdS g G n c1 bs (ri6 bs).2 V->Calls prog 219 #[.pointer (some ⟨g,0,none⟩),.int .i64 8] V (RLPost g G n c1 bs (rc5 bs).1 (rc5 bs).2 V)):=fun g G c1 V M h=>rl_any g G n c1 bs (ri6 bs).2 8 de V h ⟨N,hn,M⟩ ap;have aX:Hid (∀g G c1 V,n<=c1->RdS g G n c1 bs (rc5 bs).2 V->Calls prog 172 #[.pointer (some ⟨g,0,none⟩)] V (RPost g G n c1 bs (.string (rc7 bs).1) (rc7 bs).2 V)):=fun g G c1 V M h=>rs_any g G n c1 bs (rc5 bs).2 V h ⟨N,hn,M⟩ ai;have bp:Hid (∀g G c1 V,n<=c1->RdS g G n c1 bs (rc7 bs).2 V->Calls prog 218 #[.pointer (some ⟨g,0,none⟩)] V (RPost g G n c1 bs (.int .i64 (rc8 bs).1) (rc8 bs).2 V)):=fun g G c1 V M h=>ydK g G n c1 bs (rc7 bs).2 V h ⟨N,hn,M⟩ ae;have aS:Hid (∀g G c1 V,n<=c1->RdS g G n c1 bs (rc8 bs).2 V->Calls prog 219 #[.pointer (some ⟨g,0,none⟩),.int .i64 300] V (RLPost g G n c1 bs (rc9 bs).1 (rc9 bs).2 V)):=fun g G c1 V M h=>rl_any g G n c1 bs (rc8 bs).2 300 de V h ⟨N,hn,M⟩ al;have bo:Hid (∀g G c1 V,n<=c1->RdS g G n c1 bs (rc9 bs).2 V->Calls prog 219 #[.pointer (some ⟨g,0,none⟩),.int .i64 8] V (RLPost g G n c1 bs (rcA bs).1 (rcA bs).2 V)):=fun g G c1 V M h=>rl_any g G n c1 bs (rc9 bs).2 8 de V h ⟨N,hn,M⟩ ag;have Y:Hid (okR bs=(decide ((rcA bs).2.2=0/\¬(rcA bs).2.1 < n)&&vaB (rcV bs ⟨none,0,0⟩ ⟨none,0,0⟩ ⟨none,0,0⟩) (rc5 bs).1 (rc9 bs).1 (rcA bs).1)):=by show okR bs=_;unfold okR;rw [hl]
 unfold RDPost;unfold rcV at Y ⊢;generalize rc1 bs=R1 at*;generalize rc2 bs=R2 at*;generalize rc3 bs=R3 at*;generalize ri1 bs=P1 at*;generalize ri2 bs=P2 at*;generalize ri3 bs=P3 at*;generalize ri4 bs=P4 at*;generalize ri5 bs=P5 at*;generalize ri6 bs=P6 at*;generalize rc5 bs=R5 at*;generalize rc7 bs=R7 at*;generalize rc8 bs=R8 at*;generalize rc9 bs=R9 at*;generalize rcA bs=RA at*;obtain ⟨L,s1⟩:=R1;obtain ⟨K,s2⟩:=R2;obtain ⟨st,s3⟩:=R3;obtain ⟨ix,q1⟩:=P1;obtain ⟨sz,q2⟩:=P2;obtain ⟨dy,q3⟩:=P3;obtain ⟨sr,q4⟩:=P4;obtain ⟨ct,q5⟩:=P5;obtain ⟨pl,q6⟩:=P6;obtain ⟨ps,s5⟩:=R5;obtain ⟨rt,s7⟩:=R7;obtain ⟨si,s8⟩:=R8;obtain ⟨qs,s9⟩:=R9;obtain ⟨rs,sA⟩:=RA;dsimp only at a0 aV a7 bj aQ aT aW bf aY bg aX bp aS bo Y ⊢;clear hx hB N hl bk aN bw bA br ak aj aq ah aa am ac af ao ap ai ae al ag a4;go_enter func174,ntmps174
 go_wp2_with (first
  |(go_at_call 81;(with_reducible refine bb.out.mono ?_);rintro e V0 ⟨g,G,c1,rfl,r0,x0,aP,az,bu,aU⟩
    rw [<-HWE.out] at aP az aU;have D0:Hid (DT tR V0 V0 g G n c1 bs (0,0) (w.heap.size+1) zR):=⟨⟨⟨_,r0⟩,x0⟩,(az.block _ (lb HG3.out)).trans HG3.out,But.refl _ _,by have:=HS1.out;omega,fun a ha=>by have:=(aU a ha).1;have:=HS1.out;omega⟩;have O:=lh bu;have be:=lh aP;have a6:Hid (Below w.heap.size w V0):=bt HB1.out az;have bm:Hid (V0.heap[w.heap.size]? =some (.cells zR tR (0,0))):=(az.block _ (lb a8.out)).trans a8.out
    clear r0 x0 aP az bu aU)
  |(go_at_call 218;(with_reducible refine (a0.out g G c1 _ O.out D0.out.rd).mono ?_);rintro e V1 ⟨rfl,r,b⟩
    have D1:=lh (D0.out.read r b)
    clear r b)
  |(go_at_call 218;(with_reducible refine (aV.out g G c1 _ O.out D1.out.rd).mono ?_);rintro e V2 ⟨rfl,r,b⟩
    have aw:=D1.out.read r b;have y0:=zz V2 (w.heap.size+1) 0 _ _ _ aw.pc;have y1:=zz V2 (w.heap.size+1) 1 _ _ _ aw.pc;have z0:=frozen_of_row V2 (w.heap.size+1) 0 _ _ aw.pc;have z1:=frozen_of_row V2 (w.heap.size+1) 1 _ _ aw.pc;simp at y0 y1;have D2:=lh ((aw.cell 0 (.int .i64 L)).cell 1 (.int .i64 K))
    clear r b aw)
  |(go_at_call 172;(with_reducible refine (a7.out g G c1 _ O.out D2.out.rd).mono ?_);rintro e V3 ⟨rfl,r,b⟩
    clear y0 y1 z0 z1;have aH:=D2.out.read r b;have y2:=zz V3 (w.heap.size+1) 2 _ _ _ aH.pc;have z2:=frozen_of_row V3 (w.heap.size+1) 2 _ _ aH.pc;simp at y2;have D3:Hid (DT tR V0 (V3.setCell ⟨w.heap.size+1,2,none⟩ (.string st)) g G n c1 bs s3 (w.heap.size+1) #[.int .i64 L,.int .i64 K,.string st,.int .i64 0,.int .i64 0,.int .i64 0,.int .i64 0,.int .i64 0,.int .i64 0,.string ⟨#[]⟩,.slice none 0 0,.int .i64 0,.slice none 0 0,.slice none 0 0]):=aH.cell 2 (.string st)
    clear r b aH))
 clear y2 z2 D1 D2 bb a0 aV a7;obtain ⟨V4,a9⟩:∃V:World,V=V3.setCell ⟨w.heap.size+1,2,none⟩ (.string st):=⟨_,rfl⟩
 have aR:V4.heap.size=V3.heap.size:=by rw [a9];simp
 rw [<-a9] at D3 ⊢;clear a9;obtain ⟨J,aF⟩:∃V:World,V=V4.alloc (.cells #[.pointer (some ⟨w.heap.size+1,3,none⟩),.pointer (some ⟨w.heap.size+1,4,none⟩),.pointer (some ⟨w.heap.size+1,5,none⟩),.pointer (some ⟨w.heap.size+1,6,none⟩),.pointer (some ⟨w.heap.size+1,7,none⟩),.pointer (some ⟨w.heap.size+1,8,none⟩)] 279):=⟨_,rfl⟩
 obtain ⟨pb,aB⟩:∃pb,pb=V3.heap.size:=⟨_,rfl⟩
 have bq:pb=V4.heap.size:=aB.trans aR.symm;have aK:Below V4.heap.size V4 J:=by rw [aF];exact bl
 have U:Hid (J.heap[pb]? =some (.cells #[.pointer (some ⟨w.heap.size+1,3,none⟩),.pointer (some ⟨w.heap.size+1,4,none⟩),.pointer (some ⟨w.heap.size+1,5,none⟩),.pointer (some ⟨w.heap.size+1,6,none⟩),.pointer (some ⟨w.heap.size+1,7,none⟩),.pointer (some ⟨w.heap.size+1,8,none⟩)] 279 (0,0))):=by show _=_;rw [aF,bq];exact zy V4 _
 have D5:Hid (DT tR J J g G n c1 bs s3 (w.heap.size+1) #[.int .i64 L,.int .i64 K,.string st,.int .i64 0,.int .i64 0,.int .i64 0,.int .i64 0,.int .i64 0,.int .i64 0,.string ⟨#[]⟩,.slice none 0 0,.int .i64 0,.slice none 0 0,.slice none 0 0]):=(D3.out.keep aK).base
 have HBd:Hid (Below w.heap.size w J):=by
  have h1:Below w.heap.size w V4:=a6.out.trans (D3.out.but.below a6.out.size (fun i hi=>by have h2:=be.out;have h3:=HS1.out;rcases hi with rfl |rfl<;>omega));exact bt h1 aK
 have bh:Hid (J.heap[w.heap.size]? =some (.cells zR tR (0,0))):=(aK.block _ (by have h1:=lb D3.out.pc;omega)).trans ((D3.out.but.block _ (lb bm.out) (by have h2:=be.out;have h3:=HS1.out;omega)).trans bm.out)
 have HPG:Hid (g < pb/\w.heap.size+1 < pb):=by
  have h1:=D3.out.rd.lt;have h2:=lb D3.out.pc;show _/\_;omega
 have aZ:Hid (w.heap.size+1+1<=g):=by show _<=_;have h2:=be.out;have h3:=HS1.out;omega
 have aD:Hid (w.heap.size < J.heap.size):=by show _ < _;have h1:=D5.out.rd.lt;have h2:=aZ.out;omega
 rw [<-aB];rw [<-aF];clear aF bq aB aR aK D3 a6 bm D0 a8 HG3
 go_loopw [31] (fun i wr=>∃k:Nat,k<=6/\i= .int .i64 k/\Hid (stp k (DT tR J wr g G n c1 bs s3 (w.heap.size+1) #[.int .i64 L,.int .i64 K,.string st,.int .i64 0,.int .i64 0,.int .i64 0,.int .i64 0,.int .i64 0,.int .i64 0,.string ⟨#[]⟩,.slice none 0 0,.int .i64 0,.slice none 0 0,.slice none 0 0]) (DT tR J wr g G n c1 bs q1 (w.heap.size+1) #[.int .i64 L,.int .i64 K,.string st,.int .i64 ix,.int .i64 0,.int .i64 0,.int .i64 0,.int .i64 0,.int .i64 0,.string ⟨#[]⟩,.slice none 0 0,.int .i64 0,.slice none 0 0,.slice none 0 0]) (DT tR J wr g G n c1 bs q2 (w.heap.size+1) #[.int .i64 L,.int .i64 K,.string st,.int .i64 ix,.int .i64 sz,.int .i64 0,.int .i64 0,.int .i64 0,.int .i64 0,.string ⟨#[]⟩,.slice none 0 0,.int .i64 0,.slice none 0 0,.slice none 0 0]) (DT tR J wr g G n c1 bs q3 (w.heap.size+1) #[.int .i64 L,.int .i64 K,.string st,.int .i64 ix,.int .i64 sz,.int .i64 dy,.int .i64 0,.int .i64 0,.int .i64 0,.string ⟨#[]⟩,.slice none 0 0,.int .i64 0,.slice none 0 0,.slice none 0 0]) (DT tR J wr g G n c1 bs q4 (w.heap.size+1) #[.int .i64 L,.int .i64 K,.string st,.int .i64 ix,.int .i64 sz,.int .i64 dy,.int .i64 sr,.int .i64 0,.int .i64 0,.string ⟨#[]⟩,.slice none 0 0,.int .i64 0,.slice none 0 0,.slice none 0 0]) (DT tR J wr g G n c1 bs q5 (w.heap.size+1) #[.int .i64 L,.int .i64 K,.string st,.int .i64 ix,.int .i64 sz,.int .i64 dy,.int .i64 sr,.int .i64 ct,.int .i64 0,.string ⟨#[]⟩,.slice none 0 0,.int .i64 0,.slice none 0 0,.slice none 0 0]) (DT tR J wr g G n c1 bs q6 (w.heap.size+1) #[.int .i64 L,.int .i64 K,.string st,.int .i64 ix,.int .i64 sz,.int .i64 dy,.int .i64 sr,.int .i64 ct,.int .i64 pl,.string ⟨#[]⟩,.slice none 0 0,.int .i64 0,.slice none 0 0,.slice none 0 0]))) (fun i _=>6 - (intOf i).toNat)
 case atStart=>exact ⟨0,by omega,rfl,D5⟩
 case round=>
  obtain ⟨k,hk,rfl,HD⟩:=hrel;rcases (show k=0∨k=1∨k=2∨k=3∨k=4∨k=5∨k=6 by omega) with rfl |rfl |rfl |rfl |rfl |rfl |rfl
  ·
   have D:Hid (DT tR J wr g G n c1 bs s3 (w.heap.size+1) #[.int .i64 L,.int .i64 K,.string st,.int .i64 0,.int .i64 0,.int .i64 0,.int .i64 0,.int .i64 0,.int .i64 0,.string ⟨#[]⟩,.slice none 0 0,.int .i64 0,.slice none 0 0,.slice none 0 0]):=HD
   have yp:wr.cell? ⟨pb,0,none⟩=some (.pointer (some ⟨w.heap.size+1,3,none⟩)):=by
    have hq:=(D.out.but.block pb (lb U.out) ybf).trans U.out;rw [cell_of_row wr pb 0 _ _ _ hq];rfl
   clear HD
   go_wp2_with (first
    |(go_at_call 218;(with_reducible refine (bj.out g G c1 _ O.out D.out.rd).mono ?_);rintro e W ⟨rfl,r,b⟩
      have H:=D.out.read r b;have y:=zz W (w.heap.size+1) 3 _ _ _ H.pc;have z:=frozen_of_row W (w.heap.size+1) 3 _ _ H.pc;simp at y;have D6:=lh (H.cell 3 (.int .i64 ix))
      clear r b H))
   refine ⟨?rel,?measure⟩;case rel=>exact ⟨1,by omega,rfl,(show DT tR J _ g G n c1 bs q1 (w.heap.size+1) #[.int .i64 L,.int .i64 K,.string st,.int .i64 ix,.int .i64 0,.int .i64 0,.int .i64 0,.int .i64 0,.int .i64 0,.string ⟨#[]⟩,.slice none 0 0,.int .i64 0,.slice none 0 0,.slice none 0 0] from D6.out)⟩
   case measure=>simp [intOf]
  ·
   have D:Hid (DT tR J wr g G n c1 bs q1 (w.heap.size+1) #[.int .i64 L,.int .i64 K,.string st,.int .i64 ix,.int .i64 0,.int .i64 0,.int .i64 0,.int .i64 0,.int .i64 0,.string ⟨#[]⟩,.slice none 0 0,.int .i64 0,.slice none 0 0,.slice none 0 0]):=HD
   have yp:wr.cell? ⟨pb,1,none⟩=some (.pointer (some ⟨w.heap.size+1,4,none⟩)):=by
    have hq:=(D.out.but.block pb (lb U.out) ybf).trans U.out;rw [cell_of_row wr pb 1 _ _ _ hq];rfl
   clear HD
   go_wp2_with (first
    |(go_at_call 218;(with_reducible refine (aQ.out g G c1 _ O.out D.out.rd).mono ?_);rintro e W ⟨rfl,r,b⟩
      have H:=D.out.read r b;have y:=zz W (w.heap.size+1) 4 _ _ _ H.pc;have z:=frozen_of_row W (w.heap.size+1) 4 _ _ H.pc;simp at y;have D6:=lh (H.cell 4 (.int .i64 sz))
      clear r b H))
   refine ⟨?rel,?measure⟩;case rel=>exact ⟨2,by omega,rfl,(show DT tR J _ g G n c1 bs q2 (w.heap.size+1) #[.int .i64 L,.int .i64 K,.string st,.int .i64 ix,.int .i64 sz,.int .i64 0,.int .i64 0,.int .i64 0,.int .i64 0,.string ⟨#[]⟩,.slice none 0 0,.int .i64 0,.slice none 0 0,.slice none 0 0] from D6.out)⟩
   case measure=>simp [intOf]
  ·
   have D:Hid (DT tR J wr g G n c1 bs q2 (w.heap.size+1) #[.int .i64 L,.int .i64 K,.string st,.int .i64 ix,.int .i64 sz,.int .i64 0,.int .i64 0,.int .i64 0,.int .i64 0,.string ⟨#[]⟩,.slice none 0 0,.int .i64 0,.slice none 0 0,.slice none 0 0]):=HD
   have yp:wr.cell? ⟨pb,2,none⟩=some (.pointer (some ⟨w.heap.size+1,5,none⟩)):=by
    have hq:=(D.out.but.block pb (lb U.out) ybf).trans U.out;rw [cell_of_row wr pb 2 _ _ _ hq];rfl
   clear HD
   go_wp2_with (first
    |(go_at_call 218;(with_reducible refine (aT.out g G c1 _ O.out D.out.rd).mono ?_);rintro e W ⟨rfl,r,b⟩
      have H:=D.out.read r b;have y:=zz W (w.heap.size+1) 5 _ _ _ H.pc;have z:=frozen_of_row W (w.heap.size+1) 5 _ _ H.pc;simp at y;have D6:=lh (H.cell 5 (.int .i64 dy))
      clear r b H))
   refine ⟨?rel,?measure⟩;case rel=>exact ⟨3,by omega,rfl,(show DT tR J _ g G n c1 bs q3 (w.heap.size+1) #[.int .i64 L,.int .i64 K,.string st,.int .i64 ix,.int .i64 sz,.int .i64 dy,.int .i64 0,.int .i64 0,.int .i64 0,.string ⟨#[]⟩,.slice none 0 0,.int .i64 0,.slice none 0 0,.slice none 0 0] from D6.out)⟩
   case measure=>simp [intOf]
  ·
   have D:Hid (DT tR J wr g G n c1 bs q3 (w.heap.size+1) #[.int .i64 L,.int .i64 K,.string st,.int .i64 ix,.int .i64 sz,.int .i64 dy,.int .i64 0,.int .i64 0,.int .i64 0,.string ⟨#[]⟩,.slice none 0 0,.int .i64 0,.slice none 0 0,.slice none 0 0]):=HD
   have yp:wr.cell? ⟨pb,3,none⟩=some (.pointer (some ⟨w.heap.size+1,6,none⟩)):=by
    have hq:=(D.out.but.block pb (lb U.out) ybf).trans U.out;rw [cell_of_row wr pb 3 _ _ _ hq];rfl
   clear HD
   go_wp2_with (first
    |(go_at_call 218;(with_reducible refine (aW.out g G c1 _ O.out D.out.rd).mono ?_);rintro e W ⟨rfl,r,b⟩
      have H:=D.out.read r b;have y:=zz W (w.heap.size+1) 6 _ _ _ H.pc;have z:=frozen_of_row W (w.heap.size+1) 6 _ _ H.pc;simp at y;have D6:=lh (H.cell 6 (.int .i64 sr))
      clear r b H))
   refine ⟨?rel,?measure⟩;case rel=>exact ⟨4,by omega,rfl,(show DT tR J _ g G n c1 bs q4 (w.heap.size+1) #[.int .i64 L,.int .i64 K,.string st,.int .i64 ix,.int .i64 sz,.int .i64 dy,.int .i64 sr,.int .i64 0,.int .i64 0,.string ⟨#[]⟩,.slice none 0 0,.int .i64 0,.slice none 0 0,.slice none 0 0] from D6.out)⟩
   case measure=>simp [intOf]
  ·
   have D:Hid (DT tR J wr g G n c1 bs q4 (w.heap.size+1) #[.int .i64 L,.int .i64 K,.string st,.int .i64 ix,.int .i64 sz,.int .i64 dy,.int .i64 sr,.int .i64 0,.int .i64 0,.string ⟨#[]⟩,.slice none 0 0,.int .i64 0,.slice none 0 0,.slice none 0 0]):=HD
   have yp:wr.cell? ⟨pb,4,none⟩=some (.pointer (some ⟨w.heap.size+1,7,none⟩)):=by
    have hq:=(D.out.but.block pb (lb U.out) ybf).trans U.out;rw [cell_of_row wr pb 4 _ _ _ hq];rfl
   clear HD
   go_wp2_with (first
    |(go_at_call 218;(with_reducible refine (bf.out g G c1 _ O.out D.out.rd).mono ?_);rintro e W ⟨rfl,r,b⟩
      have H:=D.out.read r b;have y:=zz W (w.heap.size+1) 7 _ _ _ H.pc;have z:=frozen_of_row W (w.heap.size+1) 7 _ _ H.pc;simp at y;have D6:=lh (H.cell 7 (.int .i64 ct))
      clear r b H))
   refine ⟨?rel,?measure⟩;case rel=>exact ⟨5,by omega,rfl,(show DT tR J _ g G n c1 bs q5 (w.heap.size+1) #[.int .i64 L,.int .i64 K,.string st,.int .i64 ix,.int .i64 sz,.int .i64 dy,.int .i64 sr,.int .i64 ct,.int .i64 0,.string ⟨#[]⟩,.slice none 0 0,.int .i64 0,.slice none 0 0,.slice none 0 0] from D6.out)⟩
   case measure=>simp [intOf]
  ·
   have D:Hid (DT tR J wr g G n c1 bs q5 (w.heap.size+1) #[.int .i64 L,.int .i64 K,.string st,.int .i64 ix,.int .i64 sz,.int .i64 dy,.int .i64 sr,.int .i64 ct,.int .i64 0,.string ⟨#[]⟩,.slice none 0 0,.int .i64 0,.slice none 0 0,.slice none 0 0]):=HD
   have yp:wr.cell? ⟨pb,5,none⟩=some (.pointer (some ⟨w.heap.size+1,8,none⟩)):=by
    have hq:=(D.out.but.block pb (lb U.out) ybf).trans U.out;rw [cell_of_row wr pb 5 _ _ _ hq];rfl
   clear HD
   go_wp2_with (first
    |(go_at_call 218;(with_reducible refine (aY.out g G c1 _ O.out D.out.rd).mono ?_);rintro e W ⟨rfl,r,b⟩
      have H:=D.out.read r b;have y:=zz W (w.heap.size+1) 8 _ _ _ H.pc;have z:=frozen_of_row W (w.heap.size+1) 8 _ _ H.pc;simp at y;have D6:=lh (H.cell 8 (.int .i64 pl))
      clear r b H))
   refine ⟨?rel,?measure⟩;case rel=>exact ⟨6,by omega,rfl,(show DT tR J _ g G n c1 bs q6 (w.heap.size+1) #[.int .i64 L,.int .i64 K,.string st,.int .i64 ix,.int .i64 sz,.int .i64 dy,.int .i64 sr,.int .i64 ct,.int .i64 pl,.string ⟨#[]⟩,.slice none 0 0,.int .i64 0,.slice none 0 0,.slice none 0 0] from D6.out)⟩
   case measure=>simp [intOf]
  ·have D:Hid (DT tR J wr g G n c1 bs q6 (w.heap.size+1) #[.int .i64 L,.int .i64 K,.string st,.int .i64 ix,.int .i64 sz,.int .i64 dy,.int .i64 sr,.int .i64 ct,.int .i64 pl,.string ⟨#[]⟩,.slice none 0 0,.int .i64 0,.slice none 0 0,.slice none 0 0]):=HD;clear HD bj aQ aT aW bf aY D5
   have T:Hid (∀(V V':World) (v:Value) (xs:List ByteArray),J.heap.size<=V.heap.size->Own fT 9 V J.heap.size v xs->But (fun k=>k=g∨k=w.heap.size+1) V V'->Own fT 9 V' J.heap.size v xs):=fun V V' v xs hs ho hb=>ho.butG hb (fun k hk e=>by
    have h1:=(ol ho k hk).1;have h2:=HPG.out;have h3:=lb U.out
    rcases e with rfl |rfl<;>omega)
   have ar:Hid (∀V V':World,But (fun k=>k=g) V V'->But (fun k=>k=g∨k=w.heap.size+1) V V'):=fun V V' h=>h.mono (fun i hi=> .inl (.inl hi));have Z:Hid (∀(V:World) (i:Nat) (v:Value),But (fun k=>k=g∨k=w.heap.size+1) V (V.setCell ⟨w.heap.size+1,i,none⟩ v)):=fun V i v=>But.setCell (p:=fun k=>k=g∨k=w.heap.size+1) (x:=⟨w.heap.size+1,i,none⟩) (But.refl _ _) (.inl (.inr rfl)) v;have a5:Hid (J.heap.size<=wr.heap.size):=D.out.but.size
   go_upto_region 15 with (first
    |(go_at_call 219;(with_reducible refine (bg.out g G c1 _ O.out D.out.rd).mono ?_);rintro e Va ⟨a1,n1,m1,rfl,ho,r,b⟩
      have H:=D.out.read r b;have y:=zz Va (w.heap.size+1) 10 _ _ _ H.pc;have z:=frozen_of_row Va (w.heap.size+1) 10 _ _ H.pc;simp at y;have Da:Hid (DT tR J (Va.setCell ⟨w.heap.size+1,10,none⟩ (.slice a1 n1 m1)) g G n c1 bs s5 (w.heap.size+1) #[.int .i64 L,.int .i64 K,.string st,.int .i64 ix,.int .i64 sz,.int .i64 dy,.int .i64 sr,.int .i64 ct,.int .i64 pl,.string ⟨#[]⟩,.slice a1 n1 m1,.int .i64 0,.slice none 0 0,.slice none 0 0]):=H.cell 10 (.slice a1 n1 m1);have Oa:=lh (T.out _ _ _ _ (lT a5.out b.size) (ho.lowG a5.out) (Z.out Va 10 (.slice a1 n1 m1)))
      clear r b H ho)
    |(go_at_call 172;(with_reducible refine (aX.out g G c1 _ O.out Da.out.rd).mono ?_);rintro e Vb ⟨rfl,r,b⟩
      clear y z;have H:=Da.out.read r b;have y:=zz Vb (w.heap.size+1) 9 _ _ _ H.pc;have z:=frozen_of_row Vb (w.heap.size+1) 9 _ _ H.pc;simp at y;have Db:Hid (DT tR J (Vb.setCell ⟨w.heap.size+1,9,none⟩ (.string rt)) g G n c1 bs s7 (w.heap.size+1) #[.int .i64 L,.int .i64 K,.string st,.int .i64 ix,.int .i64 sz,.int .i64 dy,.int .i64 sr,.int .i64 ct,.int .i64 pl,.string rt,.slice a1 n1 m1,.int .i64 0,.slice none 0 0,.slice none 0 0]):=H.cell 9 (.string rt);have Ob:=lh (T.out _ _ _ _ H.but.size (T.out _ _ _ _ Da.out.but.size Oa.out (ar.out _ _ b)) (Z.out Vb 9 (.string rt)))
      clear r b H)
    |(go_at_call 218;(with_reducible refine (bp.out g G c1 _ O.out Db.out.rd).mono ?_);rintro e Vc ⟨rfl,r,b⟩
      clear y z;have H:=Db.out.read r b;have y:=zz Vc (w.heap.size+1) 11 _ _ _ H.pc;have z:=frozen_of_row Vc (w.heap.size+1) 11 _ _ H.pc;simp at y;have Dc:Hid (DT tR J (Vc.setCell ⟨w.heap.size+1,11,none⟩ (.int .i64 si)) g G n c1 bs s8 (w.heap.size+1) #[.int .i64 L,.int .i64 K,.string st,.int .i64 ix,.int .i64 sz,.int .i64 dy,.int .i64 sr,.int .i64 ct,.int .i64 pl,.string rt,.slice a1 n1 m1,.int .i64 si,.slice none 0 0,.slice none 0 0]):=H.cell 11 (.int .i64 si);have Oc:=lh (T.out _ _ _ _ H.but.size (T.out _ _ _ _ Db.out.but.size Ob.out (ar.out _ _ b)) (Z.out Vc 11 (.int .i64 si)))
      clear r b H)
    |(go_at_call 219;(with_reducible refine (aS.out g G c1 _ O.out Dc.out.rd).mono ?_);rintro e Vd ⟨a2,n2,m2,rfl,ho,r,b⟩
      clear y z;have H:=Dc.out.read r b;have y:=zz Vd (w.heap.size+1) 12 _ _ _ H.pc;have z:=frozen_of_row Vd (w.heap.size+1) 12 _ _ H.pc;simp at y;have Dd:Hid (DT tR J (Vd.setCell ⟨w.heap.size+1,12,none⟩ (.slice a2 n2 m2)) g G n c1 bs s9 (w.heap.size+1) #[.int .i64 L,.int .i64 K,.string st,.int .i64 ix,.int .i64 sz,.int .i64 dy,.int .i64 sr,.int .i64 ct,.int .i64 pl,.string rt,.slice a1 n1 m1,.int .i64 si,.slice a2 n2 m2,.slice none 0 0]):=H.cell 12 (.slice a2 n2 m2);have Od:=lh (T.out _ _ _ _ H.but.size (T.out _ _ _ _ Dc.out.but.size Oc.out (ar.out _ _ b)) (Z.out Vd 12 (.slice a2 n2 m2)));have Qd:=lh (T.out _ _ _ _ H.but.size (ho.lowG Dc.out.but.size) (Z.out Vd 12 (.slice a2 n2 m2)))
      clear r b H ho)
    |(go_at_call 219;(with_reducible refine (bo.out g G c1 _ O.out Dd.out.rd).mono ?_);rintro e Ve ⟨a3,n3,m3,rfl,ho,r,b⟩
      clear y z;have H:=Dd.out.read r b;have y:=zz Ve (w.heap.size+1) 13 _ _ _ H.pc;have z:=frozen_of_row Ve (w.heap.size+1) 13 _ _ H.pc;simp at y;have De:Hid (DT tR J (Ve.setCell ⟨w.heap.size+1,13,none⟩ (.slice a3 n3 m3)) g G n c1 bs sA (w.heap.size+1) (cR ⟨L,K,st,ix,sz,dy,sr,ct,pl,rt,⟨a1,n1,m1⟩,si,⟨a2,n2,m2⟩,⟨a3,n3,m3⟩⟩)):=H.cell 13 (.slice a3 n3 m3);have Oe:=lh (T.out _ _ _ _ H.but.size (T.out _ _ _ _ Dd.out.but.size Od.out (ar.out _ _ b)) (Z.out Ve 13 (.slice a3 n3 m3)));have Qe:=lh (T.out _ _ _ _ H.but.size (T.out _ _ _ _ Dd.out.but.size Qd.out (ar.out _ _ b)) (Z.out Ve 13 (.slice a3 n3 m3)));have Se:=lh (T.out _ _ _ _ H.but.size (ho.lowG Dd.out.but.size) (Z.out Ve 13 (.slice a3 n3 m3)))
      clear r b H ho))
   clear y z Da Db Dc Dd Oa Ob Oc Od Qd D bg aX bp aS bo T ar Z;obtain ⟨VE,bz⟩:∃V:World,V=Ve.setCell ⟨w.heap.size+1,13,none⟩ (.slice a3 n3 m3):=⟨_,rfl⟩
   rw [<-bz] at De Oe Qe Se ⊢;clear bz;obtain ⟨r,hr⟩:∃r:Rcp,r=⟨L,K,st,ix,sz,dy,sr,ct,pl,rt,⟨a1,n1,m1⟩,si,⟨a2,n2,m2⟩,⟨a3,n3,m3⟩⟩:=⟨_,rfl⟩
   have bv:Hid (RcIn VE VE.heap.size r ps qs rs):=by
    show RcIn _ _ _ _ _ _;rw [hr];exact ⟨Oe.out.slH,Qe.out.slH,Se.out.slH⟩
   have aC:Hid (vaB ⟨L,K,st,ix,sz,dy,sr,ct,pl,rt,⟨none,0,0⟩,si,⟨none,0,0⟩,⟨none,0,0⟩⟩ ps qs rs=vaB r ps qs rs):=by show _=_;rw [hr];rfl
   rw [aC.out] at Y;rw [<-hr] at De;obtain ⟨⟨pv,bx⟩,bB⟩:=De.out.rd;have ay:=lh (yec g G n c1 _ pv _ VE bx);have bi:Hid (Below w.heap.size w VE):=HBd.out.trans (De.out.but.below HBd.out.size (fun i hi=>by have h2:=aZ.out;rcases hi with rfl |rfl<;>omega));have au:Hid (VE.heap[w.heap.size]? =some (.cells zR tR (0,0))):=(De.out.but.block _ (lb bh.out) (by have h2:=aZ.out;omega)).trans bh.out;have HPC:=lh De.out.pc;obtain ⟨p6,e6⟩:=sA;dsimp only at ay Y;obtain ⟨z,hz⟩:∃z:Int,(if e6=0 then (if p6 < n then 3 else 0) else e6)=z:=⟨_,rfl⟩
   rw [hz] at ay;have bC:=lh hr;have aA:Hid (∀V,Below VE.heap.size VE V->Calls prog 87 #[.agg (cR r)] V fun e w'=>e= .returned (.bool (vaB r ps qs rs))/\Below V.heap.size V w'):=fun V hb=>valid_any r ps qs rs VE.heap.size V (bv.out.up hb nl) hb.size;clear De bx bB hr HPG U bh HBd a5
   by_cases aE:z=0
   ·subst aE
    have ax:decide (e6=0/\¬p6 < n)=true:=by
     by_cases h1:e6=0
     ·rw [if_pos h1] at hz
      by_cases h2:p6 < n
      ·rw [if_pos h2] at hz;cases hz
      ·exact decide_eq_true ⟨h1,h2⟩
     ·rw [if_neg h1] at hz;exact absurd hz h1
    rw [ax,Bool.true_and] at Y;clear hz ax
    cases aM:vaB r ps qs rs
    ·rw [aM] at Y aA;clear aM aC
     go_wp2_with (first
      |(go_at_call 142;(with_reducible refine ay.out.mono ?_);rintro e w8 ⟨rfl,b8⟩
        have B8:=lh b8;have p8:=(b8.block _ (lb HPC.out)).trans HPC.out;obtain ⟨k0,k1,k2,k3,k4,k5,k6,k7,k8,k9,aG,aI,aL,aJ⟩:=ybs p8;have Z8:=lh ((b8.block _ (lb au.out)).trans au.out)
        clear b8 p8)
      |(go_at_call 87;(with_reducible refine (aA.out _ B8.out).mono ?_);rintro e w9 ⟨rfl,b9⟩
        clear k0 k1 k2 k3 k4 k5 k6 k7 k8 k9 aG aI aL aJ;have Z9:=lh ((b9.block _ (lb Z8.out)).trans Z8.out);have B9:Hid (Below VE.heap.size VE w9):=bt B8.out b9
        clear b9)
      |((with_reducible refine ybk (o:=⟨none,_,_,_,_,_⟩) rfl 35 (.tmp 2) (.tmp 70) rfl w.heap.size 35 _ _ rfl rfl Z9.out zR_size rfl zR_one ?_);intro W7 HG7 HB7))
     refine bodyPost_ret (ybB rfl _ _ _ _ _ _ _ rfl HG7.out underlying35 rfl zR_size) rfl (.inr ⟨Y.out,rfl,?_⟩);have h1:=bt bi.out B9.out;exact h1.trans (HB7.out.below h1.size (fun i hi=>by subst hi;omega))
    ·rw [aM] at Y aA;clear aM aC
     go_wp2_with (first
      |(go_at_call 142;(with_reducible refine ay.out.mono ?_);rintro e w8 ⟨rfl,b8⟩
        have B8:=lh b8;have p8:=(b8.block _ (lb HPC.out)).trans HPC.out;obtain ⟨k0,k1,k2,k3,k4,k5,k6,k7,k8,k9,aG,aI,aL,aJ⟩:=ybs p8;have Z8:=lh ((b8.block _ (lb au.out)).trans au.out);have P8:=lh p8
        clear b8 p8)
      |(go_at_call 87;(with_reducible refine (aA.out _ B8.out).mono ?_);rintro e w9 ⟨rfl,b9⟩
        clear k0 k1 k2 k3 k4 k5 k6 k7 k8 k9 aG aI aL aJ;have p9:=(b9.block _ (lb P8.out)).trans P8.out;obtain ⟨k0,k1,k2,k3,k4,k5,k6,k7,k8,k9,aG,aI,aL,aJ⟩:=ybs p9;have Z9:=lh ((b9.block _ (lb Z8.out)).trans Z8.out);have B9:Hid (Below VE.heap.size VE w9):=bt B8.out b9
        clear b9 p9)
      |((with_reducible refine ybk (o:=⟨none,_,_,_,_,_⟩) rfl 35 (.tmp 2) (.tmp 71) rfl w.heap.size 35 _ _ rfl rfl Z9.out (yc4 r) rfl (cR_one r) ?_);intro W7 HG7 HB7))
     refine bodyPost_ret (ybB rfl _ _ _ _ _ _ _ rfl HG7.out underlying35 rfl (yc4 r)) rfl (.inl ⟨Y.out,⟨a1,n1,m1⟩,⟨a2,n2,m2⟩,⟨a3,n3,m3⟩,by rw [<-bC.out];rfl,?_,?_⟩)
     ·have aO:∀(v:Value) (xs:List ByteArray),Own fT 9 VE J.heap.size v xs->Own fT 9 W7 J.heap.size v xs:=fun v xs ho=>(ho.on B9.out).butG HB7.out (fun k hk e=>by
       have h1:=(ol ho k hk).1;have h2:=aD.out
       omega)
      exact ⟨(aO _ _ Oe.out).lowG (Nat.le_of_lt aD.out),(aO _ _ Qe.out).lowG (Nat.le_of_lt aD.out),(aO _ _ Se.out).lowG (Nat.le_of_lt aD.out)⟩
     ·have h1:=bt bi.out B9.out;exact h1.trans (HB7.out.below h1.size (fun i hi=>by subst hi;omega))
   ·have ax:decide (e6=0/\¬p6 < n)=false:=by
     by_cases h1:e6=0
     ·rw [if_pos h1] at hz
      by_cases h2:p6 < n
      ·exact decide_eq_false (fun h=>h.2 h2)
      ·rw [if_neg h2] at hz;exact absurd hz.symm aE
     ·exact decide_eq_false (fun h=>h1 h.1)
    rw [ax,Bool.false_and] at Y;have bD:(z != 0)=true:=by simp [aE]
    clear hz ax aE aC bv aA
    go_wp2_with (first
     |(go_at_call 142;(with_reducible refine ay.out.mono ?_);rintro e w8 ⟨rfl,b8⟩
       have B8:=lh b8;have Z8:=lh ((b8.block _ (lb au.out)).trans au.out)
       clear b8)
     |((with_reducible refine ybk (o:=⟨none,_,_,_,_,_⟩) rfl 35 (.tmp 2) (.tmp 70) rfl w.heap.size 35 _ _ rfl rfl Z8.out zR_size rfl zR_one ?_);intro W7 HG7 HB7))
    refine bodyPost_ret (ybB rfl _ _ _ _ _ _ _ rfl HG7.out underlying35 rfl zR_size) rfl (.inr ⟨Y.out,rfl,?_⟩);have h1:=bt bi.out B8.out;exact h1.trans (HB7.out.below h1.size (fun i hi=>by subst hi;omega))
