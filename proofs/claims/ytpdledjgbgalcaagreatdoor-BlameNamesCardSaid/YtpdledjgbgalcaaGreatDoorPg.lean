import Derived.Test.YtpdledjgbgalcaaGreatDoorS3
namespace Go.Proofs.YtpdledjgbgalcaaGreatDoor
set_option maxRecDepth 100000
set_option maxHeartbeats 16000000
open Go.RowKit Go.Lib Go.Proofs.Tryz
set_option linter.unusedVariables false
set_option linter.unusedSimpArgs false
abbrev cA (d q:Int) (r:Rcp) (st:ByteArray) (ix:Int) (no an:ByteArray):Array Value:=#[.int .i64 d,.int .i64 q,.int .i64 r.hd,.int .i64 r.vt,.string r.s,.int .i64 r.ix,.int .i64 r.sz,.int .i64 r.dy,.int .i64 r.sr,.int .i64 r.ct,.int .i64 r.pl,.string r.rt,.slice r.pa.a r.pa.n r.pa.c,.int .i64 r.si,.slice r.pb.a r.pb.n r.pb.c,.slice r.pc.a r.pc.n r.pc.c,.string st,.int .i64 ix,.string no,.string an]
abbrev zA:Array Value:=#[.int .i64 0,.int .i64 0,.int .i64 0,.int .i64 0,.string ⟨#[]⟩,.int .i64 0,.int .i64 0,.int .i64 0,.int .i64 0,.int .i64 0,.int .i64 0,.string ⟨#[]⟩,.slice none 0 0,.int .i64 0,.slice none 0 0,.slice none 0 0,.string ⟨#[]⟩,.int .i64 0,.string ⟨#[]⟩,.string ⟨#[]⟩]
theorem Tryz.sizeAc:(prog.info? 39).map (·.size)=some 20:=by kernel_rfl
theorem ydU (d q:Int) (r:Rcp) (st:ByteArray) (ix:Int) (no an:ByteArray):(prog.info? 39).map (·.size)=some (cA d q r st ix no an).size:=Tryz.sizeAc
theorem yc5:(prog.info? 39).map (·.size)=some zA.size:=Tryz.sizeAc
theorem yd6 (d q:Int) (r:Rcp) (st:ByteArray) (ix:Int) (no an:ByteArray):(cA d q r st ix no an).all (·.oneCell')=true:=by
 rw [Array.all_eq_true'];intro x G;simp only [cA,List.mem_toArray,List.mem_cons,List.not_mem_nil,or_false] at G;rcases G with rfl |rfl |rfl |rfl |rfl |rfl |rfl |rfl |rfl |rfl |rfl |rfl |rfl |rfl |rfl |rfl |rfl |rfl |rfl |rfl<;>rfl
theorem ydL:zA.all (·.oneCell')=true:=by
 rw [Array.all_eq_true'];intro x G;simp only [zA,List.mem_toArray,List.mem_cons,List.not_mem_nil,or_false] at G;rcases G with rfl |rfl |rfl |rfl |rfl |rfl |rfl |rfl |rfl |rfl |rfl |rfl |rfl |rfl |rfl |rfl |rfl |rfl |rfl |rfl<;>rfl
def dT1 (bs:List Int):List Int × RS:=rY bs bs.length (0,0)
def dT2 (bs:List Int):(ByteArray × Int) × RS:=rId bs (dT1 bs).2
def dT3 (bs:List Int):ByteArray × RS:=rS bs (dT2 bs).2
def dT4 (bs:List Int):ByteArray × RS:=rS bs (dT3 bs).2
def okT (bs:List Int):Bool:=decide ((dT4 bs).2.2=0/\¬(dT4 bs).2.1 < bs.length)&&okR (dT1 bs).1
theorem rY_rng {bs:List Int} {m:Nat} {s:RS} (h:∀b∈bs,0<=b/\b < 256):∀b∈(rY bs m s).1,0<=b/\b < 256:=by
 have H:∀k p,∀b∈(tkL bs k p).1,0<=b/\b < 256:=fun k p b G=>by
  unfold tkL at G
  split at G
  ·cases G
  ·exact h b (List.mem_of_mem_drop (List.mem_of_mem_take G))
 have J:∀b∈(blkL bs m s.1).1,0<=b/\b < 256:=fun b G=>by
  unfold blkL at G
  split at G
  ·exact H _ _ b G
  ·cases G
 intro b G;unfold rY rV at G
 split at G
 ·split at G
  ·exact J b G
  ·cases G
 ·cases G
theorem rY_len {bs:List Int} {m:Nat} {s:RS}:(rY bs m s).1.length<=bs.length:=by
 have G:∀k p,(tkL bs k p).1.length<=bs.length:=fun k p=>by
  unfold tkL
  split
  ·simp
  ·simp only [List.length_take,List.length_drop];omega
 have H:(blkL bs m s.1).1.length<=bs.length:=by
  unfold blkL
  split
  ·exact G _ _
  ·simp
 unfold rY rV
 split
 ·split
  ·exact H
  ·simp
 ·simp
def zRcp:Rcp:=⟨0,0,⟨#[]⟩,0,0,0,0,0,0,⟨#[]⟩,⟨none,0,0⟩,0,⟨none,0,0⟩,⟨none,0,0⟩⟩
theorem ycm {P:Program} {w:World} {ops:Array Oper} {J:List Oper} {o:Oper} {a:Act} {Q:Exit->Act->World->Prop} (M:o.guard=none) (K:TypeId) (x y:Operand) (T:o.op= .store K x y)
 (b:Nat) (t:TypeId) (k:Nat) (cs:Array Value) (H G:Value) (W:a.eval x= .pointer (some ⟨b,k,none⟩)) (U:a.eval y= .agg #[H,G]) (L:w.heap[b]? =some (.cells cs t (0,0))) (Z:k+1 < cs.size) (hi:(P.info? K).map (·.size)=some 2)
 (h1:(#[H,G]:Array Value).all (·.oneCell')=true)
 (h:∀w',Hid (w'.heap[b]? =some (.cells ((cs.setIfInBounds k H).setIfInBounds (k+1) G) t (0,0)))->Hid (But (fun k=>k=b) w w')->wpList P ops Q J (a.put o.dst undef) w'):wpList P ops Q (o::J) a w:=by
 refine wpList_store_mid M K x y T b k #[H,G] W U ?_ hi h1 ?_
 ·intro j hj;have Y:j < 2:=hj;refine ⟨?_,frozen_of_row w b _ _ _ L⟩;rw [cell_of_row w b _ _ _ _ L,Array.getElem?_eq_getElem om];rfl
 ·have N:=heap_setCell_same w b k _ _ H L;have O:=heap_setCell_same _ b (k+1) _ _ G N;exact h _ O (But.setCell (p:=fun k=>k=b) (x:=⟨b,k+1,none⟩) (But.setCell (p:=fun k=>k=b) (x:=⟨b,k,none⟩) (But.refl _ _) (.inl rfl) _) (.inl rfl) _)
theorem ydi {w:World} {b:Nat} {t:TypeId} {d q:Int} {R:Rcp} {st:ByteArray} {ix:Int} {no an:ByteArray} (h:w.heap[b]? =some (.cells (cA d q R st ix no an) t (0,0))):w.rangeAt b 0 (cA d q R st ix no an).toList:=fun j v G=>by
 rw [Nat.zero_add,cell_of_row w b j _ _ _ h,<-Array.getElem?_toList];exact G
theorem cA17 (d q:Int) (R:Rcp) (st:ByteArray) (ix:Int) (no an:ByteArray):16+1 < (cA d q R st ix no an).size:=by show 17 < 20;decide
theorem sizeAL (d q:Int) (R:Rcp) (st:ByteArray) (ix:Int) (no an:ByteArray):(prog.info? 39).map (·.size)=some (cA d q R st ix no an).toList.length:=Tryz.sizeAc
def RDU (body:List Int) (R:Rcp) (er:Int) (base:Nat) (w':World):Prop:=
 (okR body=true/\er=0/\(∃pa pb pc,R=rcV body pa pb pc)/\RcO w' base R (rc5 body).1 (rc9 body).1 (rcA body).1)∨(okR body=false/\er=3)
theorem rd_uni {G:List Int} {w:World} {e:Ending} {H:World} (h:RDPost G w e H):∃R er,e= .returned (.tuple #[.agg (cR R),.int .i64 er])/\RDU G R er w.heap.size H/\Below w.heap.size w H:=by
 rcases h with ⟨h1,pa,pb,pc,h2,J,K⟩ |⟨h1,h2,J⟩
 ·exact ⟨_,0,h2,.inl ⟨h1,rfl,⟨pa,pb,pc,rfl⟩,J⟩,K⟩
 ·exact ⟨zRcp,3,h2,.inr ⟨h1,rfl⟩,J⟩
def DCPost (d q:Int) (bs:List Int) (w:World) (e:Ending) (w':World):Prop:=
 (okT bs=true/\∃pa pb pc,e= .returned (.tuple #[.agg (cA d q (rcV (dT1 bs).1 pa pb pc) (dT2 bs).1.1 (dT2 bs).1.2 (dT3 bs).1 (dT4 bs).1),.int .i64 0])/\RcO w' w.heap.size (rcV (dT1 bs).1 pa pb pc) (rc5 (dT1 bs).1).1 (rc9 (dT1 bs).1).1 (rcA (dT1 bs).1).1/\Below w.heap.size w w')
 ∨(okT bs=false/\e= .returned (.tuple #[.agg zA,.int .i64 3])/\Below w.heap.size w w')
def acP37:Array (Nat × Operand):=#[(0,.tmp 33),(1,.tmp 35),(2,.tmp 36)]
theorem acB37 (a:Act) (d q:Int) (R:Rcp) (h0:a.eval (.tmp 33)= .int .i64 d) (h1:a.eval (.tmp 35)= .int .i64 q) (h2:a.eval (.tmp 36)= .agg (cR R)):prog.built 39 (acP37.map fun (i,x)=>(i,a.eval x)).toList=some (cA d q R ⟨#[]⟩ 0 ⟨#[]⟩ ⟨#[]⟩):=by
 rw [Array.toList_map];show prog.built 39 [(0,a.eval (.tmp 33)),(1,a.eval (.tmp 35)),(2,a.eval (.tmp 36))]=_;rw [h0,h1,h2]
 kernel_rfl
theorem ycc {w:World} {b:Nat} {t:TypeId} {R:Rcp} (h:w.heap[b]? =some (.cells (cR R) t (0,0))):w.rangeAt b 0 (cR R).toList:=fun j v G=>by
 rw [Nat.zero_add,cell_of_row w b j _ _ _ h,<-Array.getElem?_toList];exact G
theorem ybT (R:Rcp):(prog.info? 35).map (·.size)=some (cR R).toList.length:=Tryz.sizeRc
theorem dacc_no (dv sq k dy:Int) (pr:ByteArray) (A:Option Addr) (n c:Nat) (w:World) (J:k≠6):
 Calls prog 105 #[.agg #[.int .i64 dv,.int .i64 sq,.int .i64 k,.int .i64 dy,.slice A n c,.string pr]] w fun e K=>e= .returned (.tuple #[.agg zA,.int .i64 1])/\Below w.heap.size w K:=by
 have L:(k != 6)=true:=by simp [J]
 obtain ⟨H,G⟩:∃H:World,H=(w.alloc (.cells #[.int .i64 dv,.int .i64 sq,.int .i64 k,.int .i64 dy,.slice A n c,.string pr] 55)).alloc (.cells zA 39):=⟨_,rfl⟩
 have HB1:Hid (Below w.heap.size w H):=by show Below _ _ _;rw [G];exact bl.alloc sI _
 have HG3:Hid (H.heap[w.heap.size+1]? =some (.cells zA 39 (0,0))):=by
  show _=_;rw [G];have:=zy (w.alloc (.cells #[.int .i64 dv,.int .i64 sq,.int .i64 k,.int .i64 dy,.slice A n c,.string pr] 55)) (.cells zA 39);simpa using this
 have HWE:=lh G;clear G;go_enter func105,ntmps105
 go_wp2_with (first
  |((with_reducible refine ybk (o:=⟨none,_,_,_,_,_⟩) rfl 39 (.tmp 2) (.tmp 13) rfl (w.heap.size+1) 39 _ _ rfl rfl ya7 yc5 rfl ydL ?_);intro M HG7 HB7))
 rw [<-HWE.out] at HB7;refine bodyPost_ret (ybB rfl _ _ _ _ _ _ _ rfl HG7.out underlying39 rfl yc5) rfl ⟨rfl,HB1.out.trans (HB7.out.below HB1.out.size (fun i hi=>by subst hi;omega))⟩
theorem dacc_num (dv sq dy:Int) (pr:ByteArray) (A:Option Addr) (n c:Nat) (w:World) (L:numB dv sq=false):
 Calls prog 105 #[.agg #[.int .i64 dv,.int .i64 sq,.int .i64 6,.int .i64 dy,.slice A n c,.string pr]] w fun e K=>e= .returned (.tuple #[.agg zA,.int .i64 3])/\Below w.heap.size w K:=by
 have J:=lh (fun W=>ycW dv sq W);rw [L] at J;obtain ⟨H,G⟩:∃H:World,H=(w.alloc (.cells #[.int .i64 dv,.int .i64 sq,.int .i64 6,.int .i64 dy,.slice A n c,.string pr] 55)).alloc (.cells zA 39):=⟨_,rfl⟩
 have HB1:Hid (Below w.heap.size w H):=by show Below _ _ _;rw [G];exact bl.alloc sI _
 have HG3:Hid (H.heap[w.heap.size+1]? =some (.cells zA 39 (0,0))):=by
  show _=_;rw [G];have:=zy (w.alloc (.cells #[.int .i64 dv,.int .i64 sq,.int .i64 6,.int .i64 dy,.slice A n c,.string pr] 55)) (.cells zA 39);simpa using this
 have HWE:=lh G;clear G;go_enter func105,ntmps105
 go_wp2_with (first
  |(go_at_call 37;(with_reducible refine (J.out _).mono ?_);rintro e w1 ⟨rfl,rfl⟩)
  |((with_reducible refine ybk (o:=⟨none,_,_,_,_,_⟩) rfl 39 (.tmp 2) (.tmp 20) rfl (w.heap.size+1) 39 _ _ rfl rfl ya7 yc5 rfl ydL ?_);intro M HG7 HB7))
 rw [<-HWE.out] at HB7;refine bodyPost_ret (ybB rfl _ _ _ _ _ _ _ rfl HG7.out underlying39 rfl yc5) rfl ⟨rfl,HB1.out.trans (HB7.out.below HB1.out.size (fun i hi=>by subst hi;omega))⟩
theorem dacc_any (dv sq dy:Int) (pr:ByteArray) (A:Option Addr) (n c B:Nat) (bs:List Int) (w:World) (hN:numB dv sq=true) (hx:Sl fB w B A n bs) (hB:B<=w.heap.size) (hn:n<=1000000) (T:∀b∈bs,0<=b/\b < 256):
 Calls prog 105 #[.agg #[.int .i64 dv,.int .i64 sq,.int .i64 6,.int .i64 dy,.slice A n c,.string pr]] w (DCPost dv sq bs w):=by
 have hl:bs.length=n:=hx.1;have aE:(dT1 bs).2.1<=n:=rY_le hl (Nat.zero_le _);have aB:(dT2 bs).2.1<=n:=rId_le hl aE;have aH:(dT3 bs).2.1<=n:=rS_le hl aB;have ay:=lh (fun W=>ycW dv sq W);rw [hN] at ay;obtain ⟨Y,M⟩:∃Y:World,Y=(w.alloc (.cells #[.int .i64 dv,.int .i64 sq,.int .i64 6,.int .i64 dy,.slice A n c,.string pr] 55)).alloc (.cells zA 39):=⟨_,rfl⟩
 have am:Below w.heap.size w Y:=by rw [M];exact bl.alloc sI _
 have aN:Y.heap.size=w.heap.size+1+1:=by rw [M];simp
 have aR:Y.heap[w.heap.size]? =some (.cells #[.int .i64 dv,.int .i64 sq,.int .i64 6,.int .i64 dy,.slice A n c,.string pr] 55 (0,0)):=by rw [M,Below.heap_alloc _ _ _ sI];exact zy w _
 have aJ:Y.heap[w.heap.size+1]? =some (.cells zA 39 (0,0)):=by
  rw [M];have:=zy (w.alloc (.cells #[.int .i64 dv,.int .i64 sq,.int .i64 6,.int .i64 dy,.slice A n c,.string pr] 55)) (.cells zA 39);simpa using this
 have aC:=lh (yci A n c bs Y ((hx.up am hB).more' (lT hB am.size)) hn);have HB1:=lh am;have HS1:=lh aN;have HGE:=lh aR;have HG3:=lh aJ;have HWE:=lh M;rw [M] at aC
 have H1:Hid (∀g G c1 V,n<=c1->RdS g G n c1 bs (0,0) V->Calls prog 171 #[.pointer (some ⟨g,0,none⟩),.int .i64 n] V (RYPost g G n c1 bs (dT1 bs).1 (dT1 bs).2 V)):=fun g G c1 V hc h=>by
  have:=ry_any g G n c1 bs (0,0) n hn V h ⟨T,hn,hc⟩ (Nat.zero_le _);unfold dT1;rw [hl];exact this
 have H2:Hid (∀g G c1 V,n<=c1->RdS g G n c1 bs (dT1 bs).2 V->Calls prog 170 #[.pointer (some ⟨g,0,none⟩)] V (RPost g G n c1 bs (.agg #[.string (dT2 bs).1.1,.int .i64 (dT2 bs).1.2]) (dT2 bs).2 V)):=fun g G c1 V hc h=>rid_any g G n c1 bs _ V h ⟨T,hn,hc⟩ aE;have H3:Hid (∀g G c1 V,n<=c1->RdS g G n c1 bs (dT2 bs).2 V->Calls prog 172 #[.pointer (some ⟨g,0,none⟩)] V (RPost g G n c1 bs (.string (dT3 bs).1) (dT3 bs).2 V)):=fun g G c1 V hc h=>rs_any g G n c1 bs _ V h ⟨T,hn,hc⟩ aB;have H4:Hid (∀g G c1 V,n<=c1->RdS g G n c1 bs (dT3 bs).2 V->Calls prog 172 #[.pointer (some ⟨g,0,none⟩)] V (RPost g G n c1 bs (.string (dT4 bs).1) (dT4 bs).2 V)):=fun g G c1 V hc h=>rs_any g G n c1 bs _ V h ⟨T,hn,hc⟩ aH;have HBd:Hid (∀b∈(dT1 bs).1,0<=b/\b < 256):=rY_rng T;have aU:Hid ((dT1 bs).1.length<=1000000):=by show _<=_;have:=rY_len (bs:=bs) (m:=bs.length) (s:=(0,0));unfold dT1;omega
 have J:Hid (okT bs=(decide ((dT4 bs).2.2=0/\¬(dT4 bs).2.1 < n)&&okR (dT1 bs).1)):=by show okT bs=_;unfold okT;rw [hl]
 unfold DCPost;generalize dT1 bs=R1 at*;generalize dT2 bs=R2 at*;generalize dT3 bs=R3 at*;generalize dT4 bs=R4 at*;obtain ⟨aW,s1⟩:=R1;obtain ⟨⟨st,ix⟩,s2⟩:=R2;obtain ⟨no,s3⟩:=R3;obtain ⟨an,s4⟩:=R4;dsimp only at H1 H2 H3 H4 HBd aU J ⊢;have aZ:n - 0=n:=Nat.sub_zero n
 have aM:Hid (∀g G c1 V,RdS g G n c1 bs (0,0) V->Calls prog 83 #[.pointer (some ⟨g,0,none⟩)] V fun e w'=>e= .returned (.int .i64 n)/\Below V.heap.size V w'):=fun g G c1 V h=>by
  obtain ⟨⟨pv,h1⟩,_⟩:=h;have:=left_any g G n c1 0 pv 0 V h1 (Nat.zero_le _) hn;simpa using this
 clear hx hB T hl aE aB aH am aN aR aJ M hN aZ;go_enter func105,ntmps105
 go_upto_region 8 with (first
  |(go_at_call 37;(with_reducible refine (ay.out _).mono ?_);rintro e w1 ⟨rfl,rfl⟩)
  |(go_at_call 81;(with_reducible refine aC.out.mono ?_);rintro e V0 ⟨g,G,c1,rfl,r0,x0,aq,au,aL,ar⟩
    rw [<-HWE.out] at aq au ar;have D0:Hid (RdS g G n c1 bs (0,0) V0):=⟨⟨_,r0⟩,x0⟩;have ag:=lh aL;have ak:=lh aq;have aK:=lh au;have aP:=lh ar
    clear r0 x0 aq au aL ar)
  |(go_at_call 83;(with_reducible refine (aM.out g G c1 _ D0.out).mono ?_);rintro e V1 ⟨rfl,b⟩
    have D1:=lh (D0.out.on b);have B1:=lh b
    clear b)
  |(go_at_call 171;(with_reducible refine (H1.out g G c1 _ ag.out D1.out).mono ?_);rintro e V2 ⟨Ad,kd,cd,rfl,ho,r,b⟩
    have D2:=lh r;have B2:=lh b;have ac:=ho.slH;have aY:=lh (rdec_any Ad kd cd V2.heap.size aW V2 ac nl (by have h1:=ac.1;have h2:=aU.out;omega) HBd.out)
    clear ho r b ac)
  |(go_at_call 174;(with_reducible refine aY.out.mono ?_);rintro e H h3
    obtain ⟨R,er,rfl,hu,hb⟩:=rd_uni h3;have HU:=lh hu;have B3:=lh hb
    have az:Hid (Below w.heap.size w H):=by
     have h1:Below w.heap.size w V0:=bt HB1.out aK.out;have h2:Below w.heap.size w V1:=bt h1 B1.out;have h3:Below w.heap.size w V2:=h2.trans (B2.out.below h2.size (fun i hi=>by subst hi;have h4:=ak.out;have h5:=HS1.out;omega));exact bt h3 hb
    have D3:=lh (D2.out.on hb);have ap:Below Y.heap.size Y V1:=bt aK.out B1.out
    have ao:H.heap[w.heap.size]? =some (.cells #[.int .i64 dv,.int .i64 sq,.int .i64 6,.int .i64 dy,.slice A n c,.string pr] 55 (0,0)):=by
     have h1:=(ap.block _ (lb HGE.out)).trans HGE.out;have h2:=(B2.out.block _ (lb h1) (by have h4:=ak.out;have h5:=HS1.out;omega)).trans h1;exact (hb.block _ (lb h2)).trans h2
    have al:Hid (H.heap[w.heap.size+1]? =some (.cells zA 39 (0,0))):=by
     have h1:=(ap.block _ (lb HG3.out)).trans HG3.out;have h2:=(B2.out.block _ (lb h1) (by have h4:=ak.out;have h5:=HS1.out;omega)).trans h1;exact (hb.block _ (lb h2)).trans h2
    have aD:=(zx H (.cells (cR R) tR) _ (lb ao)).trans ao;have e0:(H.alloc (.cells (cR R) tR)).cell? ⟨w.heap.size,0,none⟩=some (.int .i64 dv):=by rw [cell_of_row _ _ 0 _ _ _ aD];rfl
    have e1:(H.alloc (.cells (cR R) tR)).cell? ⟨w.heap.size,1,none⟩=some (.int .i64 sq):=by rw [cell_of_row _ _ 1 _ _ _ aD];rfl
    have aT:Hid (((H.alloc (.cells (cR R) tR)).alloc (.cells zA 39)).heap[H.heap.size+1]? =some (.cells zA 39 (0,0))):=by
     have:=zy (H.alloc (.cells (cR R) tR)) (.cells zA 39);show _=_;simpa using this
    clear h3 hu hb ao aD ap)
  |(with_reducible refine ybr (o:=⟨none,.store tR (.tmp 5) (.tmp 30),_,_,_,_⟩) rfl tR (.tmp 5) (.tmp 30) rfl tR _ (cR R) rfl rfl (yc4 R) rfl (cR_one R) ?_)
  |(with_reducible refine wpList_load_mid (op:=⟨some 36,_,_,_,_,_⟩) rfl tR (.tmp 5) rfl H.heap.size 0 rfl (cR R).toList _ (ycc (zy H _)) underlying35 rfl (ybT R) ?_)
  |(with_reducible refine ybq (o:=⟨some 37,_,_,_,_,_⟩) rfl 39 acP37 ybi (cA dv sq R ⟨#[]⟩ 0 ⟨#[]⟩ ⟨#[]⟩) (acB37 _ dv sq R rfl rfl rfl) ?_)
  |((with_reducible refine ybk (o:=⟨none,_,_,_,_,_⟩) rfl 39 (.tmp 7) (.tmp 37) rfl (H.heap.size+1) 39 _ _ rfl rfl aT.out (ydU dv sq R ⟨#[]⟩ 0 ⟨#[]⟩ ⟨#[]⟩) rfl (yd6 dv sq R ⟨#[]⟩ 0 ⟨#[]⟩ ⟨#[]⟩) ?_);intro V4 ax aO))
 have aa:Below H.heap.size H V4:=(((Below.refl _ H).alloc nl (.cells (cR R) tR)).alloc sI (.cells zA 39)).trans (aO.out.below ybh (fun i hi=>by subst hi;omega));have aX:=ax;have aI:g < H.heap.size:=D3.out.lt
 have D4:Hid (DT 39 V4 V4 g G n c1 bs s1 (H.heap.size+1) (cA dv sq R ⟨#[]⟩ 0 ⟨#[]⟩ ⟨#[]⟩)):=⟨D3.out.on aa,ax.out,But.refl _ _,by omega,fun a ha=>by
  have h1:=(aP.out a ha).2;have h2:V0.heap.size<=V1.heap.size:=B1.out.size;have h3:V1.heap.size<=V2.heap.size:=B2.out.size;have h4:=B3.out.size
  omega⟩
 have a5:Hid (Below w.heap.size w V4):=bt az.out aa;have a4:Hid (V4.heap[w.heap.size+1]? =some (.cells zA 39 (0,0))):=(aa.block _ (lb al.out)).trans al.out;have a1:=lh aa;have HGL:=lh aI;have aA:Hid (g < V2.heap.size):=D2.out.lt;have ah:Hid (w.heap.size+1+1<=g):=by show _<=_;have h2:=ak.out;have h3:=HS1.out;omega
 obtain ⟨X,hX⟩:∃X,X=H.heap.size+1:=⟨_,rfl⟩
 have a2:=lh hX;rw [<-hX] at D4 ⊢;clear aa aX aI D0 D1 aO ax e0 e1 H1 aM ay aC aT aP hX
 go_upto_region 11 with (first
  |(go_at_call 170;(with_reducible refine (H2.out g G c1 _ ag.out D4.out.rd).mono ?_);rintro e V5 ⟨rfl,r,b⟩
    have D5:=lh (D4.out.read r b)
    clear r b)
  |((with_reducible refine ycm (o:=⟨none,_,_,_,_,_⟩) rfl 31 (.tmp 41) (.tmp 39) rfl X 39 16 _ _ _ rfl rfl D5.out.pc (cA17 _ _ _ _ _ _ _) Tryz.sizePid (pid_one _ _) ?_);intro V6 aG HB6
    have D6:Hid (DT 39 V4 V6 g G n c1 bs s2 X (cA dv sq R st ix ⟨#[]⟩ ⟨#[]⟩)):=D5.out.set aG.out HB6.out
    clear aG HB6)
  |(go_at_call 172;(with_reducible refine (H3.out g G c1 _ ag.out D6.out.rd).mono ?_);rintro e V7 ⟨rfl,r,b⟩
    have U:=D6.out.read r b;have y:=zz V7 X 18 _ _ _ U.pc;have z:=frozen_of_row V7 X 18 _ _ U.pc;simp at y;have D7:Hid (DT 39 V4 (V7.setCell ⟨X,18,none⟩ (.string no)) g G n c1 bs s3 X (cA dv sq R st ix no ⟨#[]⟩)):=U.cell 18 (.string no)
    clear r b U)
  |(go_at_call 172;(with_reducible refine (H4.out g G c1 _ ag.out D7.out.rd).mono ?_);rintro e V8 ⟨rfl,r,b⟩
    clear y z;have U:=D7.out.read r b;have y:=zz V8 X 19 _ _ _ U.pc;have z:=frozen_of_row V8 X 19 _ _ U.pc;simp at y;have D8:Hid (DT 39 V4 (V8.setCell ⟨X,19,none⟩ (.string an)) g G n c1 bs s4 X (cA dv sq R st ix no an)):=U.cell 19 (.string an)
    clear r b U))
 clear y z D4 D5 D6 D7;obtain ⟨VE,aS⟩:∃V:World,V=V8.setCell ⟨X,19,none⟩ (.string an):=⟨_,rfl⟩
 rw [<-aS] at D8 ⊢;clear aS;obtain ⟨⟨pv,aQ⟩,ac⟩:=D8.out.rd;have ae:=lh (yec g G n c1 _ pv _ VE aQ)
 have aw:Hid (But (fun k=>k=g) H VE):=(But.of_below a1.out).trans D8.out.but (fun i hi=>by
  rcases hi with rfl |rfl
  ·exact .inl rfl
  ·exact .inr (by have:=a2.out;omega))
 have aF:Hid (Below w.heap.size w VE):=az.out.trans (aw.out.below az.out.size (fun i hi=>by have h2:=ah.out;subst hi;omega));have O:Hid (VE.heap[w.heap.size+1]? =some (.cells zA 39 (0,0))):=(aw.out.block _ (lb al.out) (by have h2:=ah.out;omega)).trans al.out;have HPC:=lh D8.out.pc;obtain ⟨p6,e6⟩:=s4;dsimp only at ae J;obtain ⟨z,L⟩:∃z:Int,(if e6=0 then (if p6 < n then 3 else 0) else e6)=z:=⟨_,rfl⟩
 rw [L] at ae;have ai:=lh HU.out;clear D8 aQ ac HU
 by_cases af:z=0
 ·subst af
  have Z:decide (e6=0/\¬p6 < n)=true:=by
   by_cases h1:e6=0
   ·rw [if_pos h1] at L
    by_cases h2:p6 < n
    ·rw [if_pos h2] at L;cases L
    ·exact decide_eq_true ⟨h1,h2⟩
   ·rw [if_neg h1] at L;exact absurd L h1
  rw [Z,Bool.true_and] at J;clear L Z;rcases ai.out with ⟨N,rfl,⟨pa,pb,pc,hR⟩,aj⟩ |⟨N,rfl⟩
  ·rw [N] at J;have aV:=lh hR;have a0:=lh aj;clear N hR aj ai
   go_wp2_with (first
    |(go_at_call 142;(with_reducible refine ae.out.mono ?_);rintro e w8 ⟨rfl,K⟩
      have B8:=lh K;have P8:Hid (w8.heap[X]? =some (.cells (cA dv sq R st ix no an) 39 (0,0))):=(K.block _ (lb HPC.out)).trans HPC.out;have Z8:=lh ((K.block _ (lb O.out)).trans O.out)
      clear K)
    |(with_reducible refine wpList_load_mid (op:=⟨some 62,_,_,_,_,_⟩) rfl 39 (.tmp 7) rfl X 0 rfl (cA dv sq R st ix no an).toList _ (ydi P8.out) underlying39 rfl (sizeAL dv sq R st ix no an) ?_)
    |((with_reducible refine ybk (o:=⟨none,_,_,_,_,_⟩) rfl 39 (.tmp 2) (.tmp 62) rfl (w.heap.size+1) 39 _ _ rfl rfl Z8.out (ydU dv sq R st ix no an) rfl (yd6 dv sq R st ix no an) ?_);intro W7 HG7 HB7))
   refine bodyPost_ret (ybB rfl _ _ _ _ _ _ _ rfl HG7.out underlying39 rfl (ydU dv sq R st ix no an)) rfl (.inl ⟨J.out,pa,pb,pc,by rw [<-aV.out];rfl,?_,?_⟩)
   ·rw [<-aV.out];have q1:=a0.out.but aw.out (fun k hk _ e=>by have:=aA.out;omega);have q2:=q1.on B8.out;have q3:=q2.but HB7.out (fun k hk _ e=>by have h1:=aA.out;have h2:=ah.out;omega);exact q3.low (by have h1:=aA.out;have h2:=ah.out;omega)
   ·have h1:=bt aF.out B8.out;exact h1.trans (HB7.out.below h1.size (fun i hi=>by subst hi;omega))
  ·rw [N] at J;clear N ai
   go_wp2_with (first
    |(go_at_call 142;(with_reducible refine ae.out.mono ?_);rintro e w8 ⟨rfl,K⟩
      have B8:=lh K;have Z8:=lh ((K.block _ (lb O.out)).trans O.out)
      clear K)
    |((with_reducible refine ybk (o:=⟨none,_,_,_,_,_⟩) rfl 39 (.tmp 2) (.tmp 61) rfl (w.heap.size+1) 39 _ _ rfl rfl Z8.out yc5 rfl ydL ?_);intro W7 HG7 HB7))
   refine bodyPost_ret (ybB rfl _ _ _ _ _ _ _ rfl HG7.out underlying39 rfl yc5) rfl (.inr ⟨J.out,rfl,?_⟩);have h1:=bt aF.out B8.out;exact h1.trans (HB7.out.below h1.size (fun i hi=>by subst hi;omega))
 ·have Z:decide (e6=0/\¬p6 < n)=false:=by
   by_cases h1:e6=0
   ·rw [if_pos h1] at L
    by_cases h2:p6 < n
    ·exact decide_eq_false (fun h=>h.2 h2)
    ·rw [if_neg h2] at L;exact absurd L.symm af
   ·exact decide_eq_false (fun h=>h1 h.1)
  rw [Z,Bool.false_and] at J;have a3:(z != 0)=true:=by simp [af]
  clear L Z af ai
  ·
   go_wp2_with (first
    |(go_at_call 142;(with_reducible refine ae.out.mono ?_);rintro e w8 ⟨rfl,K⟩
      have B8:=lh K;have Z8:=lh ((K.block _ (lb O.out)).trans O.out)
      clear K)
    |((with_reducible refine ybk (o:=⟨none,_,_,_,_,_⟩) rfl 39 (.tmp 2) (.tmp 61) rfl (w.heap.size+1) 39 _ _ rfl rfl Z8.out yc5 rfl ydL ?_);intro W7 HG7 HB7))
   refine bodyPost_ret (ybB rfl _ _ _ _ _ _ _ rfl HG7.out underlying39 rfl yc5) rfl (.inr ⟨J.out,rfl,?_⟩);have h1:=bt aF.out B8.out;exact h1.trans (HB7.out.below h1.size (fun i hi=>by subst hi;omega))
theorem Wc.sl {α:Type} {f:α->Value} {g base:Nat} {v:Value} {G w:World} {bs:List Int} {B n:Nat} {A:Option Addr} {xs:List α} (h:Wc g base v G bs w) (J:Sl f G B A n xs) (K:B<=G.heap.size) (hf:∀k,k < B->¬foot g v k):Sl f w B A n xs:=⟨J.1,fun hn=>by
 obtain ⟨b,H,e,hlt,L⟩:=J.2 hn
 exact ⟨b,H,e,hlt,L.keep (h.keep (hf b hlt) (Nat.lt_of_lt_of_le hlt K))⟩⟩
theorem Wc.behind {g base:Nat} {v:Value} {G w:World} {bs:List Int} {o:Obj} (h:Wc g base v (G.alloc o) bs w):Wc g base v G bs w:=by
 obtain ⟨J,h1,h2,K⟩:=h;refine ⟨J,h1,((But.refl _ G).alloc o).trans h2 (fun i hi=> .inl hi),?_⟩;rcases K with h |⟨k,h,H⟩
 ·exact .inl h
 ·exact .inr ⟨k,h,Nat.le_trans sI H⟩
theorem Wc.comp {g base:Nat} {v J:Value} {G w H:World} {bs':List Int} (K:But (foot g v) G w) (hn:NewRow v J G) (k:Wc g base J w bs' H):Wc g base v G bs' H:=by
 obtain ⟨O,L,M,N⟩:=k;exact ⟨O,L,K.wr hn M,hn.trans N K.size⟩
def encSg (hd vt:Nat) (s:ByteArray) (ix sz dy sr:Nat):List Int:=enc hd++(enc vt++(sB s++(enc ix++(enc sz++(enc dy++enc sr)))))
theorem wsigned_any (g base:Nat) (v:Value) (bs:List Int) (hd vt ix sz dy sr:Nat) (s rt:ByteArray) (ct pl si:Int) (pa pb pc:Hd) (w:World) (hw:Wr w g base v bs) (hs:s.size=32) (hN:hd<=1099511627776/\vt<=1099511627776/\ix<=1099511627776/\sz<=1099511627776/\dy<=1099511627776/\sr<=1099511627776) (ap:bs.length<=900000):
 Calls prog 150 #[.pointer (some ⟨g,0,none⟩),.agg #[.int .i64 (hd:Int),.int .i64 (vt:Int),.string s,.int .i64 (ix:Int),.int .i64 (sz:Int),.int .i64 (dy:Int),.int .i64 (sr:Int),.int .i64 ct,.int .i64 pl,.string rt,.slice pa.a pa.n pa.c,.int .i64 si,.slice pb.a pb.n pb.c,.slice pc.a pc.n pc.c]] w (WPost g base v (bs++encSg hd vt s ix sz dy sr) w):=by
 obtain ⟨W,z⟩:∃W:World,W=w.alloc (.cells #[.int .i64 (hd:Int),.int .i64 (vt:Int),.string s,.int .i64 (ix:Int),.int .i64 (sz:Int),.int .i64 (dy:Int),.int .i64 (sr:Int),.int .i64 ct,.int .i64 pl,.string rt,.slice pa.a pa.n pa.c,.int .i64 si,.slice pb.a pb.n pb.c,.slice pc.a pc.n pc.c] 35):=⟨_,rfl⟩
 have hK:W.heap[w.heap.size]? =some (.cells #[.int .i64 (hd:Int),.int .i64 (vt:Int),.string s,.int .i64 (ix:Int),.int .i64 (sz:Int),.int .i64 (dy:Int),.int .i64 (sr:Int),.int .i64 ct,.int .i64 pl,.string rt,.slice pa.a pa.n pa.c,.int .i64 si,.slice pb.a pb.n pb.c,.slice pc.a pc.n pc.c] 35 (0,0)):=by rw [z];exact zy w _
 have af:Wc g base v W bs W:=by rw [z];exact Wc.start (hw.alloc _)
 have hF:=hw.fresh
 have HK:Hid (∀bs' V,Wc g base v W bs' V->V.cell? ⟨w.heap.size,0,none⟩=some (.int .i64 (hd:Int))/\V.cell? ⟨w.heap.size,1,none⟩=some (.int .i64 (vt:Int))/\V.cell? ⟨w.heap.size,2,none⟩=some (.string s)/\V.cell? ⟨w.heap.size,3,none⟩=some (.int .i64 (ix:Int))/\V.cell? ⟨w.heap.size,4,none⟩=some (.int .i64 (sz:Int))/\V.cell? ⟨w.heap.size,5,none⟩=some (.int .i64 (dy:Int))/\V.cell? ⟨w.heap.size,6,none⟩=some (.int .i64 (sr:Int))):=fun bs' V h=>by
  have hq:=(h.keep hF (lb hK)).trans hK;refine ⟨?_,?_,?_,?_,?_,?_,?_⟩<;>(rw [cell_of_row V _ _ _ _ _ hq];rfl)
 have HP:Hid (∀bs' V,Wc g base v W bs' V->WPost g base v bs' w (.returned (.tuple #[])) V):=fun bs' V h=>by rw [z] at h;exact h.behind.post
 have HWE:=lh z;have H0:=lh af;obtain ⟨c0,c1,c2,c3,c4,T,U⟩:=HK.out _ _ H0.out;obtain ⟨n0,n1,n2,n3,n4,n5⟩:=hN;have m0:(hd:Int) % 18446744073709551616=hd:=by omega
 have m1:(vt:Int) % 18446744073709551616=vt:=by omega
 have ar:(sB s).length=32:=(ybS s).trans hs;have ai:=lh (H0.out.step (P:=prog) (fun J G _=>yb4 g base J bs hd W G om om));rw [z] at c0 c1 c2 c3 c4 T U;clear hw hK af hF z;go_enter func150,ntmps150;go_wp2_with fail;rw [<-HWE.out];refine ai.out.mono ?_;rintro e V1 ⟨rfl,h1⟩;clear c0 c1 c2 c3 c4 T U;obtain ⟨c0,c1,c2,c3,c4,T,U⟩:=HK.out _ _ h1;have ao:=lh (h1.step (P:=prog) (fun J G _=>yb4 g base J _ vt V1 G om (by have:=ybx hd;simp only [List.length_append];omega)));clear h1;go_wp2_with fail;refine ao.out.mono ?_;rintro e V2 ⟨rfl,h2⟩;clear c0 c1 c2 c3 c4 T U;obtain ⟨c0,c1,c2,c3,c4,T,U⟩:=HK.out _ _ h2;have ak:=lh (h2.step (P:=prog) (fun J G _=>wsum_any g base J _ s V2 G hs (by have:=ybx hd;have:=ybx vt;simp only [List.length_append];omega)));clear h2;go_wp2_with fail;refine ak.out.mono ?_;rintro e M ⟨rfl,h3⟩;clear c0 c1 c2 c3 c4 T U;obtain ⟨c0,c1,c2,c3,c4,T,U⟩:=HK.out _ _ h3;obtain ⟨L,hL⟩:∃L,L=bs++enc hd++enc vt++sB s:=⟨_,rfl⟩
 rw [<-hL] at h3;have aq:L.length<=900060:=by rw [hL];have:=ybx hd;have:=ybx vt;simp only [List.length_append];omega
 obtain ⟨N,aa,ah,ag⟩:=h3;obtain ⟨K,O⟩:∃V:World,V=M.alloc (.cells #[.int .i64 (ix:Int),.int .i64 (sz:Int),.int .i64 (dy:Int),.int .i64 (sr:Int)] 3):=⟨_,rfl⟩
 have H4:Hid (Wc g base N K L K):=by show Wc _ _ _ _ _ _;rw [O];exact Wc.start (aa.alloc _)
 have ac:K.heap[M.heap.size]? =some (.cells #[.int .i64 (ix:Int),.int .i64 (sz:Int),.int .i64 (dy:Int),.int .i64 (sr:Int)] 3 (0,0)):=by rw [O];exact zy M _
 have ae:=aa.fresh;have HQ:Hid (∀bs' V,Wc g base N K bs' V->V.heap[M.heap.size]? =some (.cells #[.int .i64 (ix:Int),.int .i64 (sz:Int),.int .i64 (dy:Int),.int .i64 (sr:Int)] 3 (0,0))):=fun bs' V h=>(h.keep ae (lb ac)).trans ac;have al:Hid (∀bs' V,Wc g base N K bs' V->Wc g base v W bs' V):=fun bs' V h=>Wc.comp (by rw [O];exact ah.alloc _) ag h;have am:=lh O;have aj:=lh hL;clear aa ah ag O ac ae hL;go_wp2_with fail;clear c0 c1 c2 c3 c4 T U;rw [<-am.out]
 go_loopw [32] (fun i wr=>∃k:Nat,k<=4/\i= .int .i64 k/\Hid (Wc g base N K (L++(([ix,sz,dy,sr]:List Nat).take k).flatMap enc) wr)) (fun i _=>4 - (intOf i).toNat)
 case atStart=>exact ⟨0,by omega,rfl,by show Wc _ _ _ _ _ _;simpa using H4.out⟩
 case round=>
  obtain ⟨k,hk,rfl,HR⟩:=hrel;rcases (show k=0∨k=1∨k=2∨k=3∨k=4 by omega) with rfl |rfl |rfl |rfl |rfl
  ·have m:(ix:Int) % 18446744073709551616=ix:=by omega
   have y:wr.cell? ⟨M.heap.size,0,none⟩=some (.int .i64 (ix:Int)):=by rw [cell_of_row wr _ 0 _ _ _ (HQ.out _ _ HR.out)];rfl
   have HC:=lh (HR.out.step (P:=prog) (fun J G _=>yb4 g base J _ ix wr G om yaX));go_wp2_with fail;refine HC.out.mono ?_;rintro e Z ⟨rfl,H⟩
   have Y:Hid (Wc g base N K (L++(([ix,sz,dy,sr]:List Nat).take 1).flatMap enc) Z):=by
    show Wc _ _ _ _ _ _;have e:L++(([ix,sz,dy,sr]:List Nat).take 0).flatMap enc++enc ix=L++(([ix,sz,dy,sr]:List Nat).take 1).flatMap enc:=by simp [List.flatMap_cons]
    rw [e] at H;exact H
   clear H y m;go_wp2;refine ⟨?rel,?measure⟩;case rel=>exact ⟨1,by omega,rfl,Y⟩
   case measure=>simp [intOf]
  ·have m:(sz:Int) % 18446744073709551616=sz:=by omega
   have y:wr.cell? ⟨M.heap.size,1,none⟩=some (.int .i64 (sz:Int)):=by rw [cell_of_row wr _ 1 _ _ _ (HQ.out _ _ HR.out)];rfl
   have HC:=lh (HR.out.step (P:=prog) (fun J G _=>yb4 g base J _ sz wr G om yaX));go_wp2_with fail;refine HC.out.mono ?_;rintro e Z ⟨rfl,H⟩
   have Y:Hid (Wc g base N K (L++(([ix,sz,dy,sr]:List Nat).take 2).flatMap enc) Z):=by
    show Wc _ _ _ _ _ _;have e:L++(([ix,sz,dy,sr]:List Nat).take 1).flatMap enc++enc sz=L++(([ix,sz,dy,sr]:List Nat).take 2).flatMap enc:=by simp [List.flatMap_cons]
    rw [e] at H;exact H
   clear H y m;go_wp2;refine ⟨?rel,?measure⟩;case rel=>exact ⟨2,by omega,rfl,Y⟩
   case measure=>simp [intOf]
  ·have m:(dy:Int) % 18446744073709551616=dy:=by omega
   have y:wr.cell? ⟨M.heap.size,2,none⟩=some (.int .i64 (dy:Int)):=by rw [cell_of_row wr _ 2 _ _ _ (HQ.out _ _ HR.out)];rfl
   have HC:=lh (HR.out.step (P:=prog) (fun J G _=>yb4 g base J _ dy wr G om yaX));go_wp2_with fail;refine HC.out.mono ?_;rintro e Z ⟨rfl,H⟩
   have Y:Hid (Wc g base N K (L++(([ix,sz,dy,sr]:List Nat).take 3).flatMap enc) Z):=by
    show Wc _ _ _ _ _ _;have e:L++(([ix,sz,dy,sr]:List Nat).take 2).flatMap enc++enc dy=L++(([ix,sz,dy,sr]:List Nat).take 3).flatMap enc:=by simp [List.flatMap_cons]
    rw [e] at H;exact H
   clear H y m;go_wp2;refine ⟨?rel,?measure⟩;case rel=>exact ⟨3,by omega,rfl,Y⟩
   case measure=>simp [intOf]
  ·have m:(sr:Int) % 18446744073709551616=sr:=by omega
   have y:wr.cell? ⟨M.heap.size,3,none⟩=some (.int .i64 (sr:Int)):=by rw [cell_of_row wr _ 3 _ _ _ (HQ.out _ _ HR.out)];rfl
   have HC:=lh (HR.out.step (P:=prog) (fun J G _=>yb4 g base J _ sr wr G om yaX));go_wp2_with fail;refine HC.out.mono ?_;rintro e Z ⟨rfl,H⟩
   have Y:Hid (Wc g base N K (L++(([ix,sz,dy,sr]:List Nat).take 4).flatMap enc) Z):=by
    show Wc _ _ _ _ _ _;have e:L++(([ix,sz,dy,sr]:List Nat).take 3).flatMap enc++enc sr=L++(([ix,sz,dy,sr]:List Nat).take 4).flatMap enc:=by simp [List.flatMap_cons]
    rw [e] at H;exact H
   clear H y m;go_wp2;refine ⟨?rel,?measure⟩;case rel=>exact ⟨4,by omega,rfl,Y⟩
   case measure=>simp [intOf]
  ·go_wp2
   go_end0
   have h:=HP.out _ _ (al.out _ _ HR.out)
   have e:L++(([ix,sz,dy,sr]:List Nat).take 4).flatMap enc=bs++encSg hd vt s ix sz dy sr:=by
    rw [aj.out];simp [encSg,List.flatMap_cons]
   rw [e] at h;exact h
theorem encSg_len (hd vt ix sz dy sr:Nat) (s:ByteArray) (hs:s.size=32):(encSg hd vt s ix sz dy sr).length<=92:=by
 unfold encSg;have h1:=ybx hd;have h2:=ybx vt;have L:=ybx ix;have H:=ybx sz;have K:=ybx dy;have G:=ybx sr;have J:=ybS s;simp only [List.length_append];omega
theorem yb9 {r:Rcp} {ps qs rs:List ByteArray} (h:vaB r ps qs rs=true):(0<=r.hd/\r.hd<=11)/\(0<=r.vt/\r.vt<=11)/\r.s.size=32/\(0<=r.ix/\r.ix<=15)/\(1<=r.sz/\r.sz<=65536)/\(0<=r.dy/\r.dy<=999999)/\(0<=r.sr/\r.sr<=1099511627776)/\(1<=r.ct/\r.ct<=256)/\(0<=r.pl/\r.pl<=r.ct - 1)/\r.rt.size=32/\(ps.length<=8/\∀z∈ps,z.size=32)/\(rs.length<=8/\∀z∈rs,z.size=32)/\(qs.length<=300/\∀z∈qs,z.size=32)/\(0<=r.si/\r.si<=255):=by
 unfold vaB pvB rgB arB at h;simp only [Bool.and_eq_true,decide_eq_true_eq] at h;obtain ⟨W,⟨Y,a3,T,a5⟩,a6,Z,U,a9,O,⟨H,M⟩,⟨N,G⟩,⟨J,K⟩,L⟩:=h;exact ⟨W,Y,a3,T,a5,a6,Z,U,a9,O,⟨H,yck.1 M⟩,⟨N,yck.1 G⟩,⟨J,yck.1 K⟩,L⟩
theorem ydo (r:Rcp) (ps qs rs:List ByteArray) (B:Nat) (w:World) (hx:RcIn w B r ps qs rs) (hB:B<=w.heap.size) (af:r.pa.n<=1000000) (aa:r.pb.n<=1000000) (ae:r.pc.n<=1000000):Calls prog 45 #[.agg #[.int .i64 r.hd,.int .i64 r.vt,.string r.s,.int .i64 r.ix,.int .i64 r.sz,.int .i64 r.dy,.int .i64 r.sr,.int .i64 r.ct,.int .i64 r.pl,.string r.rt,.slice r.pa.a r.pa.n r.pa.c,.int .i64 r.si,.slice r.pb.a r.pb.n r.pb.c,.slice r.pc.a r.pc.n r.pc.c]] w fun e G=>e= .returned (.bool (vaB r ps qs rs))/\Below w.heap.size w G:=by
 have HX:Hid (∀V,Below w.heap.size w V->RcIn V B r ps qs rs):=fun V H=>hx.up H hB;have M:=lh (fun W=>ybV r.hd 0 11 W);have Z:=lh (fun W=>good_any r.vt r.s r.ix r.sz W);have H2:=lh (fun W=>ybV r.dy 0 999999 W);have T:=lh (fun W=>ybV r.sr 0 1099511627776 W);have U:=lh (fun W=>ybV r.ct 1 256 W);have O:=lh (fun W=>ybV r.pl 0 (r.ct - 1) W);have K:=lh (fun W=>ybV r.si 0 255 W);have N:Hid (∀V,Below w.heap.size w V->Calls prog 94 #[.slice r.pa.a r.pa.n r.pa.c,.int .i64 8] V fun e G=>e= .returned (.bool (arB ps 8))/\V=G):=fun V H=>ydS _ _ _ B 8 ps V (HX.out V H).1 af;have Y:Hid (∀V,Below w.heap.size w V->Calls prog 94 #[.slice r.pc.a r.pc.n r.pc.c,.int .i64 8] V fun e G=>e= .returned (.bool (arB rs 8))/\V=G):=fun V H=>ydS _ _ _ B 8 rs V (HX.out V H).2.2 ae;have z:Hid (∀V,Below w.heap.size w V->Calls prog 94 #[.slice r.pb.a r.pb.n r.pb.c,.int .i64 300] V fun e G=>e= .returned (.bool (arB qs 300))/\V=G):=fun V H=>ydS _ _ _ B 300 qs V (HX.out V H).2.1 aa;have J:Hid (Below w.heap.size w ((w.alloc (.cells #[.int .i64 r.hd,.int .i64 r.vt,.string r.s,.int .i64 r.ix,.int .i64 r.sz,.int .i64 r.dy,.int .i64 r.sr,.int .i64 r.ct,.int .i64 r.pl,.string r.rt,.slice r.pa.a r.pa.n r.pa.c,.int .i64 r.si,.slice r.pb.a r.pb.n r.pb.c,.slice r.pc.a r.pc.n r.pc.c] 35)).alloc (.cells #[.int .i64 r.vt,.string r.s,.int .i64 r.ix,.int .i64 r.sz] 158))):=bl.alloc sI _;have HB1:Hid (Below w.heap.size w (w.alloc (.cells #[.int .i64 r.hd,.int .i64 r.vt,.string r.s,.int .i64 r.ix,.int .i64 r.sz,.int .i64 r.dy,.int .i64 r.sr,.int .i64 r.ct,.int .i64 r.pl,.string r.rt,.slice r.pa.a r.pa.n r.pa.c,.int .i64 r.si,.slice r.pb.a r.pb.n r.pb.c,.slice r.pc.a r.pc.n r.pc.c] 35))):=bl;unfold vaB;clear hx hB
 revert M Z H2 T U O K N Y z
 cases rgB r.hd 0 11
 rotate_left
 cases pvB r.vt r.s r.ix r.sz
 rotate_left
 cases rgB r.dy 0 999999
 rotate_left
 cases rgB r.sr 0 1099511627776
 rotate_left
 cases h4:rgB r.ct 1 256
 rotate_left
 cases rgB r.pl 0 (r.ct - 1)
 rotate_left
 cases L:decide (r.rt.size=32)
 rotate_left
 cases arB ps 8
 rotate_left
 cases rgB r.si 0 255
 rotate_left
 cases arB qs 300
 rotate_left
 cases arB rs 8
 rotate_left
 all_goals
  intro M Z H2 T U O K N Y z
  try (have ag:=of_decide_eq_true h4;clear h4)
  try (have ac:(((r.rt).size:Nat):Int)=32:=(by have:=of_decide_eq_true L;omega))
  try (have ac:=size32 r.rt L)
  try (have ah:=ydR r.rt L)
  try clear L
  go_enter func45,ntmps45
  go_wp2_with (first
   |(go_at_call 92;(with_reducible refine (M.out _).mono ?_);rintro e w1 ⟨rfl,rfl⟩)
   |(go_at_call 92;(with_reducible refine (H2.out _).mono ?_);rintro e w1 ⟨rfl,rfl⟩)
   |(go_at_call 92;(with_reducible refine (T.out _).mono ?_);rintro e w1 ⟨rfl,rfl⟩)
   |(go_at_call 92;(with_reducible refine (U.out _).mono ?_);rintro e w1 ⟨rfl,rfl⟩)
   |(go_at_call 92;(with_reducible refine (O.out _).mono ?_);rintro e w1 ⟨rfl,rfl⟩)
   |(go_at_call 92;(with_reducible refine (K.out _).mono ?_);rintro e w1 ⟨rfl,rfl⟩)
   |(go_at_call 93;(with_reducible refine (Z.out _).mono ?_);rintro e w1 ⟨rfl,rfl⟩)
   |(go_at_call 94;(with_reducible refine (N.out _ J.out).mono ?_);rintro e w1 ⟨rfl,rfl⟩)
   |(go_at_call 94;(with_reducible refine (Y.out _ J.out).mono ?_);rintro e w1 ⟨rfl,rfl⟩)
   |(go_at_call 94;(with_reducible refine (z.out _ J.out).mono ?_);rintro e w1 ⟨rfl,rfl⟩))
  go_ret;exact ⟨ybo yaO,by first |exact J.out |exact HB1.out⟩
theorem isToken_any (s:ByteArray) (ix:Int) (no an:ByteArray) (w:World):Calls prog 38 #[.agg #[.string s,.int .i64 ix,.string no,.string an]] w fun e U=>e= .returned (.bool (tkB s ix no an))/\Below w.heap.size w U:=by
 obtain ⟨H,G⟩:∃H:World,H=w.alloc (.cells #[.string s,.int .i64 ix,.string no,.string an] 37):=⟨_,rfl⟩
 have L:Below w.heap.size w H:=by rw [G];exact bl
 have M:H.heap[w.heap.size]? =some (.cells #[.string s,.int .i64 ix,.string no,.string an] 37 (0,0)):=by rw [G];exact zy w _
 have HC:Hid (∀V,Below H.heap.size H V->V.cell? ⟨w.heap.size,2,none⟩=some (.string no)/\V.cell? ⟨w.heap.size,3,none⟩=some (.string an)):=fun V W=>by
  have h:=(W.block _ (lb M)).trans M;exact ⟨by rw [cell_of_row V _ 2 _ _ _ h];rfl,by rw [cell_of_row V _ 3 _ _ _ h];rfl⟩
 have K:=lh (isID_any s ix H);have HB1:=lh L;have HWE:=lh G;rw [G] at K;unfold tkB;clear L M G
 revert K
 cases idB s ix
 rotate_left
 cases h1:decide (no.size=32)
 rotate_left
 cases h2:decide (an.size=32)
 rotate_left
 all_goals
  intro K
  try (have O:(((no).size:Nat):Int)=32:=(by have:=of_decide_eq_true h1;omega))
  try (have O:=size32 no h1)
  try (have Y:=ydR no h1)
  try clear h1
  try (have N:(((an).size:Nat):Int)=32:=(by have:=of_decide_eq_true h2;omega))
  try (have N:=size32 an h2)
  try (have Z:=ydR an h2)
  try clear h2
  go_enter func38,ntmps38
  go_wp2_with (first
   |(go_at_call 85;(with_reducible refine K.out.mono ?_);rintro e z ⟨rfl,J⟩;rw [<-HWE.out] at J;(have T:=lh (bt HB1.out J));obtain ⟨q2,q3⟩:=HC.out _ J;clear J))
  go_ret;exact ⟨ybo yaO,T.out⟩
theorem tkB_facts {s:ByteArray} {ix:Int} {no an:ByteArray} (h:tkB s ix no an=true):s.size=32/\(0<=ix/\ix<=15)/\no.size=32/\an.size=32:=by
 unfold tkB idB at h;simp only [Bool.and_eq_true,decide_eq_true_eq] at h;exact ⟨h.1.1,h.1.2,h.2.1,h.2.2⟩
open Go.RowKit
theorem token_any (s:ByteArray) (ix:Int) (no an:ByteArray) (w:World):Calls prog 46 #[.agg #[.string s,.int .i64 ix,.string no,.string an]] w fun e G=>e= .returned (.bool (tkB s ix no an))/\Below w.heap.size w G:=by
 have HR:Hid (tkB s ix no an=decide ((s.size=32/\0<=ix/\ix<=15)/\no.size=32/\an.size=32)):=by
  show _=_;unfold tkB idB;simp only [Bool.decide_and,Bool.and_assoc]
 by_cases h0:((s.size:Nat):Int)=32
 ·skip
  by_cases h1:0<=ix
  ·skip
   by_cases h2:ix < 16
   ·skip
    by_cases M:((no.size:Nat):Int)=32
    ·skip
     by_cases L:((an.size:Nat):Int)=32
     ·skip
      go_enter func46,ntmps46;go_wp2;go_ret;exact ⟨ybo yaN,bl⟩
     ·have H:(((an.size:Nat):Int)==32)=false:=by simp;omega
      go_enter func46,ntmps46;go_wp2;go_ret;exact ⟨ybo yaN,bl⟩
    ·have K:(((no.size:Nat):Int)==32)=false:=by simp;omega
     go_enter func46,ntmps46;go_wp2;go_ret;exact ⟨ybo yaN,bl⟩
   ·skip
    go_enter func46,ntmps46;go_wp2;go_ret;exact ⟨ybo yaN,bl⟩
  ·skip
   go_enter func46,ntmps46;go_wp2;go_ret;exact ⟨ybo yaN,bl⟩
 ·have J:(((s.size:Nat):Int)==32)=false:=by simp;omega
  go_enter func46,ntmps46;go_wp2;go_ret;exact ⟨ybo yaN,bl⟩
