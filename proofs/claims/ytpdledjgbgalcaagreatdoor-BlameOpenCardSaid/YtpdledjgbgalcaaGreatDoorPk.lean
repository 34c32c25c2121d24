import Derived.Test.YtpdledjgbgalcaaGreatDoorS3
namespace Go.Proofs.YtpdledjgbgalcaaGreatDoor
set_option maxRecDepth 100000
set_option maxHeartbeats 16000000
open Go.RowKit Go.Lib Go.Proofs.Tryz
set_option linter.unusedVariables false
set_option linter.unusedSimpArgs false
abbrev cA (d q:Int) (r:Rcp) (st:ByteArray) (ix:Int) (no an:ByteArray):Array Value:=#[.int .i64 d,.int .i64 q,.int .i64 r.hd,.int .i64 r.vt,.string r.s,.int .i64 r.ix,.int .i64 r.sz,.int .i64 r.dy,.int .i64 r.sr,.int .i64 r.ct,.int .i64 r.pl,.string r.rt,.slice r.pa.a r.pa.n r.pa.c,.int .i64 r.si,.slice r.pb.a r.pb.n r.pb.c,.slice r.pc.a r.pc.n r.pc.c,.string st,.int .i64 ix,.string no,.string an]
abbrev zA:Array Value:=#[.int .i64 0,.int .i64 0,.int .i64 0,.int .i64 0,.string ⟨#[]⟩,.int .i64 0,.int .i64 0,.int .i64 0,.int .i64 0,.int .i64 0,.int .i64 0,.string ⟨#[]⟩,.slice none 0 0,.int .i64 0,.slice none 0 0,.slice none 0 0,.string ⟨#[]⟩,.int .i64 0,.string ⟨#[]⟩,.string ⟨#[]⟩]
theorem Tryz.sizeAc:(prog.info? 39).map (·.size)=some 20:=by kernel_rfl
theorem ydJ (d q:Int) (r:Rcp) (st:ByteArray) (ix:Int) (no an:ByteArray):(prog.info? 39).map (·.size)=some (cA d q r st ix no an).size:=Tryz.sizeAc
theorem ycX:(prog.info? 39).map (·.size)=some zA.size:=Tryz.sizeAc
theorem ydV (d q:Int) (r:Rcp) (st:ByteArray) (ix:Int) (no an:ByteArray):(cA d q r st ix no an).all (·.oneCell')=true:=by
 rw [Array.all_eq_true'];intro x G;simp only [cA,List.mem_toArray,List.mem_cons,List.not_mem_nil,or_false] at G;rcases G with rfl |rfl |rfl |rfl |rfl |rfl |rfl |rfl |rfl |rfl |rfl |rfl |rfl |rfl |rfl |rfl |rfl |rfl |rfl |rfl<;>rfl
theorem ydx:zA.all (·.oneCell')=true:=by
 rw [Array.all_eq_true'];intro x G;simp only [zA,List.mem_toArray,List.mem_cons,List.not_mem_nil,or_false] at G;rcases G with rfl |rfl |rfl |rfl |rfl |rfl |rfl |rfl |rfl |rfl |rfl |rfl |rfl |rfl |rfl |rfl |rfl |rfl |rfl |rfl<;>rfl
def dT1 (bs:List Int):List Int × RS:=rY bs bs.length (0,0)
def dT2 (bs:List Int):(ByteArray × Int) × RS:=rId bs (dT1 bs).2
def dT3 (bs:List Int):ByteArray × RS:=rS bs (dT2 bs).2
def dT4 (bs:List Int):ByteArray × RS:=rS bs (dT3 bs).2
def okT (bs:List Int):Bool:=decide ((dT4 bs).2.2=0/\¬(dT4 bs).2.1 < bs.length)&&okR (dT1 bs).1
theorem rY_rng {bs:List Int} {m:Nat} {s:RS} (h:∀b∈bs,0<=b/\b < 256):∀b∈(rY bs m s).1,0<=b/\b < 256:=by
 have H:∀k p,∀b∈(tkL bs k p).1,0<=b/\b < 256:=fun k p b G=>by
  unfold tkL at G
  split at G
  ·cases G
  ·exact h b (List.mem_of_mem_drop (List.mem_of_mem_take G))
 have J:∀b∈(blkL bs m s.1).1,0<=b/\b < 256:=fun b G=>by
  unfold blkL at G
  split at G
  ·exact H _ _ b G
  ·cases G
 intro b G;unfold rY rV at G
 split at G
 ·split at G
  ·exact J b G
  ·cases G
 ·cases G
theorem rY_len {bs:List Int} {m:Nat} {s:RS}:(rY bs m s).1.length<=bs.length:=by
 have G:∀k p,(tkL bs k p).1.length<=bs.length:=fun k p=>by
  unfold tkL
  split
  ·simp
  ·simp only [List.length_take,List.length_drop];omega
 have H:(blkL bs m s.1).1.length<=bs.length:=by
  unfold blkL
  split
  ·exact G _ _
  ·simp
 unfold rY rV
 split
 ·split
  ·exact H
  ·simp
 ·simp
def zRcp:Rcp:=⟨0,0,⟨#[]⟩,0,0,0,0,0,0,⟨#[]⟩,⟨none,0,0⟩,0,⟨none,0,0⟩,⟨none,0,0⟩⟩
theorem yce {P:Program} {w:World} {ops:Array Oper} {J:List Oper} {o:Oper} {a:Act} {Q:Exit->Act->World->Prop} (M:o.guard=none) (K:TypeId) (x y:Operand) (W:o.op= .store K x y)
 (b:Nat) (t:TypeId) (k:Nat) (cs:Array Value) (G H:Value) (N:a.eval x= .pointer (some ⟨b,k,none⟩)) (T:a.eval y= .agg #[G,H]) (L:w.heap[b]? =some (.cells cs t (0,0))) (Z:k+1 < cs.size) (hi:(P.info? K).map (·.size)=some 2)
 (h1:(#[G,H]:Array Value).all (·.oneCell')=true)
 (h:∀w',Hid (w'.heap[b]? =some (.cells ((cs.setIfInBounds k G).setIfInBounds (k+1) H) t (0,0)))->Hid (But (fun k=>k=b) w w')->wpList P ops Q J (a.put o.dst undef) w'):wpList P ops Q (o::J) a w:=by
 refine wpList_store_mid M K x y W b k #[G,H] N T ?_ hi h1 ?_
 ·intro j hj;have Y:j < 2:=hj;refine ⟨?_,frozen_of_row w b _ _ _ L⟩;rw [cell_of_row w b _ _ _ _ L,Array.getElem?_eq_getElem om];rfl
 ·have O:=heap_setCell_same w b k _ _ G L;have U:=heap_setCell_same _ b (k+1) _ _ H O;exact h _ U (But.setCell (p:=fun k=>k=b) (x:=⟨b,k+1,none⟩) (But.setCell (p:=fun k=>k=b) (x:=⟨b,k,none⟩) (But.refl _ _) (.inl rfl) _) (.inl rfl) _)
theorem yc7 {w:World} {b:Nat} {t:TypeId} {d q:Int} {R:Rcp} {st:ByteArray} {ix:Int} {no an:ByteArray} (h:w.heap[b]? =some (.cells (cA d q R st ix no an) t (0,0))):w.rangeAt b 0 (cA d q R st ix no an).toList:=fun j v G=>by
 rw [Nat.zero_add,cell_of_row w b j _ _ _ h,<-Array.getElem?_toList];exact G
theorem cA17 (d q:Int) (R:Rcp) (st:ByteArray) (ix:Int) (no an:ByteArray):16+1 < (cA d q R st ix no an).size:=by show 17 < 20;decide
theorem sizeAL (d q:Int) (R:Rcp) (st:ByteArray) (ix:Int) (no an:ByteArray):(prog.info? 39).map (·.size)=some (cA d q R st ix no an).toList.length:=Tryz.sizeAc
def RDU (body:List Int) (R:Rcp) (er:Int) (base:Nat) (w':World):Prop:=
 (okR body=true/\er=0/\(∃pa pb pc,R=rcV body pa pb pc)/\RcO w' base R (rc5 body).1 (rc9 body).1 (rcA body).1)∨(okR body=false/\er=3)
theorem rd_uni {G:List Int} {w:World} {e:Ending} {H:World} (h:RDPost G w e H):∃R er,e= .returned (.tuple #[.agg (cR R),.int .i64 er])/\RDU G R er w.heap.size H/\Below w.heap.size w H:=by
 rcases h with ⟨h1,pa,pb,pc,h2,J,K⟩ |⟨h1,h2,J⟩
 ·exact ⟨_,0,h2,.inl ⟨h1,rfl,⟨pa,pb,pc,rfl⟩,J⟩,K⟩
 ·exact ⟨zRcp,3,h2,.inr ⟨h1,rfl⟩,J⟩
def DCPost (d q:Int) (bs:List Int) (w:World) (e:Ending) (w':World):Prop:=
 (okT bs=true/\∃pa pb pc,e= .returned (.tuple #[.agg (cA d q (rcV (dT1 bs).1 pa pb pc) (dT2 bs).1.1 (dT2 bs).1.2 (dT3 bs).1 (dT4 bs).1),.int .i64 0])/\RcO w' w.heap.size (rcV (dT1 bs).1 pa pb pc) (rc5 (dT1 bs).1).1 (rc9 (dT1 bs).1).1 (rcA (dT1 bs).1).1/\Below w.heap.size w w')
 ∨(okT bs=false/\e= .returned (.tuple #[.agg zA,.int .i64 3])/\Below w.heap.size w w')
def acP37:Array (Nat × Operand):=#[(0,.tmp 33),(1,.tmp 35),(2,.tmp 36)]
theorem acB37 (a:Act) (d q:Int) (R:Rcp) (h0:a.eval (.tmp 33)= .int .i64 d) (h1:a.eval (.tmp 35)= .int .i64 q) (h2:a.eval (.tmp 36)= .agg (cR R)):prog.built 39 (acP37.map fun (i,x)=>(i,a.eval x)).toList=some (cA d q R ⟨#[]⟩ 0 ⟨#[]⟩ ⟨#[]⟩):=by
 rw [Array.toList_map];show prog.built 39 [(0,a.eval (.tmp 33)),(1,a.eval (.tmp 35)),(2,a.eval (.tmp 36))]=_;rw [h0,h1,h2]
 kernel_rfl
theorem yb3 {w:World} {b:Nat} {t:TypeId} {R:Rcp} (h:w.heap[b]? =some (.cells (cR R) t (0,0))):w.rangeAt b 0 (cR R).toList:=fun j v G=>by
 rw [Nat.zero_add,cell_of_row w b j _ _ _ h,<-Array.getElem?_toList];exact G
theorem ybJ (R:Rcp):(prog.info? 35).map (·.size)=some (cR R).toList.length:=Tryz.sizeRc
theorem dacc_no (dv sq k dy:Int) (pr:ByteArray) (A:Option Addr) (n c:Nat) (w:World) (K:k≠6):
 Calls prog 105 #[.agg #[.int .i64 dv,.int .i64 sq,.int .i64 k,.int .i64 dy,.slice A n c,.string pr]] w fun e J=>e= .returned (.tuple #[.agg zA,.int .i64 1])/\Below w.heap.size w J:=by
 have L:(k != 6)=true:=by simp [K]
 obtain ⟨H,G⟩:∃H:World,H=(w.alloc (.cells #[.int .i64 dv,.int .i64 sq,.int .i64 k,.int .i64 dy,.slice A n c,.string pr] 55)).alloc (.cells zA 39):=⟨_,rfl⟩
 have HB1:Hid (Below w.heap.size w H):=by show Below _ _ _;rw [G];exact bl.alloc sI _
 have HG3:Hid (H.heap[w.heap.size+1]? =some (.cells zA 39 (0,0))):=by
  show _=_;rw [G];have:=zy (w.alloc (.cells #[.int .i64 dv,.int .i64 sq,.int .i64 k,.int .i64 dy,.slice A n c,.string pr] 55)) (.cells zA 39);simpa using this
 have HWE:=lh G;clear G;go_enter func105,ntmps105
 go_wp2_with (first
  |((with_reducible refine ybc (o:=⟨none,_,_,_,_,_⟩) rfl 39 (.tmp 2) (.tmp 13) rfl (w.heap.size+1) 39 _ _ rfl rfl ya0 ycX rfl ydx ?_);intro M HG7 HB7))
 rw [<-HWE.out] at HB7;refine bodyPost_ret (ybr rfl _ _ _ _ _ _ _ rfl HG7.out underlying39 rfl ycX) rfl ⟨rfl,HB1.out.trans (HB7.out.below HB1.out.size (fun i hi=>by subst hi;omega))⟩
theorem dacc_num (dv sq dy:Int) (pr:ByteArray) (A:Option Addr) (n c:Nat) (w:World) (L:numB dv sq=false):
 Calls prog 105 #[.agg #[.int .i64 dv,.int .i64 sq,.int .i64 6,.int .i64 dy,.slice A n c,.string pr]] w fun e K=>e= .returned (.tuple #[.agg zA,.int .i64 3])/\Below w.heap.size w K:=by
 have J:=lh (fun W=>ycT dv sq W);rw [L] at J;obtain ⟨H,G⟩:∃H:World,H=(w.alloc (.cells #[.int .i64 dv,.int .i64 sq,.int .i64 6,.int .i64 dy,.slice A n c,.string pr] 55)).alloc (.cells zA 39):=⟨_,rfl⟩
 have HB1:Hid (Below w.heap.size w H):=by show Below _ _ _;rw [G];exact bl.alloc sI _
 have HG3:Hid (H.heap[w.heap.size+1]? =some (.cells zA 39 (0,0))):=by
  show _=_;rw [G];have:=zy (w.alloc (.cells #[.int .i64 dv,.int .i64 sq,.int .i64 6,.int .i64 dy,.slice A n c,.string pr] 55)) (.cells zA 39);simpa using this
 have HWE:=lh G;clear G;go_enter func105,ntmps105
 go_wp2_with (first
  |(go_at_call 37;(with_reducible refine (J.out _).mono ?_);rintro e w1 ⟨rfl,rfl⟩)
  |((with_reducible refine ybc (o:=⟨none,_,_,_,_,_⟩) rfl 39 (.tmp 2) (.tmp 20) rfl (w.heap.size+1) 39 _ _ rfl rfl ya0 ycX rfl ydx ?_);intro M HG7 HB7))
 rw [<-HWE.out] at HB7;refine bodyPost_ret (ybr rfl _ _ _ _ _ _ _ rfl HG7.out underlying39 rfl ycX) rfl ⟨rfl,HB1.out.trans (HB7.out.below HB1.out.size (fun i hi=>by subst hi;omega))⟩
theorem dacc_any (dv sq dy:Int) (pr:ByteArray) (A:Option Addr) (n c B:Nat) (bs:List Int) (w:World) (hN:numB dv sq=true) (hx:Sl fB w B A n bs) (hB:B<=w.heap.size) (hn:n<=1000000) (O:∀b∈bs,0<=b/\b < 256):
 Calls prog 105 #[.agg #[.int .i64 dv,.int .i64 sq,.int .i64 6,.int .i64 dy,.slice A n c,.string pr]] w (DCPost dv sq bs w):=by
 have hl:bs.length=n:=hx.1;have aF:(dT1 bs).2.1<=n:=rY_le hl (Nat.zero_le _);have aq:(dT2 bs).2.1<=n:=rId_le hl aF;have aM:(dT3 bs).2.1<=n:=rS_le hl aq;have ay:=lh (fun W=>ycT dv sq W);rw [hN] at ay;obtain ⟨U,L⟩:∃U:World,U=(w.alloc (.cells #[.int .i64 dv,.int .i64 sq,.int .i64 6,.int .i64 dy,.slice A n c,.string pr] 55)).alloc (.cells zA 39):=⟨_,rfl⟩
 have ap:Below w.heap.size w U:=by rw [L];exact bl.alloc sI _
 have aR:U.heap.size=w.heap.size+1+1:=by rw [L];simp
 have aW:U.heap[w.heap.size]? =some (.cells #[.int .i64 dv,.int .i64 sq,.int .i64 6,.int .i64 dy,.slice A n c,.string pr] 55 (0,0)):=by rw [L,Below.heap_alloc _ _ _ sI];exact zy w _
 have aT:U.heap[w.heap.size+1]? =some (.cells zA 39 (0,0)):=by
  rw [L];have:=zy (w.alloc (.cells #[.int .i64 dv,.int .i64 sq,.int .i64 6,.int .i64 dy,.slice A n c,.string pr] 55)) (.cells zA 39);simpa using this
 have aE:=lh (yb9 A n c bs U ((hx.up ap hB).more' (lT hB ap.size)) hn);have HB1:=lh ap;have HS1:=lh aR;have HGE:=lh aW;have HG3:=lh aT;have HWE:=lh L;rw [L] at aE
 have H1:Hid (∀g G c1 V,n<=c1->RdS g G n c1 bs (0,0) V->Calls prog 171 #[.pointer (some ⟨g,0,none⟩),.int .i64 n] V (RYPost g G n c1 bs (dT1 bs).1 (dT1 bs).2 V)):=fun g G c1 V hc h=>by
  have:=ry_any g G n c1 bs (0,0) n hn V h ⟨O,hn,hc⟩ (Nat.zero_le _);unfold dT1;rw [hl];exact this
 have H2:Hid (∀g G c1 V,n<=c1->RdS g G n c1 bs (dT1 bs).2 V->Calls prog 170 #[.pointer (some ⟨g,0,none⟩)] V (RPost g G n c1 bs (.agg #[.string (dT2 bs).1.1,.int .i64 (dT2 bs).1.2]) (dT2 bs).2 V)):=fun g G c1 V hc h=>rid_any g G n c1 bs _ V h ⟨O,hn,hc⟩ aF;have H3:Hid (∀g G c1 V,n<=c1->RdS g G n c1 bs (dT2 bs).2 V->Calls prog 172 #[.pointer (some ⟨g,0,none⟩)] V (RPost g G n c1 bs (.string (dT3 bs).1) (dT3 bs).2 V)):=fun g G c1 V hc h=>rs_any g G n c1 bs _ V h ⟨O,hn,hc⟩ aq;have H4:Hid (∀g G c1 V,n<=c1->RdS g G n c1 bs (dT3 bs).2 V->Calls prog 172 #[.pointer (some ⟨g,0,none⟩)] V (RPost g G n c1 bs (.string (dT4 bs).1) (dT4 bs).2 V)):=fun g G c1 V hc h=>rs_any g G n c1 bs _ V h ⟨O,hn,hc⟩ aM;have HBd:Hid (∀b∈(dT1 bs).1,0<=b/\b < 256):=rY_rng O;have aJ:Hid ((dT1 bs).1.length<=1000000):=by show _<=_;have:=rY_len (bs:=bs) (m:=bs.length) (s:=(0,0));unfold dT1;omega
 have J:Hid (okT bs=(decide ((dT4 bs).2.2=0/\¬(dT4 bs).2.1 < n)&&okR (dT1 bs).1)):=by show okT bs=_;unfold okT;rw [hl]
 unfold DCPost;generalize dT1 bs=R1 at*;generalize dT2 bs=R2 at*;generalize dT3 bs=R3 at*;generalize dT4 bs=R4 at*;obtain ⟨aZ,s1⟩:=R1;obtain ⟨⟨st,ix⟩,s2⟩:=R2;obtain ⟨no,s3⟩:=R3;obtain ⟨an,s4⟩:=R4;dsimp only at H1 H2 H3 H4 HBd aJ J ⊢;have a0:n - 0=n:=Nat.sub_zero n
 have aN:Hid (∀g G c1 V,RdS g G n c1 bs (0,0) V->Calls prog 83 #[.pointer (some ⟨g,0,none⟩)] V fun e w'=>e= .returned (.int .i64 n)/\Below V.heap.size V w'):=fun g G c1 V h=>by
  obtain ⟨⟨pv,h1⟩,_⟩:=h;have:=left_any g G n c1 0 pv 0 V h1 (Nat.zero_le _) hn;simpa using this
 clear hx hB O hl aF aq aM ap aR aW aT L hN a0;go_enter func105,ntmps105
 go_upto_region 8 with (first
  |(go_at_call 37;(with_reducible refine (ay.out _).mono ?_);rintro e w1 ⟨rfl,rfl⟩)
  |(go_at_call 81;(with_reducible refine aE.out.mono ?_);rintro e V0 ⟨g,G,c1,rfl,r0,x0,ax,az,aS,aD⟩
    rw [<-HWE.out] at ax az aD;have D0:Hid (RdS g G n c1 bs (0,0) V0):=⟨⟨_,r0⟩,x0⟩;have ag:=lh aS;have ah:=lh ax;have aL:=lh az;have aV:=lh aD
    clear r0 x0 ax az aS aD)
  |(go_at_call 83;(with_reducible refine (aN.out g G c1 _ D0.out).mono ?_);rintro e V1 ⟨rfl,b⟩
    have D1:=lh (D0.out.on b);have B1:=lh b
    clear b)
  |(go_at_call 171;(with_reducible refine (H1.out g G c1 _ ag.out D1.out).mono ?_);rintro e V2 ⟨Ad,kd,cd,rfl,ho,r,b⟩
    have D2:=lh r;have B2:=lh b;have aa:=ho.slH;have a1:=lh (rdec_any Ad kd cd V2.heap.size aZ V2 aa nl (by have h1:=aa.1;have h2:=aJ.out;omega) HBd.out)
    clear ho r b aa)
  |(go_at_call 174;(with_reducible refine a1.out.mono ?_);rintro e H h3
    obtain ⟨R,er,rfl,hu,hb⟩:=rd_uni h3;have HU:=lh hu;have B3:=lh hb
    have au:Hid (Below w.heap.size w H):=by
     have h1:Below w.heap.size w V0:=bt HB1.out aL.out;have h2:Below w.heap.size w V1:=bt h1 B1.out;have h3:Below w.heap.size w V2:=h2.trans (B2.out.below h2.size (fun i hi=>by subst hi;have h4:=ah.out;have h5:=HS1.out;omega));exact bt h3 hb
    have D3:=lh (D2.out.on hb);have ar:Below U.heap.size U V1:=bt aL.out B1.out
    have aB:H.heap[w.heap.size]? =some (.cells #[.int .i64 dv,.int .i64 sq,.int .i64 6,.int .i64 dy,.slice A n c,.string pr] 55 (0,0)):=by
     have h1:=(ar.block _ (lb HGE.out)).trans HGE.out;have h2:=(B2.out.block _ (lb h1) (by have h4:=ah.out;have h5:=HS1.out;omega)).trans h1;exact (hb.block _ (lb h2)).trans h2
    have ao:Hid (H.heap[w.heap.size+1]? =some (.cells zA 39 (0,0))):=by
     have h1:=(ar.block _ (lb HG3.out)).trans HG3.out;have h2:=(B2.out.block _ (lb h1) (by have h4:=ah.out;have h5:=HS1.out;omega)).trans h1;exact (hb.block _ (lb h2)).trans h2
    have aC:=(zx H (.cells (cR R) tR) _ (lb aB)).trans aB;have e0:(H.alloc (.cells (cR R) tR)).cell? ⟨w.heap.size,0,none⟩=some (.int .i64 dv):=by rw [cell_of_row _ _ 0 _ _ _ aC];rfl
    have e1:(H.alloc (.cells (cR R) tR)).cell? ⟨w.heap.size,1,none⟩=some (.int .i64 sq):=by rw [cell_of_row _ _ 1 _ _ _ aC];rfl
    have aQ:Hid (((H.alloc (.cells (cR R) tR)).alloc (.cells zA 39)).heap[H.heap.size+1]? =some (.cells zA 39 (0,0))):=by
     have:=zy (H.alloc (.cells (cR R) tR)) (.cells zA 39);show _=_;simpa using this
    clear h3 hu hb aB aC ar)
  |(with_reducible refine ybl (o:=⟨none,.store tR (.tmp 5) (.tmp 30),_,_,_,_⟩) rfl tR (.tmp 5) (.tmp 30) rfl tR _ (cR R) rfl rfl (ycW R) rfl (cR_one R) ?_)
  |(with_reducible refine wpList_load_mid (op:=⟨some 36,_,_,_,_,_⟩) rfl tR (.tmp 5) rfl H.heap.size 0 rfl (cR R).toList _ (yb3 (zy H _)) underlying35 rfl (ybJ R) ?_)
  |(with_reducible refine ybi (o:=⟨some 37,_,_,_,_,_⟩) rfl 39 acP37 ya9 (cA dv sq R ⟨#[]⟩ 0 ⟨#[]⟩ ⟨#[]⟩) (acB37 _ dv sq R rfl rfl rfl) ?_)
  |((with_reducible refine ybc (o:=⟨none,_,_,_,_,_⟩) rfl 39 (.tmp 7) (.tmp 37) rfl (H.heap.size+1) 39 _ _ rfl rfl aQ.out (ydJ dv sq R ⟨#[]⟩ 0 ⟨#[]⟩ ⟨#[]⟩) rfl (ydV dv sq R ⟨#[]⟩ 0 ⟨#[]⟩ ⟨#[]⟩) ?_);intro Z aG aP))
 have ae:Below H.heap.size H Z:=(((Below.refl _ H).alloc nl (.cells (cR R) tR)).alloc sI (.cells zA 39)).trans (aP.out.below yba (fun i hi=>by subst hi;omega));have aY:=aG;have aO:g < H.heap.size:=D3.out.lt
 have D4:Hid (DT 39 Z Z g G n c1 bs s1 (H.heap.size+1) (cA dv sq R ⟨#[]⟩ 0 ⟨#[]⟩ ⟨#[]⟩)):=⟨D3.out.on ae,aG.out,But.refl _ _,by omega,fun a ha=>by
  have h1:=(aV.out a ha).2;have h2:V0.heap.size<=V1.heap.size:=B1.out.size;have h3:V1.heap.size<=V2.heap.size:=B2.out.size;have h4:=B3.out.size
  omega⟩
 have a7:Hid (Below w.heap.size w Z):=bt au.out ae;have a5:Hid (Z.heap[w.heap.size+1]? =some (.cells zA 39 (0,0))):=(ae.block _ (lb ao.out)).trans ao.out;have a2:=lh ae;have HGL:=lh aO;have aH:Hid (g < V2.heap.size):=D2.out.lt;have ak:Hid (w.heap.size+1+1<=g):=by show _<=_;have h2:=ah.out;have h3:=HS1.out;omega
 obtain ⟨X,hX⟩:∃X,X=H.heap.size+1:=⟨_,rfl⟩
 have a3:=lh hX;rw [<-hX] at D4 ⊢;clear ae aY aO D0 D1 aP aG e0 e1 H1 aN ay aE aQ aV hX
 go_upto_region 11 with (first
  |(go_at_call 170;(with_reducible refine (H2.out g G c1 _ ag.out D4.out.rd).mono ?_);rintro e V5 ⟨rfl,r,b⟩
    have D5:=lh (D4.out.read r b)
    clear r b)
  |((with_reducible refine yce (o:=⟨none,_,_,_,_,_⟩) rfl 31 (.tmp 41) (.tmp 39) rfl X 39 16 _ _ _ rfl rfl D5.out.pc (cA17 _ _ _ _ _ _ _) Tryz.sizePid (pid_one _ _) ?_);intro V6 aI HB6
    have D6:Hid (DT 39 Z V6 g G n c1 bs s2 X (cA dv sq R st ix ⟨#[]⟩ ⟨#[]⟩)):=D5.out.set aI.out HB6.out
    clear aI HB6)
  |(go_at_call 172;(with_reducible refine (H3.out g G c1 _ ag.out D6.out.rd).mono ?_);rintro e V7 ⟨rfl,r,b⟩
    have Y:=D6.out.read r b;have y:=zz V7 X 18 _ _ _ Y.pc;have z:=frozen_of_row V7 X 18 _ _ Y.pc;simp at y;have D7:Hid (DT 39 Z (V7.setCell ⟨X,18,none⟩ (.string no)) g G n c1 bs s3 X (cA dv sq R st ix no ⟨#[]⟩)):=Y.cell 18 (.string no)
    clear r b Y)
  |(go_at_call 172;(with_reducible refine (H4.out g G c1 _ ag.out D7.out.rd).mono ?_);rintro e V8 ⟨rfl,r,b⟩
    clear y z;have Y:=D7.out.read r b;have y:=zz V8 X 19 _ _ _ Y.pc;have z:=frozen_of_row V8 X 19 _ _ Y.pc;simp at y;have D8:Hid (DT 39 Z (V8.setCell ⟨X,19,none⟩ (.string an)) g G n c1 bs s4 X (cA dv sq R st ix no an)):=Y.cell 19 (.string an)
    clear r b Y))
 clear y z D4 D5 D6 D7;obtain ⟨VE,aX⟩:∃V:World,V=V8.setCell ⟨X,19,none⟩ (.string an):=⟨_,rfl⟩
 rw [<-aX] at D8 ⊢;clear aX;obtain ⟨⟨pv,aK⟩,aa⟩:=D8.out.rd;have af:=lh (yd4 g G n c1 _ pv _ VE aK)
 have aw:Hid (But (fun k=>k=g) H VE):=(But.of_below a2.out).trans D8.out.but (fun i hi=>by
  rcases hi with rfl |rfl
  ·exact .inl rfl
  ·exact .inr (by have:=a3.out;omega))
 have aA:Hid (Below w.heap.size w VE):=au.out.trans (aw.out.below au.out.size (fun i hi=>by have h2:=ak.out;subst hi;omega));have T:Hid (VE.heap[w.heap.size+1]? =some (.cells zA 39 (0,0))):=(aw.out.block _ (lb ao.out) (by have h2:=ak.out;omega)).trans ao.out;have HPC:=lh D8.out.pc;obtain ⟨p6,e6⟩:=s4;dsimp only at af J;obtain ⟨z,M⟩:∃z:Int,(if e6=0 then (if p6 < n then 3 else 0) else e6)=z:=⟨_,rfl⟩
 rw [M] at af;have ai:=lh HU.out;clear D8 aK aa HU
 by_cases am:z=0
 ·subst am
  have ac:decide (e6=0/\¬p6 < n)=true:=by
   by_cases h1:e6=0
   ·rw [if_pos h1] at M
    by_cases h2:p6 < n
    ·rw [if_pos h2] at M;cases M
    ·exact decide_eq_true ⟨h1,h2⟩
   ·rw [if_neg h1] at M;exact absurd M h1
  rw [ac,Bool.true_and] at J;clear M ac;rcases ai.out with ⟨N,rfl,⟨pa,pb,pc,hR⟩,aj⟩ |⟨N,rfl⟩
  ·rw [N] at J;have aU:=lh hR;have a4:=lh aj;clear N hR aj ai
   go_wp2_with (first
    |(go_at_call 142;(with_reducible refine af.out.mono ?_);rintro e w8 ⟨rfl,K⟩
      have B8:=lh K;have P8:Hid (w8.heap[X]? =some (.cells (cA dv sq R st ix no an) 39 (0,0))):=(K.block _ (lb HPC.out)).trans HPC.out;have Z8:=lh ((K.block _ (lb T.out)).trans T.out)
      clear K)
    |(with_reducible refine wpList_load_mid (op:=⟨some 62,_,_,_,_,_⟩) rfl 39 (.tmp 7) rfl X 0 rfl (cA dv sq R st ix no an).toList _ (yc7 P8.out) underlying39 rfl (sizeAL dv sq R st ix no an) ?_)
    |((with_reducible refine ybc (o:=⟨none,_,_,_,_,_⟩) rfl 39 (.tmp 2) (.tmp 62) rfl (w.heap.size+1) 39 _ _ rfl rfl Z8.out (ydJ dv sq R st ix no an) rfl (ydV dv sq R st ix no an) ?_);intro W7 HG7 HB7))
   refine bodyPost_ret (ybr rfl _ _ _ _ _ _ _ rfl HG7.out underlying39 rfl (ydJ dv sq R st ix no an)) rfl (.inl ⟨J.out,pa,pb,pc,by rw [<-aU.out];rfl,?_,?_⟩)
   ·rw [<-aU.out];have q1:=a4.out.but aw.out (fun k hk _ e=>by have:=aH.out;omega);have q2:=q1.on B8.out;have q3:=q2.but HB7.out (fun k hk _ e=>by have h1:=aH.out;have h2:=ak.out;omega);exact q3.low (by have h1:=aH.out;have h2:=ak.out;omega)
   ·have h1:=bt aA.out B8.out;exact h1.trans (HB7.out.below h1.size (fun i hi=>by subst hi;omega))
  ·rw [N] at J;clear N ai
   go_wp2_with (first
    |(go_at_call 142;(with_reducible refine af.out.mono ?_);rintro e w8 ⟨rfl,K⟩
      have B8:=lh K;have Z8:=lh ((K.block _ (lb T.out)).trans T.out)
      clear K)
    |((with_reducible refine ybc (o:=⟨none,_,_,_,_,_⟩) rfl 39 (.tmp 2) (.tmp 61) rfl (w.heap.size+1) 39 _ _ rfl rfl Z8.out ycX rfl ydx ?_);intro W7 HG7 HB7))
   refine bodyPost_ret (ybr rfl _ _ _ _ _ _ _ rfl HG7.out underlying39 rfl ycX) rfl (.inr ⟨J.out,rfl,?_⟩);have h1:=bt aA.out B8.out;exact h1.trans (HB7.out.below h1.size (fun i hi=>by subst hi;omega))
 ·have ac:decide (e6=0/\¬p6 < n)=false:=by
   by_cases h1:e6=0
   ·rw [if_pos h1] at M
    by_cases h2:p6 < n
    ·exact decide_eq_false (fun h=>h.2 h2)
    ·rw [if_neg h2] at M;exact absurd M.symm am
   ·exact decide_eq_false (fun h=>h1 h.1)
  rw [ac,Bool.false_and] at J;have a6:(z != 0)=true:=by simp [am]
  clear M ac am ai
  ·
   go_wp2_with (first
    |(go_at_call 142;(with_reducible refine af.out.mono ?_);rintro e w8 ⟨rfl,K⟩
      have B8:=lh K;have Z8:=lh ((K.block _ (lb T.out)).trans T.out)
      clear K)
    |((with_reducible refine ybc (o:=⟨none,_,_,_,_,_⟩) rfl 39 (.tmp 2) (.tmp 61) rfl (w.heap.size+1) 39 _ _ rfl rfl Z8.out ycX rfl ydx ?_);intro W7 HG7 HB7))
   refine bodyPost_ret (ybr rfl _ _ _ _ _ _ _ rfl HG7.out underlying39 rfl ycX) rfl (.inr ⟨J.out,rfl,?_⟩);have h1:=bt aA.out B8.out;exact h1.trans (HB7.out.below h1.size (fun i hi=>by subst hi;omega))
theorem texts_any (a b:Option Addr) (n c d:Nat) (ys:List ByteArray) (B:Nat) (w:World) (J:Sl fT w B a n ys) (M:Sl fT w B b n ys) (L:B<=w.heap.size) (hn:n<=1000000):
 Calls prog 107 #[.slice a n c,.slice b n d] w fun e U=>e= .returned (.bool true)/\Below w.heap.size w U:=by
 have T:=lh J;have N:=lh M;have HXN:Hid (ys.length=n):=J.1;have H:=lh L;clear J M L;go_enter func107,ntmps107;go_wp2
 go_loopw [5] (fun i wr=>∃k:Nat,k<=n/\i= .int .i64 k/\Hid (Below w.heap.size w wr)) (fun i _=>n - (intOf i).toNat)
 case atStart=>exact ⟨0,by omega,rfl,Below.refl _ _⟩
 case round=>
  obtain ⟨k,hk,rfl,HR⟩:=hrel
  by_cases hlt:k < n
  ·obtain ⟨b1,o1,x,rfl,_,K,z⟩:=(T.out.up HR.out H.out).2.at_ (k:=k) ya3;obtain ⟨b2,o2,O,rfl,_,G,Z⟩:=(N.out.up HR.out H.out).2.at_ (k:=k) ya3;obtain rfl:x=O:=by rw [K] at G;exact Option.some.inj G
   have W:(k:Int) < (n:Int):=by omega
   have Y:(0:Int)<=(k:Int):=by omega
   clear K G;go_wp2;go_quiet (fail);go_wp2;go_roundw;case rel=>exact ⟨k+1,by omega,by go_num,below_drewN HR.out _⟩
   case measure=>simp [intOf];omega
  ·obtain rfl:k=n:=by omega
   go_wp2;go_ret;exact ⟨rfl,HR.out⟩
theorem fields_any (r:Rcp) (pa pb pc:Hd) (w:World):
 Calls prog 106 #[.agg #[.int .i64 r.hd,.int .i64 r.vt,.string r.s,.int .i64 r.ix,.int .i64 r.sz,.int .i64 r.dy,.int .i64 r.sr,.int .i64 r.ct,.int .i64 r.pl,.string r.rt,.slice r.pa.a r.pa.n r.pa.c,.int .i64 r.si,.slice r.pb.a r.pb.n r.pb.c,.slice r.pc.a r.pc.n r.pc.c],.agg #[.int .i64 r.hd,.int .i64 r.vt,.string r.s,.int .i64 r.ix,.int .i64 r.sz,.int .i64 r.dy,.int .i64 r.sr,.int .i64 r.ct,.int .i64 r.pl,.string r.rt,.slice pa.a r.pa.n pa.c,.int .i64 r.si,.slice pb.a r.pb.n pb.c,.slice pc.a r.pc.n pc.c]] w fun e G=>e= .returned (.bool true)/\Below w.heap.size w G:=by
 go_enter func106,ntmps106;go_wp2;go_ret;exact ⟨rfl,bl.alloc sI _⟩
theorem same43_any (r:Rcp) (pa pb pc:Hd) (ps qs rs:List ByteArray) (B:Nat) (w:World) (h1:Sl fT w B r.pa.a r.pa.n ps/\Sl fT w B r.pb.a r.pb.n qs/\Sl fT w B r.pc.a r.pc.n rs) (h2:Sl fT w B pa.a r.pa.n ps/\Sl fT w B pb.a r.pb.n qs/\Sl fT w B pc.a r.pc.n rs) (hB:B<=w.heap.size) (hn:r.pa.n<=1000000/\r.pb.n<=1000000/\r.pc.n<=1000000):
 Calls prog 52 #[.agg #[.int .i64 r.hd,.int .i64 r.vt,.string r.s,.int .i64 r.ix,.int .i64 r.sz,.int .i64 r.dy,.int .i64 r.sr,.int .i64 r.ct,.int .i64 r.pl,.string r.rt,.slice r.pa.a r.pa.n r.pa.c,.int .i64 r.si,.slice r.pb.a r.pb.n r.pb.c,.slice r.pc.a r.pc.n r.pc.c],.agg #[.int .i64 r.hd,.int .i64 r.vt,.string r.s,.int .i64 r.ix,.int .i64 r.sz,.int .i64 r.dy,.int .i64 r.sr,.int .i64 r.ct,.int .i64 r.pl,.string r.rt,.slice pa.a r.pa.n pa.c,.int .i64 r.si,.slice pb.a r.pb.n pb.c,.slice pc.a r.pc.n pc.c]] w fun e w'=>e= .returned (.bool true)/\Below w.heap.size w w':=by
 obtain ⟨G,H⟩:∃G:World,G=(w.alloc (.cells #[.int .i64 r.hd,.int .i64 r.vt,.string r.s,.int .i64 r.ix,.int .i64 r.sz,.int .i64 r.dy,.int .i64 r.sr,.int .i64 r.ct,.int .i64 r.pl,.string r.rt,.slice r.pa.a r.pa.n r.pa.c,.int .i64 r.si,.slice r.pb.a r.pb.n r.pb.c,.slice r.pc.a r.pc.n r.pc.c] 35)).alloc (.cells #[.int .i64 r.hd,.int .i64 r.vt,.string r.s,.int .i64 r.ix,.int .i64 r.sz,.int .i64 r.dy,.int .i64 r.sr,.int .i64 r.ct,.int .i64 r.pl,.string r.rt,.slice pa.a r.pa.n pa.c,.int .i64 r.si,.slice pb.a r.pb.n pb.c,.slice pc.a r.pc.n pc.c] 35):=⟨_,rfl⟩
 have W:Below w.heap.size w G:=by rw [H];exact bl.alloc sI _
 have ae:G.heap.size=w.heap.size+1+1:=by rw [H];simp
 have ac:G.heap[w.heap.size]? =some (.cells #[.int .i64 r.hd,.int .i64 r.vt,.string r.s,.int .i64 r.ix,.int .i64 r.sz,.int .i64 r.dy,.int .i64 r.sr,.int .i64 r.ct,.int .i64 r.pl,.string r.rt,.slice r.pa.a r.pa.n r.pa.c,.int .i64 r.si,.slice r.pb.a r.pb.n r.pb.c,.slice r.pc.a r.pc.n r.pc.c] 35 (0,0)):=by rw [H,Below.heap_alloc _ _ _ sI];exact zy w _
 have aa:G.heap[w.heap.size+1]? =some (.cells #[.int .i64 r.hd,.int .i64 r.vt,.string r.s,.int .i64 r.ix,.int .i64 r.sz,.int .i64 r.dy,.int .i64 r.sr,.int .i64 r.ct,.int .i64 r.pl,.string r.rt,.slice pa.a r.pa.n pa.c,.int .i64 r.si,.slice pb.a r.pb.n pb.c,.slice pc.a r.pc.n pc.c] 35 (0,0)):=by
  rw [H];have:=zy (w.alloc (.cells #[.int .i64 r.hd,.int .i64 r.vt,.string r.s,.int .i64 r.ix,.int .i64 r.sz,.int .i64 r.dy,.int .i64 r.sr,.int .i64 r.ct,.int .i64 r.pl,.string r.rt,.slice r.pa.a r.pa.n r.pa.c,.int .i64 r.si,.slice r.pb.a r.pb.n r.pb.c,.slice r.pc.a r.pc.n r.pc.c] 35)) (.cells #[.int .i64 r.hd,.int .i64 r.vt,.string r.s,.int .i64 r.ix,.int .i64 r.sz,.int .i64 r.dy,.int .i64 r.sr,.int .i64 r.ct,.int .i64 r.pl,.string r.rt,.slice pa.a r.pa.n pa.c,.int .i64 r.si,.slice pb.a r.pb.n pb.c,.slice pc.a r.pc.n pc.c] 35);simpa using this
 have HC:Hid (∀V,Below G.heap.size G V->(V.cell? ⟨w.heap.size,0,none⟩=some (.int .i64 r.hd)/\V.cell? ⟨w.heap.size,1,none⟩=some (.int .i64 r.vt)/\V.cell? ⟨w.heap.size,2,none⟩=some (.string r.s)/\V.cell? ⟨w.heap.size,3,none⟩=some (.int .i64 r.ix)/\V.cell? ⟨w.heap.size,4,none⟩=some (.int .i64 r.sz)/\V.cell? ⟨w.heap.size,5,none⟩=some (.int .i64 r.dy)/\V.cell? ⟨w.heap.size,6,none⟩=some (.int .i64 r.sr)/\V.cell? ⟨w.heap.size,7,none⟩=some (.int .i64 r.ct)/\V.cell? ⟨w.heap.size,8,none⟩=some (.int .i64 r.pl)/\V.cell? ⟨w.heap.size,9,none⟩=some (.string r.rt)/\V.cell? ⟨w.heap.size,10,none⟩=some (.slice r.pa.a r.pa.n r.pa.c)/\V.cell? ⟨w.heap.size,11,none⟩=some (.int .i64 r.si)/\V.cell? ⟨w.heap.size,12,none⟩=some (.slice r.pb.a r.pb.n r.pb.c)/\V.cell? ⟨w.heap.size,13,none⟩=some (.slice r.pc.a r.pc.n r.pc.c))/\(V.cell? ⟨w.heap.size+1,0,none⟩=some (.int .i64 r.hd)/\V.cell? ⟨w.heap.size+1,1,none⟩=some (.int .i64 r.vt)/\V.cell? ⟨w.heap.size+1,2,none⟩=some (.string r.s)/\V.cell? ⟨w.heap.size+1,3,none⟩=some (.int .i64 r.ix)/\V.cell? ⟨w.heap.size+1,4,none⟩=some (.int .i64 r.sz)/\V.cell? ⟨w.heap.size+1,5,none⟩=some (.int .i64 r.dy)/\V.cell? ⟨w.heap.size+1,6,none⟩=some (.int .i64 r.sr)/\V.cell? ⟨w.heap.size+1,7,none⟩=some (.int .i64 r.ct)/\V.cell? ⟨w.heap.size+1,8,none⟩=some (.int .i64 r.pl)/\V.cell? ⟨w.heap.size+1,9,none⟩=some (.string r.rt)/\V.cell? ⟨w.heap.size+1,10,none⟩=some (.slice pa.a r.pa.n pa.c)/\V.cell? ⟨w.heap.size+1,11,none⟩=some (.int .i64 r.si)/\V.cell? ⟨w.heap.size+1,12,none⟩=some (.slice pb.a r.pb.n pb.c)/\V.cell? ⟨w.heap.size+1,13,none⟩=some (.slice pc.a r.pc.n pc.c))):=fun V hb=>by
  have q1:=(hb.block _ om).trans ac;have q2:=(hb.block _ om).trans aa;refine ⟨⟨?_,?_,?_,?_,?_,?_,?_,?_,?_,?_,?_,?_,?_,?_⟩,⟨?_,?_,?_,?_,?_,?_,?_,?_,?_,?_,?_,?_,?_,?_⟩⟩
  all_goals first
   |(rw [cell_of_row V _ _ _ _ _ q1];rfl)
   |(rw [cell_of_row V _ _ _ _ _ q2];rfl)
 have HF:=lh (fields_any r pa pb pc G)
 have HT:Hid (∀V,Below G.heap.size G V->∀(a b:Option Addr) (n c d:Nat) (ys:List ByteArray),Sl fT w B a n ys->Sl fT w B b n ys->n<=1000000->Calls prog 107 #[.slice a n c,.slice b n d] V fun e w'=>e= .returned (.bool true)/\Below V.heap.size V w'):=fun V hb a b n c d ys q1 q2 q3=>
  texts_any a b n c d ys B V (q1.up (bt W hb) hB) (q2.up (bt W hb) hB) (lT hB (lT W.size hb.size)) q3
 have HB1:=lh W;have HWE:=lh H;have H1:=lh h1;have H2:=lh h2;have HN:=lh hn;rw [H] at HF;obtain ⟨⟨k0,k1,k2,Y,k4,k5,k6,k7,k8,z,T,J,O,N⟩,⟨l0,l1,l2,l3,l4,l5,l6,Z,l8,l9,K,M,U,L⟩⟩:=HC.out G bR;rw [H] at k0 k1 k2 Y k4 k5 k6 k7 k8 z T J O N l0 l1 l2 l3 l4 l5 l6 Z l8 l9 K M U L;clear h1 h2 hB W ae ac aa H hn;go_enter func52,ntmps52
 go_wp2_with (first
  |(go_at_call 106;(with_reducible refine HF.out.mono ?_);rintro e V2 ⟨rfl,b⟩
    rw [<-HWE.out] at b;clear k0 k1 k2 Y k4 k5 k6 k7 k8 z T J O N l0 l1 l2 l3 l4 l5 l6 Z l8 l9 K M U L;have B2:=lh b;obtain ⟨⟨k0,k1,k2,Y,k4,k5,k6,k7,k8,z,T,J,O,N⟩,⟨l0,l1,l2,l3,l4,l5,l6,Z,l8,l9,K,M,U,L⟩⟩:=HC.out V2 b
    clear b)
  |(go_at_call 107;(with_reducible refine (HT.out V2 B2.out _ _ _ _ _ ps H1.out.1 H2.out.1 HN.out.1).mono ?_);rintro e V3 ⟨rfl,b⟩
    have B3:Hid (Below G.heap.size G V3):=bt B2.out b;clear k0 k1 k2 Y k4 k5 k6 k7 k8 z T J O N l0 l1 l2 l3 l4 l5 l6 Z l8 l9 K M U L b
    obtain ⟨⟨k0,k1,k2,Y,k4,k5,k6,k7,k8,z,T,J,O,N⟩,⟨l0,l1,l2,l3,l4,l5,l6,Z,l8,l9,K,M,U,L⟩⟩:=HC.out V3 B3.out)
  |(go_at_call 107;(with_reducible refine (HT.out V3 B3.out _ _ _ _ _ qs H1.out.2.1 H2.out.2.1 HN.out.2.1).mono ?_);rintro e V4 ⟨rfl,b⟩
    have B4:Hid (Below G.heap.size G V4):=bt B3.out b;clear k0 k1 k2 Y k4 k5 k6 k7 k8 z T J O N l0 l1 l2 l3 l4 l5 l6 Z l8 l9 K M U L b
    obtain ⟨⟨k0,k1,k2,Y,k4,k5,k6,k7,k8,z,T,J,O,N⟩,⟨l0,l1,l2,l3,l4,l5,l6,Z,l8,l9,K,M,U,L⟩⟩:=HC.out V4 B4.out)
  |(go_at_call 107;(with_reducible refine (HT.out V4 B4.out _ _ _ _ _ rs H1.out.2.2 H2.out.2.2 HN.out.2.2).mono ?_);rintro e V5 ⟨rfl,b⟩
    have B5:Hid (Below G.heap.size G V5):=bt B4.out b
    clear b))
 go_ret;exact ⟨rfl,bt HB1.out B5.out⟩
theorem same45_any (d q:Int) (r:Rcp) (pa pb pc:Hd) (st:ByteArray) (ix:Int) (no an:ByteArray) (ps qs rs:List ByteArray) (B:Nat) (w:World) (h1:Sl fT w B r.pa.a r.pa.n ps/\Sl fT w B r.pb.a r.pb.n qs/\Sl fT w B r.pc.a r.pc.n rs) (h2:Sl fT w B pa.a r.pa.n ps/\Sl fT w B pb.a r.pb.n qs/\Sl fT w B pc.a r.pc.n rs) (M:B<=w.heap.size) (hn:r.pa.n<=1000000/\r.pb.n<=1000000/\r.pc.n<=1000000):
 Calls prog 18 #[.agg #[.int .i64 d,.int .i64 q,.int .i64 r.hd,.int .i64 r.vt,.string r.s,.int .i64 r.ix,.int .i64 r.sz,.int .i64 r.dy,.int .i64 r.sr,.int .i64 r.ct,.int .i64 r.pl,.string r.rt,.slice r.pa.a r.pa.n r.pa.c,.int .i64 r.si,.slice r.pb.a r.pb.n r.pb.c,.slice r.pc.a r.pc.n r.pc.c,.string st,.int .i64 ix,.string no,.string an],.agg #[.int .i64 d,.int .i64 q,.int .i64 r.hd,.int .i64 r.vt,.string r.s,.int .i64 r.ix,.int .i64 r.sz,.int .i64 r.dy,.int .i64 r.sr,.int .i64 r.ct,.int .i64 r.pl,.string r.rt,.slice pa.a r.pa.n pa.c,.int .i64 r.si,.slice pb.a r.pb.n pb.c,.slice pc.a r.pc.n pc.c,.string st,.int .i64 ix,.string no,.string an]] w fun e w'=>e= .returned (.bool true)/\Below w.heap.size w w':=by
 obtain ⟨G,L⟩:∃G:World,G=(w.alloc (.cells #[.int .i64 d,.int .i64 q,.int .i64 r.hd,.int .i64 r.vt,.string r.s,.int .i64 r.ix,.int .i64 r.sz,.int .i64 r.dy,.int .i64 r.sr,.int .i64 r.ct,.int .i64 r.pl,.string r.rt,.slice r.pa.a r.pa.n r.pa.c,.int .i64 r.si,.slice r.pb.a r.pb.n r.pb.c,.slice r.pc.a r.pc.n r.pc.c,.string st,.int .i64 ix,.string no,.string an] 50)).alloc (.cells #[.int .i64 d,.int .i64 q,.int .i64 r.hd,.int .i64 r.vt,.string r.s,.int .i64 r.ix,.int .i64 r.sz,.int .i64 r.dy,.int .i64 r.sr,.int .i64 r.ct,.int .i64 r.pl,.string r.rt,.slice pa.a r.pa.n pa.c,.int .i64 r.si,.slice pb.a r.pb.n pb.c,.slice pc.a r.pc.n pc.c,.string st,.int .i64 ix,.string no,.string an] 50):=⟨_,rfl⟩
 have K:Below w.heap.size w G:=by rw [L];exact bl.alloc sI _
 have J:G.heap[w.heap.size]? =some (.cells #[.int .i64 d,.int .i64 q,.int .i64 r.hd,.int .i64 r.vt,.string r.s,.int .i64 r.ix,.int .i64 r.sz,.int .i64 r.dy,.int .i64 r.sr,.int .i64 r.ct,.int .i64 r.pl,.string r.rt,.slice r.pa.a r.pa.n r.pa.c,.int .i64 r.si,.slice r.pb.a r.pb.n r.pb.c,.slice r.pc.a r.pc.n r.pc.c,.string st,.int .i64 ix,.string no,.string an] 50 (0,0)):=by rw [L,Below.heap_alloc _ _ _ sI];exact zy w _
 have H:G.heap[w.heap.size+1]? =some (.cells #[.int .i64 d,.int .i64 q,.int .i64 r.hd,.int .i64 r.vt,.string r.s,.int .i64 r.ix,.int .i64 r.sz,.int .i64 r.dy,.int .i64 r.sr,.int .i64 r.ct,.int .i64 r.pl,.string r.rt,.slice pa.a r.pa.n pa.c,.int .i64 r.si,.slice pb.a r.pb.n pb.c,.slice pc.a r.pc.n pc.c,.string st,.int .i64 ix,.string no,.string an] 50 (0,0)):=by
  rw [L];have:=zy (w.alloc (.cells #[.int .i64 d,.int .i64 q,.int .i64 r.hd,.int .i64 r.vt,.string r.s,.int .i64 r.ix,.int .i64 r.sz,.int .i64 r.dy,.int .i64 r.sr,.int .i64 r.ct,.int .i64 r.pl,.string r.rt,.slice r.pa.a r.pa.n r.pa.c,.int .i64 r.si,.slice r.pb.a r.pb.n r.pb.c,.slice r.pc.a r.pc.n r.pc.c,.string st,.int .i64 ix,.string no,.string an] 50)) (.cells #[.int .i64 d,.int .i64 q,.int .i64 r.hd,.int .i64 r.vt,.string r.s,.int .i64 r.ix,.int .i64 r.sz,.int .i64 r.dy,.int .i64 r.sr,.int .i64 r.ct,.int .i64 r.pl,.string r.rt,.slice pa.a r.pa.n pa.c,.int .i64 r.si,.slice pb.a r.pb.n pb.c,.slice pc.a r.pc.n pc.c,.string st,.int .i64 ix,.string no,.string an] 50);simpa using this
 have k0:G.cell? ⟨w.heap.size,0,none⟩=some (.int .i64 d):=by rw [cell_of_row G _ _ _ _ _ J];rfl
 have k1:G.cell? ⟨w.heap.size,1,none⟩=some (.int .i64 q):=by rw [cell_of_row G _ _ _ _ _ J];rfl
 have k2:G.cell? ⟨w.heap.size,2,none⟩=some (.int .i64 r.hd):=by rw [cell_of_row G _ _ _ _ _ J];rfl
 have k3:G.cell? ⟨w.heap.size,3,none⟩=some (.int .i64 r.vt):=by rw [cell_of_row G _ _ _ _ _ J];rfl
 have k4:G.cell? ⟨w.heap.size,4,none⟩=some (.string r.s):=by rw [cell_of_row G _ _ _ _ _ J];rfl
 have k5:G.cell? ⟨w.heap.size,5,none⟩=some (.int .i64 r.ix):=by rw [cell_of_row G _ _ _ _ _ J];rfl
 have k6:G.cell? ⟨w.heap.size,6,none⟩=some (.int .i64 r.sz):=by rw [cell_of_row G _ _ _ _ _ J];rfl
 have k7:G.cell? ⟨w.heap.size,7,none⟩=some (.int .i64 r.dy):=by rw [cell_of_row G _ _ _ _ _ J];rfl
 have k8:G.cell? ⟨w.heap.size,8,none⟩=some (.int .i64 r.sr):=by rw [cell_of_row G _ _ _ _ _ J];rfl
 have k9:G.cell? ⟨w.heap.size,9,none⟩=some (.int .i64 r.ct):=by rw [cell_of_row G _ _ _ _ _ J];rfl
 have ap:G.cell? ⟨w.heap.size,10,none⟩=some (.int .i64 r.pl):=by rw [cell_of_row G _ _ _ _ _ J];rfl
 have T:G.cell? ⟨w.heap.size,11,none⟩=some (.string r.rt):=by rw [cell_of_row G _ _ _ _ _ J];rfl
 have ao:G.cell? ⟨w.heap.size,12,none⟩=some (.slice r.pa.a r.pa.n r.pa.c):=by rw [cell_of_row G _ _ _ _ _ J];rfl
 have ak:G.cell? ⟨w.heap.size,13,none⟩=some (.int .i64 r.si):=by rw [cell_of_row G _ _ _ _ _ J];rfl
 have ac:G.cell? ⟨w.heap.size,14,none⟩=some (.slice r.pb.a r.pb.n r.pb.c):=by rw [cell_of_row G _ _ _ _ _ J];rfl
 have aq:G.cell? ⟨w.heap.size,15,none⟩=some (.slice r.pc.a r.pc.n r.pc.c):=by rw [cell_of_row G _ _ _ _ _ J];rfl
 have ae:G.cell? ⟨w.heap.size,16,none⟩=some (.string st):=by rw [cell_of_row G _ _ _ _ _ J];rfl
 have U:G.cell? ⟨w.heap.size,17,none⟩=some (.int .i64 ix):=by rw [cell_of_row G _ _ _ _ _ J];rfl
 have N:G.cell? ⟨w.heap.size,18,none⟩=some (.string no):=by rw [cell_of_row G _ _ _ _ _ J];rfl
 have ai:G.cell? ⟨w.heap.size,19,none⟩=some (.string an):=by rw [cell_of_row G _ _ _ _ _ J];rfl
 have l0:G.cell? ⟨w.heap.size+1,0,none⟩=some (.int .i64 d):=by rw [cell_of_row G _ _ _ _ _ H];rfl
 have l1:G.cell? ⟨w.heap.size+1,1,none⟩=some (.int .i64 q):=by rw [cell_of_row G _ _ _ _ _ H];rfl
 have l2:G.cell? ⟨w.heap.size+1,2,none⟩=some (.int .i64 r.hd):=by rw [cell_of_row G _ _ _ _ _ H];rfl
 have l3:G.cell? ⟨w.heap.size+1,3,none⟩=some (.int .i64 r.vt):=by rw [cell_of_row G _ _ _ _ _ H];rfl
 have l4:G.cell? ⟨w.heap.size+1,4,none⟩=some (.string r.s):=by rw [cell_of_row G _ _ _ _ _ H];rfl
 have l5:G.cell? ⟨w.heap.size+1,5,none⟩=some (.int .i64 r.ix):=by rw [cell_of_row G _ _ _ _ _ H];rfl
 have l6:G.cell? ⟨w.heap.size+1,6,none⟩=some (.int .i64 r.sz):=by rw [cell_of_row G _ _ _ _ _ H];rfl
 have l7:G.cell? ⟨w.heap.size+1,7,none⟩=some (.int .i64 r.dy):=by rw [cell_of_row G _ _ _ _ _ H];rfl
 have l8:G.cell? ⟨w.heap.size+1,8,none⟩=some (.int .i64 r.sr):=by rw [cell_of_row G _ _ _ _ _ H];rfl
 have l9:G.cell? ⟨w.heap.size+1,9,none⟩=some (.int .i64 r.ct):=by rw [cell_of_row G _ _ _ _ _ H];rfl
 have af:G.cell? ⟨w.heap.size+1,10,none⟩=some (.int .i64 r.pl):=by rw [cell_of_row G _ _ _ _ _ H];rfl
 have ah:G.cell? ⟨w.heap.size+1,11,none⟩=some (.string r.rt):=by rw [cell_of_row G _ _ _ _ _ H];rfl
 have W:G.cell? ⟨w.heap.size+1,12,none⟩=some (.slice pa.a r.pa.n pa.c):=by rw [cell_of_row G _ _ _ _ _ H];rfl
 have ag:G.cell? ⟨w.heap.size+1,13,none⟩=some (.int .i64 r.si):=by rw [cell_of_row G _ _ _ _ _ H];rfl
 have am:G.cell? ⟨w.heap.size+1,14,none⟩=some (.slice pb.a r.pb.n pb.c):=by rw [cell_of_row G _ _ _ _ _ H];rfl
 have Z:G.cell? ⟨w.heap.size+1,15,none⟩=some (.slice pc.a r.pc.n pc.c):=by rw [cell_of_row G _ _ _ _ _ H];rfl
 have z:G.cell? ⟨w.heap.size+1,16,none⟩=some (.string st):=by rw [cell_of_row G _ _ _ _ _ H];rfl
 have Y:G.cell? ⟨w.heap.size+1,17,none⟩=some (.int .i64 ix):=by rw [cell_of_row G _ _ _ _ _ H];rfl
 have aj:G.cell? ⟨w.heap.size+1,18,none⟩=some (.string no):=by rw [cell_of_row G _ _ _ _ _ H];rfl
 have aa:G.cell? ⟨w.heap.size+1,19,none⟩=some (.string an):=by rw [cell_of_row G _ _ _ _ _ H];rfl
 have O:=lh (same43_any r pa pb pc ps qs rs B G ⟨h1.1.up K M,h1.2.1.up K M,h1.2.2.up K M⟩ ⟨h2.1.up K M,h2.2.1.up K M,h2.2.2.up K M⟩ (lT M K.size) hn);have HB1:=lh K;have HWE:=lh L;rw [L] at O k0 k1 k2 k3 k4 k5 k6 k7 k8 k9 ap T ao ak ac aq ae U N ai l0 l1 l2 l3 l4 l5 l6 l7 l8 l9 af ah W ag am Z z Y aj aa;clear h1 h2 M K J H L hn;go_enter func18,ntmps18
 go_wp2_with (first
  |(go_at_call 52;(with_reducible refine O.out.mono ?_);rintro e V2 ⟨rfl,b⟩
    rw [<-HWE.out] at b;have B2:=lh b
    clear b))
 go_ret;exact ⟨rfl,bt HB1.out B2.out⟩
