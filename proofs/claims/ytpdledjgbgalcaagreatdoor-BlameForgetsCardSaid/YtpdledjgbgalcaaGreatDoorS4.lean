/- DecodeAccusation. -/
import Derived.Test.YtpdledjgbgalcaaGreatDoorS3
namespace Go.Proofs.YtpdledjgbgalcaaGreatDoor
set_option maxRecDepth 100000
set_option maxHeartbeats 16000000
open Go.RowKit Go.Lib
set_option linter.unusedVariables false
set_option linter.unusedSimpArgs false
abbrev cA (d q:Int) (r:Rcp) (st:ByteArray) (ix:Int) (no an:ByteArray):Array Value:=#[.int .i64 d,.int .i64 q,.int .i64 r.hd,.int .i64 r.vt,.string r.s,.int .i64 r.ix,.int .i64 r.sz,.int .i64 r.dy,.int .i64 r.sr,.int .i64 r.ct,.int .i64 r.pl,.string r.rt,.slice r.pa.a r.pa.n r.pa.c,.int .i64 r.si,.slice r.pb.a r.pb.n r.pb.c,.slice r.pc.a r.pc.n r.pc.c,.string st,.int .i64 ix,.string no,.string an]
abbrev zA:Array Value:=#[.int .i64 0,.int .i64 0,.int .i64 0,.int .i64 0,.string ⟨#[]⟩,.int .i64 0,.int .i64 0,.int .i64 0,.int .i64 0,.int .i64 0,.int .i64 0,.string ⟨#[]⟩,.slice none 0 0,.int .i64 0,.slice none 0 0,.slice none 0 0,.string ⟨#[]⟩,.int .i64 0,.string ⟨#[]⟩,.string ⟨#[]⟩]
theorem Tryz.sizeAc:(Tryz.prog.info? 39).map (·.size)=some 20:=by kernel_rfl
theorem ydj (d q:Int) (r:Rcp) (st:ByteArray) (ix:Int) (no an:ByteArray):(Tryz.prog.info? 39).map (·.size)=some (cA d q r st ix no an).size:=Tryz.sizeAc
theorem ycw:(Tryz.prog.info? 39).map (·.size)=some zA.size:=Tryz.sizeAc
theorem cA_one (d q:Int) (r:Rcp) (st:ByteArray) (ix:Int) (no an:ByteArray):(cA d q r st ix no an).all (·.oneCell')=true:=by
 rw [Array.all_eq_true'];intro x hx;simp only [cA,List.mem_toArray,List.mem_cons,List.not_mem_nil,or_false] at hx;rcases hx with rfl |rfl |rfl |rfl |rfl |rfl |rfl |rfl |rfl |rfl |rfl |rfl |rfl |rfl |rfl |rfl |rfl |rfl |rfl |rfl<;>rfl
theorem zA_one:zA.all (·.oneCell')=true:=by
 rw [Array.all_eq_true'];intro x hx;simp only [zA,List.mem_toArray,List.mem_cons,List.not_mem_nil,or_false] at hx;rcases hx with rfl |rfl |rfl |rfl |rfl |rfl |rfl |rfl |rfl |rfl |rfl |rfl |rfl |rfl |rfl |rfl |rfl |rfl |rfl |rfl<;>rfl
def dT1 (bs:List Int):List Int × RS:=rY bs bs.length (0,0)
def dT2 (bs:List Int):(ByteArray × Int) × RS:=rId bs (dT1 bs).2
def dT3 (bs:List Int):ByteArray × RS:=rS bs (dT2 bs).2
def dT4 (bs:List Int):ByteArray × RS:=rS bs (dT3 bs).2
def okT (bs:List Int):Bool:=decide ((dT4 bs).2.2=0∧¬(dT4 bs).2.1 < bs.length)&&okR (dT1 bs).1
theorem rY_rng {bs:List Int} {m:Nat} {s:RS} (h:∀b∈bs,0≤b∧b < 256):∀b∈(rY bs m s).1,0≤b∧b < 256:=by
 have htk:∀k p,∀b∈(tkL bs k p).1,0≤b∧b < 256:=fun k p b hb=>by
  unfold tkL at hb
  split at hb
  ·cases hb
  ·exact h b (List.mem_of_mem_drop (List.mem_of_mem_take hb))
 have hbl:∀b∈(blkL bs m s.1).1,0≤b∧b < 256:=fun b hb=>by
  unfold blkL at hb
  split at hb
  ·exact htk _ _ b hb
  ·cases hb
 intro b hb;unfold rY rV at hb
 split at hb
 ·split at hb
  ·exact hbl b hb
  ·cases hb
 ·cases hb
theorem rY_len {bs:List Int} {m:Nat} {s:RS}:(rY bs m s).1.length≤bs.length:=by
 have htk:∀k p,(tkL bs k p).1.length≤bs.length:=fun k p=>by
  unfold tkL
  split
  ·simp
  ·simp only [List.length_take,List.length_drop];omega
 have hbl:(blkL bs m s.1).1.length≤bs.length:=by
  unfold blkL
  split
  ·exact htk _ _
  ·simp
 unfold rY rV
 split
 ·split
  ·exact hbl
  ·simp
 ·simp
def zRcp:Rcp:=⟨0,0,⟨#[]⟩,0,0,0,0,0,0,⟨#[]⟩,⟨none,0,0⟩,0,⟨none,0,0⟩,⟨none,0,0⟩⟩
theorem ydz {P:Program} {w:World} {ops:Array Oper} {rest:List Oper} {o:Oper} {a:Act} {Q:Exit→Act→World→Prop} (hgd:o.guard=none) (ty:TypeId) (x y:Operand) (ho:o.op= .store ty x y)
 (b:Nat) (t:TypeId) (k:Nat) (cs:Array Value) (v0 v1:Value) (hx:a.eval x= .pointer (some ⟨b,k,none⟩)) (hy:a.eval y= .agg #[v0,v1]) (hg:w.heap[b]? =some (.cells cs t (0,0))) (hk:k+1 < cs.size) (hi:(P.info? ty).map (·.size)=some 2)
 (h1:(#[v0,v1]:Array Value).all (·.oneCell')=true)
 (h:∀w',Hid (w'.heap[b]? =some (.cells ((cs.setIfInBounds k v0).setIfInBounds (k+1) v1) t (0,0)))→Hid (But (fun k=>k=b) w w')→wpList P ops Q rest (a.put o.dst undef) w'):wpList P ops Q (o::rest) a w:=by
 refine wpList_store_mid hgd ty x y ho b k #[v0,v1] hx hy ?_ hi h1 ?_
 ·intro j hj
  have hj2:j < 2:=hj;refine ⟨?_,frozen_of_row w b _ _ _ hg⟩;rw [cell_of_row w b _ _ _ _ hg,Array.getElem?_eq_getElem om];rfl
 ·have k1:=heap_setCell_same w b k _ _ v0 hg
  have k2:=heap_setCell_same _ b (k+1) _ _ v1 k1;exact h _ k2 (But.setCell (p:=fun k=>k=b) (x:=⟨b,k+1,none⟩) (But.setCell (p:=fun k=>k=b) (x:=⟨b,k,none⟩) (But.refl _ _) (.inl rfl) _) (.inl rfl) _)
theorem rangeA {w:World} {b:Nat} {t:TypeId} {d q:Int} {R:Rcp} {st:ByteArray} {ix:Int} {no an:ByteArray} (h:w.heap[b]? =some (.cells (cA d q R st ix no an) t (0,0))):w.rangeAt b 0 (cA d q R st ix no an).toList:=fun j v hv=>by
 rw [Nat.zero_add,cell_of_row w b j _ _ _ h,←Array.getElem?_toList];exact hv
theorem cA17 (d q:Int) (R:Rcp) (st:ByteArray) (ix:Int) (no an:ByteArray):16+1 < (cA d q R st ix no an).size:=by show 17 < 20;decide
theorem sizeAL (d q:Int) (R:Rcp) (st:ByteArray) (ix:Int) (no an:ByteArray):(Tryz.prog.info? 39).map (·.size)=some (cA d q R st ix no an).toList.length:=Tryz.sizeAc
def RDU (body:List Int) (R:Rcp) (er:Int) (base:Nat) (w':World):Prop:=
 (okR body=true∧er=0∧(∃pa pb pc,R=rcV body pa pb pc)∧RcO w' base R (rc5 body).1 (rc9 body).1 (rcA body).1)∨(okR body=false∧er=3)
theorem rd_uni {body:List Int} {w:World} {e:Ending} {w':World} (h:RDPost body w e w'):∃R er,e= .returned (.tuple #[.agg (cR R),.int .i64 er])∧RDU body R er w.heap.size w'∧Below w.heap.size w w':=by
 rcases h with ⟨h1,pa,pb,pc,h2,h3,h4⟩ |⟨h1,h2,h3⟩
 ·exact ⟨_,0,h2,.inl ⟨h1,rfl,⟨pa,pb,pc,rfl⟩,h3⟩,h4⟩
 ·exact ⟨zRcp,3,h2,.inr ⟨h1,rfl⟩,h3⟩
def DCPost (d q:Int) (bs:List Int) (w:World) (e:Ending) (w':World):Prop:=
 (okT bs=true∧∃pa pb pc,e= .returned (.tuple #[.agg (cA d q (rcV (dT1 bs).1 pa pb pc) (dT2 bs).1.1 (dT2 bs).1.2 (dT3 bs).1 (dT4 bs).1),.int .i64 0])∧RcO w' w.heap.size (rcV (dT1 bs).1 pa pb pc) (rc5 (dT1 bs).1).1 (rc9 (dT1 bs).1).1 (rcA (dT1 bs).1).1∧Below w.heap.size w w')
 ∨(okT bs=false∧e= .returned (.tuple #[.agg zA,.int .i64 3])∧Below w.heap.size w w')
def acP37:Array (Nat × Operand):=#[(0,.tmp 33),(1,.tmp 35),(2,.tmp 36)]
theorem acB37 (a:Act) (d q:Int) (R:Rcp) (h0:a.eval (.tmp 33)= .int .i64 d) (h1:a.eval (.tmp 35)= .int .i64 q) (h2:a.eval (.tmp 36)= .agg (cR R)):Tryz.prog.built 39 (acP37.map fun (i,x)=>(i,a.eval x)).toList=some (cA d q R ⟨#[]⟩ 0 ⟨#[]⟩ ⟨#[]⟩):=by
 rw [Array.toList_map]
 show Tryz.prog.built 39 [(0,a.eval (.tmp 33)),(1,a.eval (.tmp 35)),(2,a.eval (.tmp 36))]=_
 rw [h0,h1,h2]
 kernel_rfl
theorem ycH {w:World} {b:Nat} {t:TypeId} {R:Rcp} (h:w.heap[b]? =some (.cells (cR R) t (0,0))):w.rangeAt b 0 (cR R).toList:=fun j v hv=>by
 rw [Nat.zero_add,cell_of_row w b j _ _ _ h,←Array.getElem?_toList];exact hv
theorem ycl (R:Rcp):(Tryz.prog.info? 35).map (·.size)=some (cR R).toList.length:=Tryz.sizeRc
theorem dacc_no (dv sq k dy:Int) (pr:ByteArray) (A:Option Addr) (n c:Nat) (w:World) (hk:k≠6):
 Calls Tryz.prog 105 #[.agg #[.int .i64 dv,.int .i64 sq,.int .i64 k,.int .i64 dy,.slice A n c,.string pr]] w fun e w'=>e= .returned (.tuple #[.agg zA,.int .i64 1])∧Below w.heap.size w w':=by
 have hkb:(k != 6)=true:=by simp [hk]
 obtain ⟨W1,hW1⟩:∃W1:World,W1=(w.alloc (.cells #[.int .i64 dv,.int .i64 sq,.int .i64 k,.int .i64 dy,.slice A n c,.string pr] 55)).alloc (.cells zA 39):=⟨_,rfl⟩
 have HB1:Hid (Below w.heap.size w W1):=by show Below _ _ _;rw [hW1];exact bl.alloc sI _
 have HG3:Hid (W1.heap[w.heap.size+1]? =some (.cells zA 39 (0,0))):=by
  show _=_
  rw [hW1]
  have:=heap_alloc_new (w.alloc (.cells #[.int .i64 dv,.int .i64 sq,.int .i64 k,.int .i64 dy,.slice A n c,.string pr] 55)) (.cells zA 39)
  simpa using this
 have HWE:=lh hW1;clear hW1;go_enter Tryz.func105,Tryz.ntmps105
 go_wp2_with (first
  |((with_reducible refine yaZ (o:=⟨none,_,_,_,_,_⟩) rfl 39 (.tmp 2) (.tmp 13) rfl (w.heap.size+1) 39 _ _ rfl rfl (by rw [←HWE.out];exact HG3.out) ycw rfl zA_one ?_);intro W7 HG7 HB7))
 rw [←HWE.out] at HB7;refine bodyPost_ret (ybq rfl _ _ _ _ _ _ _ rfl HG7.out Tryz.underlying39 rfl ycw) rfl ⟨rfl,HB1.out.trans (HB7.out.below HB1.out.size (fun i hi=>by subst hi;omega))⟩
theorem dacc_num (dv sq dy:Int) (pr:ByteArray) (A:Option Addr) (n c:Nat) (w:World) (hN:numB dv sq=false):
 Calls Tryz.prog 105 #[.agg #[.int .i64 dv,.int .i64 sq,.int .i64 6,.int .i64 dy,.slice A n c,.string pr]] w fun e w'=>e= .returned (.tuple #[.agg zA,.int .i64 3])∧Below w.heap.size w w':=by
 have HN:=lh (fun W=>yb3 dv sq W);rw [hN] at HN;obtain ⟨W1,hW1⟩:∃W1:World,W1=(w.alloc (.cells #[.int .i64 dv,.int .i64 sq,.int .i64 6,.int .i64 dy,.slice A n c,.string pr] 55)).alloc (.cells zA 39):=⟨_,rfl⟩
 have HB1:Hid (Below w.heap.size w W1):=by show Below _ _ _;rw [hW1];exact bl.alloc sI _
 have HG3:Hid (W1.heap[w.heap.size+1]? =some (.cells zA 39 (0,0))):=by
  show _=_
  rw [hW1]
  have:=heap_alloc_new (w.alloc (.cells #[.int .i64 dv,.int .i64 sq,.int .i64 6,.int .i64 dy,.slice A n c,.string pr] 55)) (.cells zA 39)
  simpa using this
 have HWE:=lh hW1;clear hW1;go_enter Tryz.func105,Tryz.ntmps105
 go_wp2_with (first
  |(go_at_call 37;(with_reducible refine (HN.out _).mono ?_);rintro e w1 ⟨rfl,rfl⟩)
  |((with_reducible refine yaZ (o:=⟨none,_,_,_,_,_⟩) rfl 39 (.tmp 2) (.tmp 20) rfl (w.heap.size+1) 39 _ _ rfl rfl (by rw [←HWE.out];exact HG3.out) ycw rfl zA_one ?_);intro W7 HG7 HB7))
 rw [←HWE.out] at HB7;refine bodyPost_ret (ybq rfl _ _ _ _ _ _ _ rfl HG7.out Tryz.underlying39 rfl ycw) rfl ⟨rfl,HB1.out.trans (HB7.out.below HB1.out.size (fun i hi=>by subst hi;omega))⟩
theorem dacc_any (dv sq dy:Int) (pr:ByteArray) (A:Option Addr) (n c B:Nat) (bs:List Int) (w:World) (hN:numB dv sq=true) (hx:Sl fB w B A n bs) (hB:B≤w.heap.size) (hn:n≤1000000) (hbr:∀b∈bs,0≤b∧b < 256):
 Calls Tryz.prog 105 #[.agg #[.int .i64 dv,.int .i64 sq,.int .i64 6,.int .i64 dy,.slice A n c,.string pr]] w (DCPost dv sq bs w):=by
 have hl:bs.length=n:=hx.1;have hp1:(dT1 bs).2.1≤n:=rY_le hl (Nat.zero_le _);have hp2:(dT2 bs).2.1≤n:=rId_le hl hp1;have hp3:(dT3 bs).2.1≤n:=rS_le hl hp2;have HNu:=lh (fun W=>yb3 dv sq W);rw [hN] at HNu;obtain ⟨W1,hW1⟩:∃W1:World,W1=(w.alloc (.cells #[.int .i64 dv,.int .i64 sq,.int .i64 6,.int .i64 dy,.slice A n c,.string pr] 55)).alloc (.cells zA 39):=⟨_,rfl⟩
 have hb1:Below w.heap.size w W1:=by rw [hW1];exact bl.alloc sI _
 have hs1:W1.heap.size=w.heap.size+1+1:=by rw [hW1];simp
 have hge:W1.heap[w.heap.size]? =some (.cells #[.int .i64 dv,.int .i64 sq,.int .i64 6,.int .i64 dy,.slice A n c,.string pr] 55 (0,0)):=by rw [hW1,Below.heap_alloc _ _ _ sI];exact heap_alloc_new w _
 have hg3:W1.heap[w.heap.size+1]? =some (.cells zA 39 (0,0)):=by
  rw [hW1]
  have:=heap_alloc_new (w.alloc (.cells #[.int .i64 dv,.int .i64 sq,.int .i64 6,.int .i64 dy,.slice A n c,.string pr] 55)) (.cells zA 39)
  simpa using this
 have HNR:=lh (ybO A n c bs W1 ((hx.up hb1 hB).more' (Nat.le_trans hB hb1.size)) hn);have HB1:=lh hb1;have HS1:=lh hs1;have HGE:=lh hge;have HG3:=lh hg3;have HWE:=lh hW1;rw [hW1] at HNR
 have H1:Hid (∀g A1 c1 V,n≤c1→RdS g A1 n c1 bs (0,0) V→Calls Tryz.prog 171 #[.pointer (some ⟨g,0,none⟩),.int .i64 n] V (RYPost g A1 n c1 bs (dT1 bs).1 (dT1 bs).2 V)):=fun g A1 c1 V hc h=>by
  have:=ry_any g A1 n c1 bs (0,0) n hn V h ⟨hbr,hn,hc⟩ (Nat.zero_le _)
  unfold dT1;rw [hl];exact this
 have H2:Hid (∀g A1 c1 V,n≤c1→RdS g A1 n c1 bs (dT1 bs).2 V→Calls Tryz.prog 170 #[.pointer (some ⟨g,0,none⟩)] V (RPost g A1 n c1 bs (.agg #[.string (dT2 bs).1.1,.int .i64 (dT2 bs).1.2]) (dT2 bs).2 V)):=fun g A1 c1 V hc h=>rid_any g A1 n c1 bs _ V h ⟨hbr,hn,hc⟩ hp1
 have H3:Hid (∀g A1 c1 V,n≤c1→RdS g A1 n c1 bs (dT2 bs).2 V→Calls Tryz.prog 172 #[.pointer (some ⟨g,0,none⟩)] V (RPost g A1 n c1 bs (.string (dT3 bs).1) (dT3 bs).2 V)):=fun g A1 c1 V hc h=>rs_any g A1 n c1 bs _ V h ⟨hbr,hn,hc⟩ hp2
 have H4:Hid (∀g A1 c1 V,n≤c1→RdS g A1 n c1 bs (dT3 bs).2 V→Calls Tryz.prog 172 #[.pointer (some ⟨g,0,none⟩)] V (RPost g A1 n c1 bs (.string (dT4 bs).1) (dT4 bs).2 V)):=fun g A1 c1 V hc h=>rs_any g A1 n c1 bs _ V h ⟨hbr,hn,hc⟩ hp3
 have HBd:Hid (∀b∈(dT1 bs).1,0≤b∧b < 256):=rY_rng hbr;have HBl:Hid ((dT1 bs).1.length≤1000000):=by show _≤_;have:=rY_len (bs:=bs) (m:=bs.length) (s:=(0,0));unfold dT1;omega
 have HOK:Hid (okT bs=(decide ((dT4 bs).2.2=0∧¬(dT4 bs).2.1 < n)&&okR (dT1 bs).1)):=by show okT bs=_;unfold okT;rw [hl]
 unfold DCPost
 generalize dT1 bs=R1 at*
 generalize dT2 bs=R2 at*
 generalize dT3 bs=R3 at*
 generalize dT4 bs=R4 at*
 obtain ⟨body,s1⟩:=R1;obtain ⟨⟨st,ix⟩,s2⟩:=R2;obtain ⟨no,s3⟩:=R3;obtain ⟨an,s4⟩:=R4;dsimp only at H1 H2 H3 H4 HBd HBl HOK ⊢;have hn0:n - 0=n:=Nat.sub_zero n
 have HLF:Hid (∀g A1 c1 V,RdS g A1 n c1 bs (0,0) V→Calls Tryz.prog 83 #[.pointer (some ⟨g,0,none⟩)] V fun e w'=>e= .returned (.int .i64 n)∧Below V.heap.size V w'):=fun g A1 c1 V h=>by
  obtain ⟨⟨pv,h1⟩,_⟩:=h
  have:=left_any g A1 n c1 0 pv 0 V h1 (Nat.zero_le _) hn
  simpa using this
 clear hx hB hbr hl hp1 hp2 hp3 hb1 hs1 hge hg3 hW1 hN hn0;go_enter Tryz.func105,Tryz.ntmps105
 go_upto_region 8 with (first
  |(go_at_call 37;(with_reducible refine (HNu.out _).mono ?_);rintro e w1 ⟨rfl,rfl⟩)
  |(go_at_call 81;(with_reducible refine HNR.out.mono ?_);rintro e V0 ⟨g,A1,c1,rfl,r0,x0,hg0,hb0,hc0,hA0⟩
    rw [←HWE.out] at hg0 hb0 hA0;have D0:Hid (RdS g A1 n c1 bs (0,0) V0):=⟨⟨_,r0⟩,x0⟩;have HC1:=lh hc0;have HG0:=lh hg0;have HB0:=lh hb0;have HA0:=lh hA0
    clear r0 x0 hg0 hb0 hc0 hA0)
  |(go_at_call 83;(with_reducible refine (HLF.out g A1 c1 _ D0.out).mono ?_);rintro e V1 ⟨rfl,b⟩
    have D1:=lh (D0.out.on b);have B1:=lh b
    clear b)
  |(go_at_call 171;(with_reducible refine (H1.out g A1 c1 _ HC1.out D1.out).mono ?_);rintro e V2 ⟨Ad,kd,cd,rfl,ho,r,b⟩
    have D2:=lh r;have B2:=lh b;have hsl:=ho.slH;have HRD:=lh (rdec_any Ad kd cd V2.heap.size body V2 hsl nl (by have h1:=hsl.1;have h2:=HBl.out;omega) HBd.out)
    clear ho r b hsl)
  |(go_at_call 174;(with_reducible refine HRD.out.mono ?_);rintro e V3 h3
    obtain ⟨R,er,rfl,hu,hb⟩:=rd_uni h3;have HU:=lh hu;have B3:=lh hb
    have HB3:Hid (Below w.heap.size w V3):=by
     have h1:Below w.heap.size w V0:=HB1.out.trans (HB0.out.mono HB1.out.size);have h2:Below w.heap.size w V1:=h1.trans (B1.out.mono h1.size);have h3:Below w.heap.size w V2:=h2.trans (B2.out.below h2.size (fun i hi=>by subst hi;have h4:=HG0.out;have h5:=HS1.out;omega));exact h3.trans (hb.mono h3.size)
    have D3:=lh (D2.out.on hb);have h1V:Below W1.heap.size W1 V1:=HB0.out.trans (B1.out.mono HB0.out.size)
    have hE3:V3.heap[w.heap.size]? =some (.cells #[.int .i64 dv,.int .i64 sq,.int .i64 6,.int .i64 dy,.slice A n c,.string pr] 55 (0,0)):=by
     have h1:=(h1V.block _ (lt_of_block HGE.out)).trans HGE.out;have h2:=(B2.out.block _ (lt_of_block h1) (by have h4:=HG0.out;have h5:=HS1.out;omega)).trans h1;exact (hb.block _ (lt_of_block h2)).trans h2
    have HZ3:Hid (V3.heap[w.heap.size+1]? =some (.cells zA 39 (0,0))):=by
     have h1:=(h1V.block _ (lt_of_block HG3.out)).trans HG3.out;have h2:=(B2.out.block _ (lt_of_block h1) (by have h4:=HG0.out;have h5:=HS1.out;omega)).trans h1;exact (hb.block _ (lt_of_block h2)).trans h2
    have hE4:=(Below.heap_alloc V3 (.cells (cR R) tR) _ (lt_of_block hE3)).trans hE3;have e0:(V3.alloc (.cells (cR R) tR)).cell? ⟨w.heap.size,0,none⟩=some (.int .i64 dv):=by rw [cell_of_row _ _ 0 _ _ _ hE4];rfl
    have e1:(V3.alloc (.cells (cR R) tR)).cell? ⟨w.heap.size,1,none⟩=some (.int .i64 sq):=by rw [cell_of_row _ _ 1 _ _ _ hE4];rfl
    have HGN:Hid (((V3.alloc (.cells (cR R) tR)).alloc (.cells zA 39)).heap[V3.heap.size+1]? =some (.cells zA 39 (0,0))):=by
     have:=heap_alloc_new (V3.alloc (.cells (cR R) tR)) (.cells zA 39)
     show _=_
     simpa using this
    clear h3 hu hb hE3 hE4 h1V)
  |(with_reducible refine ya3 (o:=⟨none,.store tR (.tmp 5) (.tmp 30),_,_,_,_⟩) rfl tR (.tmp 5) (.tmp 30) rfl tR _ (cR R) rfl rfl (cR_size R) rfl (cR_one R) ?_)
  |(with_reducible refine wpList_load_mid (op:=⟨some 36,_,_,_,_,_⟩) rfl tR (.tmp 5) rfl V3.heap.size 0 rfl (cR R).toList _ (ycH (heap_alloc_new V3 _)) Tryz.underlying35 rfl (ycl R) ?_)
  |(with_reducible refine ya6 (o:=⟨some 37,_,_,_,_,_⟩) rfl 39 acP37 yaV (cA dv sq R ⟨#[]⟩ 0 ⟨#[]⟩ ⟨#[]⟩) (acB37 _ dv sq R rfl rfl rfl) ?_)
  |((with_reducible refine yaZ (o:=⟨none,_,_,_,_,_⟩) rfl 39 (.tmp 7) (.tmp 37) rfl (V3.heap.size+1) 39 _ _ rfl rfl HGN.out (ydj dv sq R ⟨#[]⟩ 0 ⟨#[]⟩ ⟨#[]⟩) rfl (cA_one dv sq R ⟨#[]⟩ 0 ⟨#[]⟩ ⟨#[]⟩) ?_);intro V4 HG4 HB4))
 have h34:Below V3.heap.size V3 V4:=(((Below.refl _ V3).alloc nl (.cells (cR R) tR)).alloc sI (.cells zA 39)).trans (HB4.out.below yaW (fun i hi=>by subst hi;omega));have HG4':=HG4;have hgl:g < V3.heap.size:=D3.out.lt
 have D4:Hid (DT 39 V4 V4 g A1 n c1 bs s1 (V3.heap.size+1) (cA dv sq R ⟨#[]⟩ 0 ⟨#[]⟩ ⟨#[]⟩)):=⟨D3.out.on h34,HG4.out,But.refl _ _,by omega,fun a ha=>by
  have h1:=(HA0.out a ha).2;have h2:V0.heap.size≤V1.heap.size:=B1.out.size;have h3:V1.heap.size≤V2.heap.size:=B2.out.size;have h4:=B3.out.size
  omega⟩
 have HBw:Hid (Below w.heap.size w V4):=HB3.out.trans (h34.mono HB3.out.size);have HZ4:Hid (V4.heap[w.heap.size+1]? =some (.cells zA 39 (0,0))):=(h34.block _ (lt_of_block HZ3.out)).trans HZ3.out;have H34:=lh h34;have HGL:=lh hgl;have HG2:Hid (g < V2.heap.size):=D2.out.lt;have HGW:Hid (w.heap.size+1+1≤g):=by show _≤_;have h2:=HG0.out;have h3:=HS1.out;omega
 obtain ⟨X,hX⟩:∃X,X=V3.heap.size+1:=⟨_,rfl⟩
 have HXE:=lh hX;rw [←hX] at D4 ⊢;clear h34 HG4' hgl D0 D1 HB4 HG4 e0 e1 H1 HLF HNu HNR HGN HA0 hX
 go_upto_region 11 with (first
  |(go_at_call 170;(with_reducible refine (H2.out g A1 c1 _ HC1.out D4.out.rd).mono ?_);rintro e V5 ⟨rfl,r,b⟩
    have D5:=lh (D4.out.read r b)
    clear r b)
  |((with_reducible refine ydz (o:=⟨none,_,_,_,_,_⟩) rfl 31 (.tmp 41) (.tmp 39) rfl X 39 16 _ _ _ rfl rfl D5.out.pc (cA17 _ _ _ _ _ _ _) Tryz.sizePid (pid_one _ _) ?_);intro V6 HG6 HB6
    have D6:Hid (DT 39 V4 V6 g A1 n c1 bs s2 X (cA dv sq R st ix ⟨#[]⟩ ⟨#[]⟩)):=D5.out.set HG6.out HB6.out
    clear HG6 HB6)
  |(go_at_call 172;(with_reducible refine (H3.out g A1 c1 _ HC1.out D6.out.rd).mono ?_);rintro e V7 ⟨rfl,r,b⟩
    have dx:=D6.out.read r b;have y:=cell_of_row V7 X 18 _ _ _ dx.pc;have z:=frozen_of_row V7 X 18 _ _ dx.pc;simp at y;have D7:Hid (DT 39 V4 (V7.setCell ⟨X,18,none⟩ (.string no)) g A1 n c1 bs s3 X (cA dv sq R st ix no ⟨#[]⟩)):=dx.cell 18 (.string no)
    clear r b dx)
  |(go_at_call 172;(with_reducible refine (H4.out g A1 c1 _ HC1.out D7.out.rd).mono ?_);rintro e V8 ⟨rfl,r,b⟩
    clear y z;have dx:=D7.out.read r b;have y:=cell_of_row V8 X 19 _ _ _ dx.pc;have z:=frozen_of_row V8 X 19 _ _ dx.pc;simp at y;have D8:Hid (DT 39 V4 (V8.setCell ⟨X,19,none⟩ (.string an)) g A1 n c1 bs s4 X (cA dv sq R st ix no an)):=dx.cell 19 (.string an)
    clear r b dx))
 clear y z D4 D5 D6 D7;obtain ⟨VE,hVE⟩:∃V:World,V=V8.setCell ⟨X,19,none⟩ (.string an):=⟨_,rfl⟩
 rw [←hVE] at D8 ⊢;clear hVE;obtain ⟨⟨pv,hrd⟩,hsl⟩:=D8.out.rd;have HEN:=lh (ydF g A1 n c1 _ pv _ VE hrd)
 have H3E:Hid (But (fun k=>k=g) V3 VE):=(But.of_below H34.out).trans D8.out.but (fun i hi=>by
  rcases hi with rfl |rfl
  ·exact .inl rfl
  ·exact .inr (by have:=HXE.out;omega))
 have HBV:Hid (Below w.heap.size w VE):=HB3.out.trans (H3E.out.below HB3.out.size (fun i hi=>by have h2:=HGW.out;subst hi;omega));have HZE:Hid (VE.heap[w.heap.size+1]? =some (.cells zA 39 (0,0))):=(H3E.out.block _ (lt_of_block HZ3.out) (by have h2:=HGW.out;omega)).trans HZ3.out;have HPC:=lh D8.out.pc;obtain ⟨p6,e6⟩:=s4;dsimp only at HEN HOK;obtain ⟨z,hz⟩:∃z:Int,(if e6=0 then (if p6 < n then 3 else 0) else e6)=z:=⟨_,rfl⟩
 rw [hz] at HEN;have HU2:=lh HU.out;clear D8 hrd hsl HU
 by_cases hz0:z=0
 ·subst hz0
  have hd6:decide (e6=0∧¬p6 < n)=true:=by
   by_cases h1:e6=0
   ·rw [if_pos h1] at hz
    by_cases h2:p6 < n
    ·rw [if_pos h2] at hz;cases hz
    ·exact decide_eq_true ⟨h1,h2⟩
   ·rw [if_neg h1] at hz;exact absurd hz h1
  rw [hd6,Bool.true_and] at HOK;clear hz hd6;rcases HU2.out with ⟨hokr,rfl,⟨pa,pb,pc,hR⟩,hrows⟩ |⟨hokr,rfl⟩
  ·rw [hokr] at HOK
   have HRE:=lh hR;have HRO:=lh hrows;clear hokr hR hrows HU2
   go_wp2_with (first
    |(go_at_call 142;(with_reducible refine HEN.out.mono ?_);rintro e w8 ⟨rfl,b8⟩
      have B8:=lh b8;have P8:Hid (w8.heap[X]? =some (.cells (cA dv sq R st ix no an) 39 (0,0))):=(b8.block _ (lt_of_block HPC.out)).trans HPC.out;have Z8:=lh ((b8.block _ (lt_of_block HZE.out)).trans HZE.out)
      clear b8)
    |(with_reducible refine wpList_load_mid (op:=⟨some 62,_,_,_,_,_⟩) rfl 39 (.tmp 7) rfl X 0 rfl (cA dv sq R st ix no an).toList _ (rangeA P8.out) Tryz.underlying39 rfl (sizeAL dv sq R st ix no an) ?_)
    |((with_reducible refine yaZ (o:=⟨none,_,_,_,_,_⟩) rfl 39 (.tmp 2) (.tmp 62) rfl (w.heap.size+1) 39 _ _ rfl rfl Z8.out (ydj dv sq R st ix no an) rfl (cA_one dv sq R st ix no an) ?_);intro W7 HG7 HB7))
   refine bodyPost_ret (ybq rfl _ _ _ _ _ _ _ rfl HG7.out Tryz.underlying39 rfl (ydj dv sq R st ix no an)) rfl (.inl ⟨HOK.out,pa,pb,pc,by rw [←HRE.out];rfl,?_,?_⟩)
   ·rw [←HRE.out]
    have q1:=HRO.out.but H3E.out (fun k hk _ e=>by have:=HG2.out;omega);have q2:=q1.on B8.out;have q3:=q2.but HB7.out (fun k hk _ e=>by have h1:=HG2.out;have h2:=HGW.out;omega);exact q3.low (by have h1:=HG2.out;have h2:=HGW.out;omega)
   ·have h1:=HBV.out.trans (B8.out.mono HBV.out.size)
    exact h1.trans (HB7.out.below h1.size (fun i hi=>by subst hi;omega))
  ·rw [hokr] at HOK
   clear hokr HU2
   go_wp2_with (first
    |(go_at_call 142;(with_reducible refine HEN.out.mono ?_);rintro e w8 ⟨rfl,b8⟩
      have B8:=lh b8;have Z8:=lh ((b8.block _ (lt_of_block HZE.out)).trans HZE.out)
      clear b8)
    |((with_reducible refine yaZ (o:=⟨none,_,_,_,_,_⟩) rfl 39 (.tmp 2) (.tmp 61) rfl (w.heap.size+1) 39 _ _ rfl rfl Z8.out ycw rfl zA_one ?_);intro W7 HG7 HB7))
   refine bodyPost_ret (ybq rfl _ _ _ _ _ _ _ rfl HG7.out Tryz.underlying39 rfl ycw) rfl (.inr ⟨HOK.out,rfl,?_⟩);have h1:=HBV.out.trans (B8.out.mono HBV.out.size);exact h1.trans (HB7.out.below h1.size (fun i hi=>by subst hi;omega))
 ·have hd6:decide (e6=0∧¬p6 < n)=false:=by
   by_cases h1:e6=0
   ·rw [if_pos h1] at hz
    by_cases h2:p6 < n
    ·exact decide_eq_false (fun h=>h.2 h2)
    ·rw [if_neg h2] at hz;exact absurd hz.symm hz0
   ·exact decide_eq_false (fun h=>h1 h.1)
  rw [hd6,Bool.false_and] at HOK;have hzb:(z != 0)=true:=by simp [hz0]
  clear hz hd6 hz0 HU2
  ·
   go_wp2_with (first
    |(go_at_call 142;(with_reducible refine HEN.out.mono ?_);rintro e w8 ⟨rfl,b8⟩
      have B8:=lh b8;have Z8:=lh ((b8.block _ (lt_of_block HZE.out)).trans HZE.out)
      clear b8)
    |((with_reducible refine yaZ (o:=⟨none,_,_,_,_,_⟩) rfl 39 (.tmp 2) (.tmp 61) rfl (w.heap.size+1) 39 _ _ rfl rfl Z8.out ycw rfl zA_one ?_);intro W7 HG7 HB7))
   refine bodyPost_ret (ybq rfl _ _ _ _ _ _ _ rfl HG7.out Tryz.underlying39 rfl ycw) rfl (.inr ⟨HOK.out,rfl,?_⟩);have h1:=HBV.out.trans (B8.out.mono HBV.out.size);exact h1.trans (HB7.out.below h1.size (fun i hi=>by subst hi;omega))
