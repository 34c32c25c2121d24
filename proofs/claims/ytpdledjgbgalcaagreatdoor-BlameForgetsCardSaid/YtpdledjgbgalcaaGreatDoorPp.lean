/- receipt.writeSums, writeSigned. receipt.Encode. The reference: Valid of a receipt; isToken. EncodeAccusation. An acquittal's body, read back. The reference's Token; the law's short; an accusation's body read back. -/
import Derived.Test.YtpdledjgbgalcaaGreatDoorQ2
import Derived.Test.YtpdledjgbgalcaaGreatDoorPm
import Derived.Test.YtpdledjgbgalcaaGreatDoorS4
import Derived.Test.YtpdledjgbgalcaaGreatDoorMc
import Derived.Test.YtpdledjgbgalcaaGreatDoorQ5
namespace Go.Proofs.YtpdledjgbgalcaaGreatDoor
set_option maxRecDepth 100000
set_option maxHeartbeats 4000000
open Go.RowKit Go.Lib
set_option linter.unusedVariables false
set_option linter.unusedSimpArgs false
theorem Wc.comp {g base:Nat} {v v1:Value} {w0 w w':World} {bs':List Int} (hb:But (foot g v) w0 w) (hn:NewRow v v1 w0) (k:Wc g base v1 w bs' w'):Wc g base v w0 bs' w':=by
 obtain ⟨v2,k1,k2,k3⟩:=k;exact ⟨v2,k1,hb.wr hn k2,hn.trans k3 hb.size⟩
def encLs (ys:List ByteArray):List Int:=enc ys.length++ys.flatMap sB
def encSg (hd vt:Nat) (s:ByteArray) (ix sz dy sr:Nat):List Int:=enc hd++(enc vt++(sB s++(enc ix++(enc sz++(enc dy++enc sr)))))
theorem wsigned_any (g base:Nat) (v:Value) (bs:List Int) (hd vt ix sz dy sr:Nat) (s rt:ByteArray) (ct pl si:Int) (pa pb pc:Hd) (w:World) (hw:Wr w g base v bs) (hs:s.size=32) (hN:hd≤1099511627776∧vt≤1099511627776∧ix≤1099511627776∧sz≤1099511627776∧dy≤1099511627776∧sr≤1099511627776) (hlen:bs.length≤900000):
 Calls Tryz.prog 150 #[.pointer (some ⟨g,0,none⟩),.agg #[.int .i64 (hd:Int),.int .i64 (vt:Int),.string s,.int .i64 (ix:Int),.int .i64 (sz:Int),.int .i64 (dy:Int),.int .i64 (sr:Int),.int .i64 ct,.int .i64 pl,.string rt,.slice pa.a pa.n pa.c,.int .i64 si,.slice pb.a pb.n pb.c,.slice pc.a pc.n pc.c]] w (WPost g base v (bs++encSg hd vt s ix sz dy sr) w):=by
 obtain ⟨W,hW⟩:∃W:World,W=w.alloc (.cells #[.int .i64 (hd:Int),.int .i64 (vt:Int),.string s,.int .i64 (ix:Int),.int .i64 (sz:Int),.int .i64 (dy:Int),.int .i64 (sr:Int),.int .i64 ct,.int .i64 pl,.string rt,.slice pa.a pa.n pa.c,.int .i64 si,.slice pb.a pb.n pb.c,.slice pc.a pc.n pc.c] 35):=⟨_,rfl⟩
 have hK:W.heap[w.heap.size]? =some (.cells #[.int .i64 (hd:Int),.int .i64 (vt:Int),.string s,.int .i64 (ix:Int),.int .i64 (sz:Int),.int .i64 (dy:Int),.int .i64 (sr:Int),.int .i64 ct,.int .i64 pl,.string rt,.slice pa.a pa.n pa.c,.int .i64 si,.slice pb.a pb.n pb.c,.slice pc.a pc.n pc.c] 35 (0,0)):=by rw [hW];exact heap_alloc_new w _
 have hW0:Wc g base v W bs W:=by rw [hW];exact Wc.start (hw.alloc _)
 have hF:=hw.fresh
 have HK:Hid (∀bs' V,Wc g base v W bs' V→V.cell? ⟨w.heap.size,0,none⟩=some (.int .i64 (hd:Int))∧V.cell? ⟨w.heap.size,1,none⟩=some (.int .i64 (vt:Int))∧V.cell? ⟨w.heap.size,2,none⟩=some (.string s)∧V.cell? ⟨w.heap.size,3,none⟩=some (.int .i64 (ix:Int))∧V.cell? ⟨w.heap.size,4,none⟩=some (.int .i64 (sz:Int))∧V.cell? ⟨w.heap.size,5,none⟩=some (.int .i64 (dy:Int))∧V.cell? ⟨w.heap.size,6,none⟩=some (.int .i64 (sr:Int))):=fun bs' V h=>by
  have hq:=(h.keep hF (lt_of_block hK)).trans hK;refine ⟨?_,?_,?_,?_,?_,?_,?_⟩<;>(rw [cell_of_row V _ _ _ _ _ hq];rfl)
 have HP:Hid (∀bs' V,Wc g base v W bs' V→WPost g base v bs' w (.returned (.tuple #[])) V):=fun bs' V h=>by rw [hW] at h;exact h.behind.post
 have HWE:=lh hW;have H0:=lh hW0;obtain ⟨c0,c1,c2,c3,c4,c5,c6⟩:=HK.out _ _ H0.out;obtain ⟨n0,n1,n2,n3,n4,n5⟩:=hN;have m0:(hd:Int) % 18446744073709551616=hd:=by omega
 have m1:(vt:Int) % 18446744073709551616=vt:=by omega
 have hsl:(sB s).length=32:=(ya9 s).trans hs;have HC1:=lh (H0.out.step (P:=Tryz.prog) (fun v' hv' _=>ybp g base v' bs hd W hv' om om));rw [hW] at c0 c1 c2 c3 c4 c5 c6;clear hw hK hW0 hF hW;go_enter Tryz.func150,Tryz.ntmps150
 go_wp2_with fail
 rw [←HWE.out];refine HC1.out.mono ?_;rintro e V1 ⟨rfl,h1⟩;clear c0 c1 c2 c3 c4 c5 c6;obtain ⟨c0,c1,c2,c3,c4,c5,c6⟩:=HK.out _ _ h1;have HC2:=lh (h1.step (P:=Tryz.prog) (fun v' hv' _=>ybp g base v' _ vt V1 hv' om (by have:=ya1 hd;simp only [List.length_append];omega)));clear h1
 go_wp2_with fail
 refine HC2.out.mono ?_;rintro e V2 ⟨rfl,h2⟩;clear c0 c1 c2 c3 c4 c5 c6;obtain ⟨c0,c1,c2,c3,c4,c5,c6⟩:=HK.out _ _ h2;have HC3:=lh (h2.step (P:=Tryz.prog) (fun v' hv' _=>ydA g base v' _ s V2 hv' hs (by have:=ya1 hd;have:=ya1 vt;simp only [List.length_append];omega)));clear h2
 go_wp2_with fail
 refine HC3.out.mono ?_;rintro e V3 ⟨rfl,h3⟩;clear c0 c1 c2 c3 c4 c5 c6;obtain ⟨c0,c1,c2,c3,c4,c5,c6⟩:=HK.out _ _ h3;obtain ⟨L,hL⟩:∃L,L=bs++enc hd++enc vt++sB s:=⟨_,rfl⟩
 rw [←hL] at h3;have hLl:L.length≤900060:=by rw [hL];have:=ya1 hd;have:=ya1 vt;simp only [List.length_append];omega
 obtain ⟨v3,hw3,hb3,hn3⟩:=h3;obtain ⟨V4,hV4⟩:∃V:World,V=V3.alloc (.cells #[.int .i64 (ix:Int),.int .i64 (sz:Int),.int .i64 (dy:Int),.int .i64 (sr:Int)] 3):=⟨_,rfl⟩
 have H4:Hid (Wc g base v3 V4 L V4):=by show Wc _ _ _ _ _ _;rw [hV4];exact Wc.start (hw3.alloc _)
 have hq4:V4.heap[V3.heap.size]? =some (.cells #[.int .i64 (ix:Int),.int .i64 (sz:Int),.int .i64 (dy:Int),.int .i64 (sr:Int)] 3 (0,0)):=by rw [hV4];exact heap_alloc_new V3 _
 have hF3:=hw3.fresh;have HQ:Hid (∀bs' V,Wc g base v3 V4 bs' V→V.heap[V3.heap.size]? =some (.cells #[.int .i64 (ix:Int),.int .i64 (sz:Int),.int .i64 (dy:Int),.int .i64 (sr:Int)] 3 (0,0))):=fun bs' V h=>(h.keep hF3 (lt_of_block hq4)).trans hq4
 have HCo:Hid (∀bs' V,Wc g base v3 V4 bs' V→Wc g base v W bs' V):=fun bs' V h=>Wc.comp (by rw [hV4];exact hb3.alloc _) hn3 h
 have HV4:=lh hV4;have HLE:=lh hL;clear hw3 hb3 hn3 hV4 hq4 hF3 hL
 go_wp2_with fail
 clear c0 c1 c2 c3 c4 c5 c6;rw [←HV4.out]
 go_loopw [32] (fun i wr=>∃k:Nat,k≤4∧i= .int .i64 k∧Hid (Wc g base v3 V4 (L++(([ix,sz,dy,sr]:List Nat).take k).flatMap enc) wr)) (fun i _=>4 - (intOf i).toNat)
 case atStart=>exact ⟨0,by omega,rfl,by show Wc _ _ _ _ _ _;simpa using H4.out⟩
 case round=>
  obtain ⟨k,hk,rfl,HR⟩:=hrel;rcases (show k=0∨k=1∨k=2∨k=3∨k=4 by omega) with rfl |rfl |rfl |rfl |rfl
  ·have m:(ix:Int) % 18446744073709551616=ix:=by omega
   have y:wr.cell? ⟨V3.heap.size,0,none⟩=some (.int .i64 (ix:Int)):=by rw [cell_of_row wr _ 0 _ _ _ (HQ.out _ _ HR.out)];rfl
   have HC:=lh (HR.out.step (P:=Tryz.prog) (fun v' hv' _=>ybp g base v' _ ix wr hv' om yaH))
   go_wp2_with fail
   refine HC.out.mono ?_;rintro e V6 ⟨rfl,h6⟩
   have H6:Hid (Wc g base v3 V4 (L++(([ix,sz,dy,sr]:List Nat).take 1).flatMap enc) V6):=by
    show Wc _ _ _ _ _ _
    have e:L++(([ix,sz,dy,sr]:List Nat).take 0).flatMap enc++enc ix=L++(([ix,sz,dy,sr]:List Nat).take 1).flatMap enc:=by simp [List.flatMap_cons]
    rw [e] at h6;exact h6
   clear h6 y m;go_wp2;refine ⟨?rel,?measure⟩
   case rel=>exact ⟨1,by omega,rfl,H6⟩
   case measure=>simp [intOf]
  ·have m:(sz:Int) % 18446744073709551616=sz:=by omega
   have y:wr.cell? ⟨V3.heap.size,1,none⟩=some (.int .i64 (sz:Int)):=by rw [cell_of_row wr _ 1 _ _ _ (HQ.out _ _ HR.out)];rfl
   have HC:=lh (HR.out.step (P:=Tryz.prog) (fun v' hv' _=>ybp g base v' _ sz wr hv' om yaH))
   go_wp2_with fail
   refine HC.out.mono ?_;rintro e V6 ⟨rfl,h6⟩
   have H6:Hid (Wc g base v3 V4 (L++(([ix,sz,dy,sr]:List Nat).take 2).flatMap enc) V6):=by
    show Wc _ _ _ _ _ _
    have e:L++(([ix,sz,dy,sr]:List Nat).take 1).flatMap enc++enc sz=L++(([ix,sz,dy,sr]:List Nat).take 2).flatMap enc:=by simp [List.flatMap_cons]
    rw [e] at h6;exact h6
   clear h6 y m;go_wp2;refine ⟨?rel,?measure⟩
   case rel=>exact ⟨2,by omega,rfl,H6⟩
   case measure=>simp [intOf]
  ·have m:(dy:Int) % 18446744073709551616=dy:=by omega
   have y:wr.cell? ⟨V3.heap.size,2,none⟩=some (.int .i64 (dy:Int)):=by rw [cell_of_row wr _ 2 _ _ _ (HQ.out _ _ HR.out)];rfl
   have HC:=lh (HR.out.step (P:=Tryz.prog) (fun v' hv' _=>ybp g base v' _ dy wr hv' om yaH))
   go_wp2_with fail
   refine HC.out.mono ?_;rintro e V6 ⟨rfl,h6⟩
   have H6:Hid (Wc g base v3 V4 (L++(([ix,sz,dy,sr]:List Nat).take 3).flatMap enc) V6):=by
    show Wc _ _ _ _ _ _
    have e:L++(([ix,sz,dy,sr]:List Nat).take 2).flatMap enc++enc dy=L++(([ix,sz,dy,sr]:List Nat).take 3).flatMap enc:=by simp [List.flatMap_cons]
    rw [e] at h6;exact h6
   clear h6 y m;go_wp2;refine ⟨?rel,?measure⟩
   case rel=>exact ⟨3,by omega,rfl,H6⟩
   case measure=>simp [intOf]
  ·have m:(sr:Int) % 18446744073709551616=sr:=by omega
   have y:wr.cell? ⟨V3.heap.size,3,none⟩=some (.int .i64 (sr:Int)):=by rw [cell_of_row wr _ 3 _ _ _ (HQ.out _ _ HR.out)];rfl
   have HC:=lh (HR.out.step (P:=Tryz.prog) (fun v' hv' _=>ybp g base v' _ sr wr hv' om yaH))
   go_wp2_with fail
   refine HC.out.mono ?_;rintro e V6 ⟨rfl,h6⟩
   have H6:Hid (Wc g base v3 V4 (L++(([ix,sz,dy,sr]:List Nat).take 4).flatMap enc) V6):=by
    show Wc _ _ _ _ _ _
    have e:L++(([ix,sz,dy,sr]:List Nat).take 3).flatMap enc++enc sr=L++(([ix,sz,dy,sr]:List Nat).take 4).flatMap enc:=by simp [List.flatMap_cons]
    rw [e] at h6;exact h6
   clear h6 y m;go_wp2;refine ⟨?rel,?measure⟩
   case rel=>exact ⟨4,by omega,rfl,H6⟩
   case measure=>simp [intOf]
  ·go_wp2
   go_end0
   have h:=HP.out _ _ (HCo.out _ _ HR.out)
   have e:L++(([ix,sz,dy,sr]:List Nat).take 4).flatMap enc=bs++encSg hd vt s ix sz dy sr:=by
    rw [HLE.out];simp [encSg,List.flatMap_cons]
   rw [e] at h;exact h
def encRc (r:Rcp) (ps qs rs:List ByteArray):List Int:=
 encSg r.hd.toNat r.vt.toNat r.s r.ix.toNat r.sz.toNat r.dy.toNat r.sr.toNat++(enc r.ct.toNat++(enc r.pl.toNat++(encLs ps++(sB r.rt++(enc r.si.toNat++(encLs qs++encLs rs))))))
theorem encLs_len {ys:List ByteArray} (h:∀z∈ys,z.size=32):(encLs ys).length≤10+32*ys.length:=by
 unfold encLs;have h1:=ya1 ys.length;rw [List.length_append,yby h];omega
theorem yc7 (hd vt ix sz dy sr:Nat) (s:ByteArray) (hs:s.size=32):(encSg hd vt s ix sz dy sr).length≤92:=by
 unfold encSg;have h1:=ya1 hd;have h2:=ya1 vt;have h3:=ya1 ix;have h4:=ya1 sz;have h5:=ya1 dy;have h6:=ya1 sr;have h7:=ya9 s;simp only [List.length_append];omega
theorem ybD {r:Rcp} {ps qs rs:List ByteArray} (h:vaB r ps qs rs=true):(0≤r.hd∧r.hd≤11)∧(0≤r.vt∧r.vt≤11)∧r.s.size=32∧(0≤r.ix∧r.ix≤15)∧(1≤r.sz∧r.sz≤65536)∧(0≤r.dy∧r.dy≤999999)∧(0≤r.sr∧r.sr≤1099511627776)∧(1≤r.ct∧r.ct≤256)∧(0≤r.pl∧r.pl≤r.ct - 1)∧r.rt.size=32∧(ps.length≤8∧∀z∈ps,z.size=32)∧(rs.length≤8∧∀z∈rs,z.size=32)∧(qs.length≤300∧∀z∈qs,z.size=32)∧(0≤r.si∧r.si≤255):=by
 unfold vaB pvB rgB arB at h;simp only [Bool.and_eq_true,decide_eq_true_eq] at h;obtain ⟨a1,⟨a2,a3,a4,a5⟩,a6,a7,a8,a9,a10,⟨a11,a12⟩,⟨a13,a14⟩,⟨a15,a16⟩,a17⟩:=h;exact ⟨a1,a2,a3,a4,a5,a6,a7,a8,a9,a10,⟨a11,ybC.1 a12⟩,⟨a13,ybC.1 a14⟩,⟨a15,ybC.1 a16⟩,a17⟩
theorem isToken_any (s:ByteArray) (ix:Int) (no an:ByteArray) (w:World):Calls Tryz.prog 38 #[.agg #[.string s,.int .i64 ix,.string no,.string an]] w fun e w'=>e= .returned (.bool (tkB s ix no an))∧Below w.heap.size w w':=by
 obtain ⟨W1,hW1⟩:∃W1:World,W1=w.alloc (.cells #[.string s,.int .i64 ix,.string no,.string an] 37):=⟨_,rfl⟩
 have hb1:Below w.heap.size w W1:=by rw [hW1];exact bl
 have hc:W1.heap[w.heap.size]? =some (.cells #[.string s,.int .i64 ix,.string no,.string an] 37 (0,0)):=by rw [hW1];exact heap_alloc_new w _
 have HC:Hid (∀V,Below W1.heap.size W1 V→V.cell? ⟨w.heap.size,2,none⟩=some (.string no)∧V.cell? ⟨w.heap.size,3,none⟩=some (.string an)):=fun V hb=>by
  have h:=(hb.block _ (lt_of_block hc)).trans hc;exact ⟨by rw [cell_of_row V _ 2 _ _ _ h];rfl,by rw [cell_of_row V _ 3 _ _ _ h];rfl⟩
 have H0:=lh (isID_any s ix W1);have HB1:=lh hb1;have HWE:=lh hW1;rw [hW1] at H0;unfold tkB;clear hb1 hc hW1
 cases h0:idB s ix
 ·rw [h0] at H0
  skip
  have HH0:=lh h0;clear h0;go_enter Tryz.func38,Tryz.ntmps38
  go_wp2_with (first
   |(go_at_call 85;(with_reducible refine H0.out.mono ?_);rintro e w2 ⟨rfl,hb2⟩;rw [←HWE.out] at hb2;(have HB2:=lh (HB1.out.trans (hb2.mono HB1.out.size)));obtain ⟨q2,q3⟩:=HC.out _ hb2;clear hb2))
  go_ret;exact ⟨ya2 yaB,HB2.out⟩
 ·rw [h0] at H0
  skip
  have HH0:=lh h0;clear h0
  cases h1:decide (no.size=32)
  ·have hz1:((((no).size:Nat):Int)==32)=false:=by have:=of_decide_eq_false h1;simp;omega
   have hz101:((((no).size:Nat):Int) != 32)=true:=by have:=of_decide_eq_false h1;simp;omega
   skip
   have HH1:=lh h1;clear h1;go_enter Tryz.func38,Tryz.ntmps38
   go_wp2_with (first
    |(go_at_call 85;(with_reducible refine H0.out.mono ?_);rintro e w2 ⟨rfl,hb2⟩;rw [←HWE.out] at hb2;(have HB2:=lh (HB1.out.trans (hb2.mono HB1.out.size)));obtain ⟨q2,q3⟩:=HC.out _ hb2;clear hb2))
   go_ret;exact ⟨ya2 yay,HB2.out⟩
  ·have hz1:(((no).size:Nat):Int)=32:=by have:=of_decide_eq_true h1;omega
   skip
   have HH1:=lh h1;clear h1
   cases h2:decide (an.size=32)
   ·have hz2:((((an).size:Nat):Int)==32)=false:=by have:=of_decide_eq_false h2;simp;omega
    have hz102:((((an).size:Nat):Int) != 32)=true:=by have:=of_decide_eq_false h2;simp;omega
    skip
    have HH2:=lh h2;clear h2;go_enter Tryz.func38,Tryz.ntmps38
    go_wp2_with (first
     |(go_at_call 85;(with_reducible refine H0.out.mono ?_);rintro e w2 ⟨rfl,hb2⟩;rw [←HWE.out] at hb2;(have HB2:=lh (HB1.out.trans (hb2.mono HB1.out.size)));obtain ⟨q2,q3⟩:=HC.out _ hb2;clear hb2))
    go_ret;exact ⟨ya2 yat,HB2.out⟩
   ·have hz2:(((an).size:Nat):Int)=32:=by have:=of_decide_eq_true h2;omega
    skip
    have HH2:=lh h2;clear h2;go_enter Tryz.func38,Tryz.ntmps38
    go_wp2_with (first
     |(go_at_call 85;(with_reducible refine H0.out.mono ?_);rintro e w2 ⟨rfl,hb2⟩;rw [←HWE.out] at hb2;(have HB2:=lh (HB1.out.trans (hb2.mono HB1.out.size)));obtain ⟨q2,q3⟩:=HC.out _ hb2;clear hb2))
    go_ret;exact ⟨ya2 yat,HB2.out⟩
def encAc (r:Rcp) (ps qs rs:List ByteArray) (st:ByteArray) (ix:Nat) (no an:ByteArray):List Int:=
 (enc (encRc r ps qs rs).length++encRc r ps qs rs)++((sB st++enc ix)++(sB no++sB an))
theorem yc8 {r:Rcp} {ps qs rs:List ByteArray} (h:vaB r ps qs rs=true):(encRc r ps qs rs).length≤12000:=by
 obtain ⟨y0,y1,y2,y3,y4,y5,y6,y7,y8,y9,⟨y10,y11⟩,⟨y12,y13⟩,⟨y14,y15⟩,y16⟩:=ybD h;unfold encRc;have e1:=yc7 r.hd.toNat r.vt.toNat r.ix.toNat r.sz.toNat r.dy.toNat r.sr.toNat r.s y2;have e2:=ya1 r.ct.toNat;have e3:=ya1 r.pl.toNat;have e4:=encLs_len y11;have e5:(sB r.rt).length=32:=(ya9 r.rt).trans y9;have e6:=ya1 r.si.toNat;have e7:=encLs_len y15;have e8:=encLs_len y13;simp only [List.length_append];omega
open Go.RowKit
theorem rN_rt {bs:List Int} {a m p n:Nat} (h:AtL bs p (enc n)) (ha:a≤n) (hm:n≤m) (hn:n < 18446744073709551616):rN a m bs (p,0)=((n:Int),p+(enc n).length,0):=by
 unfold rN;rw [rU_rt h hn];simp only [and_self,if_true];rw [if_pos om]
theorem rY_rt {bs:List Int} {p m:Nat} {xs:List Int} (h:AtL bs p (enc xs.length++xs)) (h0:0 < xs.length) (hm:xs.length≤m) (hm2:m≤1000000):rY bs m (p,0)=(xs,p+(enc xs.length++xs).length,0):=by
 have h1:=lim_rt h.left hm hm2;have h2:=h.right.fits h0;have h3:=h.right.cut;apply rV_go;unfold blkL;simp only;rw [h1];simp only [if_true,Int.toNat_natCast];unfold tkL;rw [if_neg om,h3,List.length_append]
 congr 2
 omega
theorem rId_rt {bs:List Int} {p ix:Nat} {s:ByteArray} (h:AtL bs p (sB s++enc ix)) (hs:s.size=32) (hi:ix≤15):rId bs (p,0)=((s,(ix:Int)),p+(sB s++enc ix).length,0):=by
 unfold rId;rw [rS_rt h.left hs];simp only;rw [rN_rt h.right (Nat.zero_le _) hi om,List.length_append,Nat.add_assoc]
theorem rSums_rt {bs:List Int} {p:Nat} {ys:List ByteArray} (h:AtL bs p (ys.flatMap sB)) (hs:∀s∈ys,s.size=32):∀k,k≤ys.length→rSums bs k (p,0)=(ys.take k,p+32*k,0)
 |0,_=>by simp [rSums]
 |k+1,hk=>by
  have ih:=rSums_rt h hs k om;have hk1:ys[k]? =some ys[k]:=List.getElem?_eq_getElem om;have hy:=hs _ (List.mem_of_getElem? hk1)
  have hcut:ys.flatMap sB=(ys.take k).flatMap sB++(sB ys[k]++(ys.drop (k+1)).flatMap sB):=by
   rw [←List.append_assoc,←flat_snoc hk1,←List.flatMap_append,List.take_append_drop]
  rw [hcut] at h;have h1:=h.right.left;rw [yby (fun s hs'=>hs s (List.mem_of_mem_take hs')),List.length_take,Nat.min_eq_left om] at h1;rw [rSums,ih];simp only;rw [rS_rt h1 hy,yba hk1,ya9,hy,Nat.mul_succ,Nat.add_assoc]
theorem encA_read {d q ix:Nat} {s:ByteArray} {xs:List Int} {ys:List ByteArray} (hd:d≤11) (hq1:1≤q) (hq:q≤1099511627776) (hs:s.size=32) (hi:ix≤15) (hx1:1≤xs.length) (hx2:xs.length≤65536) (hy1:1≤ys.length) (hy2:ys.length≤16) (hys:∀z∈ys,z.size=32):
 okA (encA d q s ix xs ys)=true∧(dA1 (encA d q s ix xs ys)).1=d∧(dA2 (encA d q s ix xs ys)).1=q∧(dA3 (encA d q s ix xs ys)).1=(s,(ix:Int))∧(dA4 (encA d q s ix xs ys)).1=xs∧(dA6 (encA d q s ix xs ys)).1=ys:=by
 have hlen:(encA d q s ix xs ys).length=(enc d).length+(enc q).length+(sB s++enc ix).length+(enc xs.length++xs).length+(enc ys.length).length+32*ys.length:=by
  unfold encA;simp only [List.length_append,yby hys];omega
 obtain ⟨bs,hbs⟩:∃bs,bs=encA d q s ix xs ys:=⟨_,rfl⟩
 rw [←hbs] at hlen ⊢
 have h0:AtL bs 0 (enc d++(enc q++((sB s++enc ix)++((enc xs.length++xs)++(enc ys.length++ys.flatMap sB))))):=by
  have:=AtL.self bs
  rw [hbs] at this ⊢;unfold encA at this ⊢;simp only [List.append_assoc] at this ⊢;exact this
 have e1:dA1 bs=((d:Int),0+(enc d).length,0):=rN_rt h0.left (Nat.zero_le _) hd om;have e2:dA2 bs=((q:Int),0+(enc d).length+(enc q).length,0):=by unfold dA2;rw [e1];exact rN_rt h0.right.left hq1 hq om
 have e3:dA3 bs=((s,(ix:Int)),0+(enc d).length+(enc q).length+(sB s++enc ix).length,0):=by unfold dA3;rw [e2];exact rId_rt h0.right.right.left hs hi
 have e4:dA4 bs=(xs,0+(enc d).length+(enc q).length+(sB s++enc ix).length+(enc xs.length++xs).length,0):=by unfold dA4;rw [e3];exact rY_rt h0.right.right.right.left om hx2 de
 have e5:dA5 bs=((ys.length:Int),0+(enc d).length+(enc q).length+(sB s++enc ix).length+(enc xs.length++xs).length+(enc ys.length).length,0):=by unfold dA5;rw [e4];exact rC_rt h0.right.right.right.right.left hy2 de
 have e6:dA6 bs=(ys,0+(enc d).length+(enc q).length+(sB s++enc ix).length+(enc xs.length++xs).length+(enc ys.length).length+32*ys.length,0):=by
  unfold dA6;rw [e5];simp only [Int.toNat_natCast];rw [rSums_rt h0.right.right.right.right.right hys _ nl,List.take_of_length_le nl]
 refine ⟨?_,by rw [e1],by rw [e2],by rw [e3],by rw [e4],by rw [e6]⟩;unfold okA;rw [e3,e4,e6];simp only;rw [Bool.and_eq_true];refine ⟨decide_eq_true ⟨trivial,by omega⟩,?_⟩;unfold shL;exact decide_eq_true ⟨⟨hs,by omega,by omega⟩,⟨hx1,hx2⟩,⟨hy1,hy2⟩,ybC.2 hys⟩
theorem zM_rt {bs:List Int} {p n:Nat} (h:AtL bs p (enc n)) (hn:n≤1099511627776):zM bs (p,0)=((n:Int),p+(enc n).length,0):=rN_rt h (Nat.zero_le _) hn om
theorem rL_rt {bs:List Int} {p m:Nat} {ys:List ByteArray} (h:AtL bs p (encLs ys)) (hs:∀s∈ys,s.size=32) (hm:ys.length≤m) (hm2:m≤1000000):rL bs m (p,0)=(ys,p+(encLs ys).length,0):=by
 unfold encLs at h ⊢;unfold rL;rw [rC_rt h.left hm hm2];simp only [Int.toNat_natCast];rw [rSums_rt h.right hs _ nl,List.take_of_length_le nl,List.length_append,yby hs,Nat.add_assoc]
theorem encRc_read {r:Rcp} {ps qs rs:List ByteArray} (hv:vaB r ps qs rs=true):okR (encRc r ps qs rs)=true∧(∀pa pb pc,rcV (encRc r ps qs rs) pa pb pc={r with pa:=pa,pb:=pb,pc:=pc})∧(rc5 (encRc r ps qs rs)).1=ps∧(rc9 (encRc r ps qs rs)).1=qs∧(rcA (encRc r ps qs rs)).1=rs:=by
 have hv':=hv;obtain ⟨y0,y1,y2,y3,y4,y5,y6,y7,y8,y9,⟨y10,y11⟩,⟨y12,y13⟩,⟨y14,y15⟩,y16⟩:=ybD hv;obtain ⟨hd,vt,s,ix,sz,dy,sr,ct,pl,rt,pa,si,pb,pc⟩:=r;dsimp only at y0 y1 y2 y3 y4 y5 y6 y7 y8 y9 y16;obtain ⟨hd,rfl⟩:∃k:Nat,hd=k:=⟨hd.toNat,by omega⟩
 obtain ⟨vt,rfl⟩:∃k:Nat,vt=k:=⟨vt.toNat,by omega⟩
 obtain ⟨ix,rfl⟩:∃k:Nat,ix=k:=⟨ix.toNat,by omega⟩
 obtain ⟨sz,rfl⟩:∃k:Nat,sz=k:=⟨sz.toNat,by omega⟩
 obtain ⟨dy,rfl⟩:∃k:Nat,dy=k:=⟨dy.toNat,by omega⟩
 obtain ⟨sr,rfl⟩:∃k:Nat,sr=k:=⟨sr.toNat,by omega⟩
 obtain ⟨ct,rfl⟩:∃k:Nat,ct=k:=⟨ct.toNat,by omega⟩
 obtain ⟨pl,rfl⟩:∃k:Nat,pl=k:=⟨pl.toNat,by omega⟩
 obtain ⟨si,rfl⟩:∃k:Nat,si=k:=⟨si.toNat,by omega⟩
 obtain ⟨bs,hbs⟩:∃bs,bs=encRc ⟨(hd:Int),(vt:Int),s,(ix:Int),(sz:Int),(dy:Int),(sr:Int),(ct:Int),(pl:Int),rt,pa,(si:Int),pb,pc⟩ ps qs rs:=⟨_,rfl⟩
 have hcat:bs=enc hd++(enc vt++(sB s++(enc ix++(enc sz++(enc dy++(enc sr++(enc ct++(enc pl++(encLs ps++(sB rt++(enc si++(encLs qs++(encLs rs))))))))))))):=by
  rw [hbs];unfold encRc encSg;simp only [Int.toNat_natCast,List.append_assoc]
 rw [←hbs];have h0:AtL bs 0 (enc hd++(enc vt++(sB s++(enc ix++(enc sz++(enc dy++(enc sr++(enc ct++(enc pl++(encLs ps++(sB rt++(enc si++(encLs qs++(encLs rs)))))))))))))):=by rw [←hcat];exact AtL.self bs
 have hlen:bs.length=(enc hd).length+(enc vt).length+(sB s).length+(enc ix).length+(enc sz).length+(enc dy).length+(enc sr).length+(enc ct).length+(enc pl).length+(encLs ps).length+(sB rt).length+(enc si).length+(encLs qs).length+(encLs rs).length:=by
  rw [hcat];simp only [List.length_append];omega
 have e0:rc1 bs=((hd:Int),0+(enc hd).length,0):=by unfold rc1;exact zM_rt h0.left om
 have e1:rc2 bs=((vt:Int),0+(enc hd).length+(enc vt).length,0):=by unfold rc2;rw [e0];exact zM_rt h0.right.left om
 have e2:rc3 bs=(s,0+(enc hd).length+(enc vt).length+(sB s).length,0):=by unfold rc3;rw [e1];exact rS_rt h0.right.right.left y2
 have e3:ri1 bs=((ix:Int),0+(enc hd).length+(enc vt).length+(sB s).length+(enc ix).length,0):=by unfold ri1;rw [e2];exact zM_rt h0.right.right.right.left om
 have e4:ri2 bs=((sz:Int),0+(enc hd).length+(enc vt).length+(sB s).length+(enc ix).length+(enc sz).length,0):=by unfold ri2;rw [e3];exact zM_rt h0.right.right.right.right.left om
 have e5:ri3 bs=((dy:Int),0+(enc hd).length+(enc vt).length+(sB s).length+(enc ix).length+(enc sz).length+(enc dy).length,0):=by unfold ri3;rw [e4];exact zM_rt h0.right.right.right.right.right.left om
 have e6:ri4 bs=((sr:Int),0+(enc hd).length+(enc vt).length+(sB s).length+(enc ix).length+(enc sz).length+(enc dy).length+(enc sr).length,0):=by unfold ri4;rw [e5];exact zM_rt h0.right.right.right.right.right.right.left om
 have e7:ri5 bs=((ct:Int),0+(enc hd).length+(enc vt).length+(sB s).length+(enc ix).length+(enc sz).length+(enc dy).length+(enc sr).length+(enc ct).length,0):=by unfold ri5;rw [e6];exact zM_rt h0.right.right.right.right.right.right.right.left om
 have e8:ri6 bs=((pl:Int),0+(enc hd).length+(enc vt).length+(sB s).length+(enc ix).length+(enc sz).length+(enc dy).length+(enc sr).length+(enc ct).length+(enc pl).length,0):=by unfold ri6;rw [e7];exact zM_rt h0.right.right.right.right.right.right.right.right.left om
 have e9:rc5 bs=(ps,0+(enc hd).length+(enc vt).length+(sB s).length+(enc ix).length+(enc sz).length+(enc dy).length+(enc sr).length+(enc ct).length+(enc pl).length+(encLs ps).length,0):=by unfold rc5;rw [e8];exact rL_rt h0.right.right.right.right.right.right.right.right.right.left y11 om de
 have e10:rc7 bs=(rt,0+(enc hd).length+(enc vt).length+(sB s).length+(enc ix).length+(enc sz).length+(enc dy).length+(enc sr).length+(enc ct).length+(enc pl).length+(encLs ps).length+(sB rt).length,0):=by unfold rc7;rw [e9];exact rS_rt h0.right.right.right.right.right.right.right.right.right.right.left y9
 have e11:rc8 bs=((si:Int),0+(enc hd).length+(enc vt).length+(sB s).length+(enc ix).length+(enc sz).length+(enc dy).length+(enc sr).length+(enc ct).length+(enc pl).length+(encLs ps).length+(sB rt).length+(enc si).length,0):=by unfold rc8;rw [e10];exact zM_rt h0.right.right.right.right.right.right.right.right.right.right.right.left om
 have e12:rc9 bs=(qs,0+(enc hd).length+(enc vt).length+(sB s).length+(enc ix).length+(enc sz).length+(enc dy).length+(enc sr).length+(enc ct).length+(enc pl).length+(encLs ps).length+(sB rt).length+(enc si).length+(encLs qs).length,0):=by unfold rc9;rw [e11];exact rL_rt h0.right.right.right.right.right.right.right.right.right.right.right.right.left y15 om de
 have e13:rcA bs=(rs,0+(enc hd).length+(enc vt).length+(sB s).length+(enc ix).length+(enc sz).length+(enc dy).length+(enc sr).length+(enc ct).length+(enc pl).length+(encLs ps).length+(sB rt).length+(enc si).length+(encLs qs).length+(encLs rs).length,0):=by unfold rcA;rw [e12];exact rL_rt h0.right.right.right.right.right.right.right.right.right.right.right.right.right y13 om de
 refine ⟨?_,fun pa' pb' pc'=>?_,by rw [e9],by rw [e12],by rw [e13]⟩
 ·unfold okR rcV
  rw [e0,e1,e2,e3,e4,e5,e6,e7,e8,e9,e10,e11,e12,e13];simp only;rw [Bool.and_eq_true];exact ⟨decide_eq_true ⟨trivial,by omega⟩,hv'⟩
 ·unfold rcV
  rw [e0,e1,e2,e3,e4,e5,e6,e7,e8,e10,e11]
theorem encAc_read {r:Rcp} {ps qs rs:List ByteArray} {st:ByteArray} {ix:Nat} {no an:ByteArray} (hv:vaB r ps qs rs=true) (h1:st.size=32) (h2:ix≤15) (h3:no.size=32) (h4:an.size=32):
 okT (encAc r ps qs rs st ix no an)=true∧(dT1 (encAc r ps qs rs st ix no an)).1=encRc r ps qs rs∧(dT2 (encAc r ps qs rs st ix no an)).1=(st,(ix:Int))∧(dT3 (encAc r ps qs rs st ix no an)).1=no∧(dT4 (encAc r ps qs rs st ix no an)).1=an:=by
 have hok:=(encRc_read hv).1;have hlr:=yc8 hv
 have hpos:0 < (encRc r ps qs rs).length:=by
  obtain ⟨y0,y1,y2,_⟩:=ybD hv;unfold encRc encSg
  have:=ya9 r.s
  simp only [List.length_append];omega
 obtain ⟨L,hL⟩:∃L,L=encRc r ps qs rs:=⟨_,rfl⟩
 obtain ⟨bs,hbs⟩:∃bs,bs=encAc r ps qs rs st ix no an:=⟨_,rfl⟩
 have hcat:bs=(enc L.length++L)++((sB st++enc ix)++(sB no++sB an)):=by rw [hbs,hL];rfl
 rw [←hbs,←hL];rw [←hL] at hok hlr hpos;have h0:AtL bs 0 ((enc L.length++L)++((sB st++enc ix)++(sB no++sB an))):=by rw [←hcat];exact AtL.self bs
 have hlen:bs.length=(enc L.length++L).length+(sB st++enc ix).length+(sB no).length+(sB an).length:=by
  rw [hcat];simp only [List.length_append];omega
 have hbl:L.length≤bs.length:=by rw [hlen,List.length_append];omega
 have hb2:bs.length≤1000000:=by
  rw [hlen];have e1:=ya1 L.length;have e2:=ya1 ix;have e3:=ya9 st;have e4:=ya9 no;have e5:=ya9 an;simp only [List.length_append];omega
 have e1:dT1 bs=(L,0+(enc L.length++L).length,0):=rY_rt h0.left hpos hbl hb2;have e2:dT2 bs=((st,(ix:Int)),0+(enc L.length++L).length+(sB st++enc ix).length,0):=by unfold dT2;rw [e1];exact rId_rt h0.right.left h1 h2
 have e3:dT3 bs=(no,0+(enc L.length++L).length+(sB st++enc ix).length+(sB no).length,0):=by unfold dT3;rw [e2];exact rS_rt h0.right.right.left h3
 have e4:dT4 bs=(an,0+(enc L.length++L).length+(sB st++enc ix).length+(sB no).length+(sB an).length,0):=by unfold dT4;rw [e3];exact rS_rt h0.right.right.right h4
 refine ⟨?_,by rw [e1],by rw [e2],by rw [e3],by rw [e4]⟩;unfold okT;rw [e4,e1];simp only;rw [Bool.and_eq_true];exact ⟨decide_eq_true ⟨trivial,by omega⟩,hok⟩
