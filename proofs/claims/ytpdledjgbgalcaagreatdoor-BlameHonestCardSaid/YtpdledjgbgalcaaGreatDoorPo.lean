/- writeID, EncodeAcquittal. receipt.writeSums, writeSigned. receipt.Encode. -/
import Derived.Test.YtpdledjgbgalcaaGreatDoorPf
import Derived.Test.YtpdledjgbgalcaaGreatDoorMa
import Derived.Test.YtpdledjgbgalcaaGreatDoorPh
import Derived.Test.YtpdledjgbgalcaaGreatDoorS4
namespace Go.Proofs.YtpdledjgbgalcaaGreatDoor
set_option maxRecDepth 20000
set_option maxHeartbeats 4000000
open Go.RowKit Go.Lib
set_option linter.unusedVariables false
set_option linter.unusedSimpArgs false
theorem Wc.sl {α:Type} {f:α→Value} {g base:Nat} {v:Value} {w0 w:World} {bs:List Int} {B n:Nat} {A:Option Addr} {xs:List α} (h:Wc g base v w0 bs w) (hx:Sl f w0 B A n xs) (hB:B≤w0.heap.size) (hf:∀k,k < B→¬foot g v k):Sl f w B A n xs:=⟨hx.1,fun hn=>by
 obtain ⟨b,off,e,hlt,hc⟩:=hx.2 hn
 exact ⟨b,off,e,hlt,hc.keep (h.keep (hf b hlt) (Nat.lt_of_lt_of_le hlt hB))⟩⟩
theorem foot_new {g:Nat} {B:Nat} (hg:B≤g):∀k,k < B→¬foot g (.slice none 0 0) k:=fun k hk h=>by
 rcases h with rfl |h
 ·omega
 ·cases h
theorem Wc.behind {g base:Nat} {v:Value} {w0 w:World} {bs:List Int} {o:Obj} (h:Wc g base v (w0.alloc o) bs w):Wc g base v w0 bs w:=by
 obtain ⟨v1,h1,h2,h3⟩:=h
 refine ⟨v1,h1,((But.refl _ w0).alloc o).trans h2 (fun i hi=> .inl hi),?_⟩
 rcases h3 with h |⟨k,h,hk⟩
 ·exact .inl h
 ·exact .inr ⟨k,h,Nat.le_trans (by simp) hk⟩
theorem wid_any (g base:Nat) (v:Value) (bs:List Int) (s:ByteArray) (ix:Nat) (w:World) (hw:Wr w g base v bs) (hs:s.size=32) (hix:ix≤15) (hlen:bs.length≤1000000):
 Calls Tryz.prog 74 #[.pointer (some ⟨g,0,none⟩),.agg #[.string s,.int .i64 ix]] w (WPost g base v (bs++(sB s++enc ix)) w):=by
 obtain ⟨W,hW⟩:∃W:World,W=w.alloc (.cells #[.string s,.int .i64 ix] 31):=⟨_,rfl⟩
 have hK:W.heap[w.heap.size]? =some (.cells #[.string s,.int .i64 ix] 31 (0,0)):=by rw [hW];exact heap_alloc_new w _
 have hW0:Wc g base v W bs W:=by rw [hW];exact Wc.start (hw.alloc _)
 have hF:=hw.fresh
 have HK:Hid (∀bs' V,Wc g base v W bs' V→V.cell? ⟨w.heap.size,1,none⟩=some (.int .i64 ix)):=fun bs' V h=>by
  rw [cell_of_row V _ 1 _ _ _ ((h.keep hF (lt_of_block hK)).trans hK)];rfl
 have HP:Hid (∀bs' V,Wc g base v W bs' V→WPost g base v bs' w (.returned (.tuple #[])) V):=fun bs' V h=>by rw [hW] at h;exact h.behind.post
 have HWE:=Lib.hid hW
 have c0:W.cell? ⟨w.heap.size,0,none⟩=some (.string s):=by rw [cell_of_row W _ 0 _ _ _ hK];rfl
 have HC1:=Lib.hid (hW0.step (P:=Tryz.prog) (fun v' hv' _=>wsum_any g base v' bs s W hv' hs (by omega)))
 have hsl:(sB s).length=32:=(sB_len s).trans hs
 have hixm:(ix:Int) % 18446744073709551616=ix:=by omega
 rw [hW] at c0
 clear hw hK hW0 hF hW hs
 go_enter Tryz.func74,Tryz.ntmps74
 go_wp2_with fail
 rw [←HWE.out]
 refine HC1.out.mono ?_
 rintro e w2 ⟨rfl,hw2⟩
 clear c0
 have c1:=HK.out _ _ hw2
 have HC2:=Lib.hid (hw2.step (P:=Tryz.prog) (fun v' hv' _=>wuint_any g base v' _ ix w2 hv' (by omega) (by simp only [List.length_append];omega)))
 clear hw2
 go_wp2_with fail
 refine HC2.out.mono ?_
 rintro e w3 ⟨rfl,hw3⟩
 have HW3:=Lib.hid hw3
 clear hw3 c1
 go_wp2
 go_end0
 have:=HP.out _ _ HW3.out
 rwa [List.append_assoc] at this
def encA (d q:Nat) (s:ByteArray) (ix:Nat) (xs:List Int) (ys:List ByteArray):List Int:=
 enc d++(enc q++(sB s++(enc ix++(enc xs.length++(xs++(enc ys.length++ys.flatMap sB))))))
theorem flat_len32:∀ {ys:List ByteArray},(∀s∈ys,s.size=32)→(ys.flatMap sB).length=32*ys.length
 | [],_=>rfl
 |y::l,h=>by
  rw [List.flatMap_cons,List.length_append,sB_len,h y (List.mem_cons_self ..),flat_len32 (fun s hs=>h s (List.mem_cons_of_mem _ hs)),List.length_cons];omega
theorem flat_snoc {ys:List ByteArray} {k:Nat} {x:ByteArray} (h:ys[k]? =some x):(ys.take (k+1)).flatMap sB=(ys.take k).flatMap sB++sB x:=by
 rw [take_snoc h,List.flatMap_append];simp
def EAPost (d q:Int) (p:Pc) (xs:List Int) (ys:List ByteArray) (w:World) (e:Ending) (w':World):Prop:=
 ((numB d q&&shB p ys)=true∧Slc2 fB (encA d.toNat q.toNat p.s p.ix.toNat xs ys) 0 w e w')∨((numB d q&&shB p ys)=false∧e= .returned (.tuple #[.slice none 0 0,.int .i64 1])∧Below w.heap.size w w')
theorem Wc.comp {g base:Nat} {v v1:Value} {w0 w w':World} {bs':List Int} (hb:But (foot g v) w0 w) (hn:NewRow v v1 w0) (k:Wc g base v1 w bs' w'):Wc g base v w0 bs' w':=by
 obtain ⟨v2,k1,k2,k3⟩:=k
 exact ⟨v2,k1,hb.wr hn k2,hn.trans k3 hb.size⟩
def encSg (hd vt:Nat) (s:ByteArray) (ix sz dy sr:Nat):List Int:=enc hd++(enc vt++(sB s++(enc ix++(enc sz++(enc dy++enc sr)))))
theorem wsigned_any (g base:Nat) (v:Value) (bs:List Int) (hd vt ix sz dy sr:Nat) (s rt:ByteArray) (ct pl si:Int) (pa pb pc:Hd) (w:World) (hw:Wr w g base v bs) (hs:s.size=32) (hN:hd≤1099511627776∧vt≤1099511627776∧ix≤1099511627776∧sz≤1099511627776∧dy≤1099511627776∧sr≤1099511627776) (hlen:bs.length≤900000):
 Calls Tryz.prog 150 #[.pointer (some ⟨g,0,none⟩),.agg #[.int .i64 (hd:Int),.int .i64 (vt:Int),.string s,.int .i64 (ix:Int),.int .i64 (sz:Int),.int .i64 (dy:Int),.int .i64 (sr:Int),.int .i64 ct,.int .i64 pl,.string rt,.slice pa.a pa.n pa.c,.int .i64 si,.slice pb.a pb.n pb.c,.slice pc.a pc.n pc.c]] w (WPost g base v (bs++encSg hd vt s ix sz dy sr) w):=by
 obtain ⟨W,hW⟩:∃W:World,W=w.alloc (.cells #[.int .i64 (hd:Int),.int .i64 (vt:Int),.string s,.int .i64 (ix:Int),.int .i64 (sz:Int),.int .i64 (dy:Int),.int .i64 (sr:Int),.int .i64 ct,.int .i64 pl,.string rt,.slice pa.a pa.n pa.c,.int .i64 si,.slice pb.a pb.n pb.c,.slice pc.a pc.n pc.c] 35):=⟨_,rfl⟩
 have hK:W.heap[w.heap.size]? =some (.cells #[.int .i64 (hd:Int),.int .i64 (vt:Int),.string s,.int .i64 (ix:Int),.int .i64 (sz:Int),.int .i64 (dy:Int),.int .i64 (sr:Int),.int .i64 ct,.int .i64 pl,.string rt,.slice pa.a pa.n pa.c,.int .i64 si,.slice pb.a pb.n pb.c,.slice pc.a pc.n pc.c] 35 (0,0)):=by rw [hW];exact heap_alloc_new w _
 have hW0:Wc g base v W bs W:=by rw [hW];exact Wc.start (hw.alloc _)
 have hF:=hw.fresh
 have HK:Hid (∀bs' V,Wc g base v W bs' V→V.cell? ⟨w.heap.size,0,none⟩=some (.int .i64 (hd:Int))∧V.cell? ⟨w.heap.size,1,none⟩=some (.int .i64 (vt:Int))∧V.cell? ⟨w.heap.size,2,none⟩=some (.string s)∧V.cell? ⟨w.heap.size,3,none⟩=some (.int .i64 (ix:Int))∧V.cell? ⟨w.heap.size,4,none⟩=some (.int .i64 (sz:Int))∧V.cell? ⟨w.heap.size,5,none⟩=some (.int .i64 (dy:Int))∧V.cell? ⟨w.heap.size,6,none⟩=some (.int .i64 (sr:Int))):=fun bs' V h=>by
  have hq:=(h.keep hF (lt_of_block hK)).trans hK
  refine ⟨?_,?_,?_,?_,?_,?_,?_⟩<;>(rw [cell_of_row V _ _ _ _ _ hq];rfl)
 have HP:Hid (∀bs' V,Wc g base v W bs' V→WPost g base v bs' w (.returned (.tuple #[])) V):=fun bs' V h=>by rw [hW] at h;exact h.behind.post
 have HWE:=Lib.hid hW
 have H0:=Lib.hid hW0
 obtain ⟨c0,c1,c2,c3,c4,c5,c6⟩:=HK.out _ _ H0.out
 obtain ⟨n0,n1,n2,n3,n4,n5⟩:=hN
 have m0:(hd:Int) % 18446744073709551616=hd:=by omega
 have m1:(vt:Int) % 18446744073709551616=vt:=by omega
 have hsl:(sB s).length=32:=(sB_len s).trans hs
 have HC1:=Lib.hid (H0.out.step (P:=Tryz.prog) (fun v' hv' _=>wuint_any g base v' bs hd W hv' (by omega) (by omega)))
 rw [hW] at c0 c1 c2 c3 c4 c5 c6
 clear hw hK hW0 hF hW
 go_enter Tryz.func150,Tryz.ntmps150
 go_wp2_with fail
 rw [←HWE.out]
 refine HC1.out.mono ?_
 rintro e V1 ⟨rfl,h1⟩
 clear c0 c1 c2 c3 c4 c5 c6
 obtain ⟨c0,c1,c2,c3,c4,c5,c6⟩:=HK.out _ _ h1
 have HC2:=Lib.hid (h1.step (P:=Tryz.prog) (fun v' hv' _=>wuint_any g base v' _ vt V1 hv' (by omega) (by have:=enc_len hd;simp only [List.length_append];omega)))
 clear h1
 go_wp2_with fail
 refine HC2.out.mono ?_
 rintro e V2 ⟨rfl,h2⟩
 clear c0 c1 c2 c3 c4 c5 c6
 obtain ⟨c0,c1,c2,c3,c4,c5,c6⟩:=HK.out _ _ h2
 have HC3:=Lib.hid (h2.step (P:=Tryz.prog) (fun v' hv' _=>wsum_any g base v' _ s V2 hv' hs (by have:=enc_len hd;have:=enc_len vt;simp only [List.length_append];omega)))
 clear h2
 go_wp2_with fail
 refine HC3.out.mono ?_
 rintro e V3 ⟨rfl,h3⟩
 clear c0 c1 c2 c3 c4 c5 c6
 obtain ⟨c0,c1,c2,c3,c4,c5,c6⟩:=HK.out _ _ h3
 obtain ⟨L,hL⟩:∃L,L=bs++enc hd++enc vt++sB s:=⟨_,rfl⟩
 rw [←hL] at h3
 have hLl:L.length≤900060:=by rw [hL];have:=enc_len hd;have:=enc_len vt;simp only [List.length_append];omega
 obtain ⟨v3,hw3,hb3,hn3⟩:=h3
 obtain ⟨V4,hV4⟩:∃V:World,V=V3.alloc (.cells #[.int .i64 (ix:Int),.int .i64 (sz:Int),.int .i64 (dy:Int),.int .i64 (sr:Int)] 3):=⟨_,rfl⟩
 have H4:Hid (Wc g base v3 V4 L V4):=by show Wc _ _ _ _ _ _;rw [hV4];exact Wc.start (hw3.alloc _)
 have hq4:V4.heap[V3.heap.size]? =some (.cells #[.int .i64 (ix:Int),.int .i64 (sz:Int),.int .i64 (dy:Int),.int .i64 (sr:Int)] 3 (0,0)):=by rw [hV4];exact heap_alloc_new V3 _
 have hF3:=hw3.fresh
 have HQ:Hid (∀bs' V,Wc g base v3 V4 bs' V→V.heap[V3.heap.size]? =some (.cells #[.int .i64 (ix:Int),.int .i64 (sz:Int),.int .i64 (dy:Int),.int .i64 (sr:Int)] 3 (0,0))):=fun bs' V h=>(h.keep hF3 (lt_of_block hq4)).trans hq4
 have HCo:Hid (∀bs' V,Wc g base v3 V4 bs' V→Wc g base v W bs' V):=fun bs' V h=>Wc.comp (by rw [hV4];exact hb3.alloc _) hn3 h
 have HV4:=Lib.hid hV4
 have HLE:=Lib.hid hL
 clear hw3 hb3 hn3 hV4 hq4 hF3 hL
 go_wp2_with fail
 clear c0 c1 c2 c3 c4 c5 c6
 rw [←HV4.out]
 go_loopw [32] (fun i wr=>∃k:Nat,k≤4∧i= .int .i64 k∧Hid (Wc g base v3 V4 (L++(([ix,sz,dy,sr]:List Nat).take k).flatMap enc) wr)) (fun i _=>4 - (intOf i).toNat)
 case atStart=>exact ⟨0,by omega,rfl,by show Wc _ _ _ _ _ _;simpa using H4.out⟩
 case round=>
  obtain ⟨k,hk,rfl,HR⟩:=hrel
  rcases (show k=0∨k=1∨k=2∨k=3∨k=4 by omega) with rfl |rfl |rfl |rfl |rfl
  ·have m:(ix:Int) % 18446744073709551616=ix:=by omega
   have y:wr.cell? ⟨V3.heap.size,0,none⟩=some (.int .i64 (ix:Int)):=by rw [cell_of_row wr _ 0 _ _ _ (HQ.out _ _ HR.out)];rfl
   have HC:=Lib.hid (HR.out.step (P:=Tryz.prog) (fun v' hv' _=>wuint_any g base v' _ ix wr hv' (by omega) (by have:=enc_len ix;have:=enc_len sz;have:=enc_len dy;simp [List.flatMap_cons];omega)))
   go_wp2_with fail
   refine HC.out.mono ?_
   rintro e V6 ⟨rfl,h6⟩
   have H6:Hid (Wc g base v3 V4 (L++(([ix,sz,dy,sr]:List Nat).take 1).flatMap enc) V6):=by
    show Wc _ _ _ _ _ _
    have e:L++(([ix,sz,dy,sr]:List Nat).take 0).flatMap enc++enc ix=L++(([ix,sz,dy,sr]:List Nat).take 1).flatMap enc:=by simp [List.flatMap_cons]
    rw [e] at h6;exact h6
   clear h6 y m
   go_wp2
   refine ⟨?rel,?measure⟩
   case rel=>exact ⟨1,by omega,rfl,H6⟩
   case measure=>simp [intOf]
  ·have m:(sz:Int) % 18446744073709551616=sz:=by omega
   have y:wr.cell? ⟨V3.heap.size,1,none⟩=some (.int .i64 (sz:Int)):=by rw [cell_of_row wr _ 1 _ _ _ (HQ.out _ _ HR.out)];rfl
   have HC:=Lib.hid (HR.out.step (P:=Tryz.prog) (fun v' hv' _=>wuint_any g base v' _ sz wr hv' (by omega) (by have:=enc_len ix;have:=enc_len sz;have:=enc_len dy;simp [List.flatMap_cons];omega)))
   go_wp2_with fail
   refine HC.out.mono ?_
   rintro e V6 ⟨rfl,h6⟩
   have H6:Hid (Wc g base v3 V4 (L++(([ix,sz,dy,sr]:List Nat).take 2).flatMap enc) V6):=by
    show Wc _ _ _ _ _ _
    have e:L++(([ix,sz,dy,sr]:List Nat).take 1).flatMap enc++enc sz=L++(([ix,sz,dy,sr]:List Nat).take 2).flatMap enc:=by simp [List.flatMap_cons]
    rw [e] at h6;exact h6
   clear h6 y m
   go_wp2
   refine ⟨?rel,?measure⟩
   case rel=>exact ⟨2,by omega,rfl,H6⟩
   case measure=>simp [intOf]
  ·have m:(dy:Int) % 18446744073709551616=dy:=by omega
   have y:wr.cell? ⟨V3.heap.size,2,none⟩=some (.int .i64 (dy:Int)):=by rw [cell_of_row wr _ 2 _ _ _ (HQ.out _ _ HR.out)];rfl
   have HC:=Lib.hid (HR.out.step (P:=Tryz.prog) (fun v' hv' _=>wuint_any g base v' _ dy wr hv' (by omega) (by have:=enc_len ix;have:=enc_len sz;have:=enc_len dy;simp [List.flatMap_cons];omega)))
   go_wp2_with fail
   refine HC.out.mono ?_
   rintro e V6 ⟨rfl,h6⟩
   have H6:Hid (Wc g base v3 V4 (L++(([ix,sz,dy,sr]:List Nat).take 3).flatMap enc) V6):=by
    show Wc _ _ _ _ _ _
    have e:L++(([ix,sz,dy,sr]:List Nat).take 2).flatMap enc++enc dy=L++(([ix,sz,dy,sr]:List Nat).take 3).flatMap enc:=by simp [List.flatMap_cons]
    rw [e] at h6;exact h6
   clear h6 y m
   go_wp2
   refine ⟨?rel,?measure⟩
   case rel=>exact ⟨3,by omega,rfl,H6⟩
   case measure=>simp [intOf]
  ·have m:(sr:Int) % 18446744073709551616=sr:=by omega
   have y:wr.cell? ⟨V3.heap.size,3,none⟩=some (.int .i64 (sr:Int)):=by rw [cell_of_row wr _ 3 _ _ _ (HQ.out _ _ HR.out)];rfl
   have HC:=Lib.hid (HR.out.step (P:=Tryz.prog) (fun v' hv' _=>wuint_any g base v' _ sr wr hv' (by omega) (by have:=enc_len ix;have:=enc_len sz;have:=enc_len dy;simp [List.flatMap_cons];omega)))
   go_wp2_with fail
   refine HC.out.mono ?_
   rintro e V6 ⟨rfl,h6⟩
   have H6:Hid (Wc g base v3 V4 (L++(([ix,sz,dy,sr]:List Nat).take 4).flatMap enc) V6):=by
    show Wc _ _ _ _ _ _
    have e:L++(([ix,sz,dy,sr]:List Nat).take 3).flatMap enc++enc sr=L++(([ix,sz,dy,sr]:List Nat).take 4).flatMap enc:=by simp [List.flatMap_cons]
    rw [e] at h6;exact h6
   clear h6 y m
   go_wp2
   refine ⟨?rel,?measure⟩
   case rel=>exact ⟨4,by omega,rfl,H6⟩
   case measure=>simp [intOf]
  ·go_wp2
   go_end0
   have h:=HP.out _ _ (HCo.out _ _ HR.out)
   have e:L++(([ix,sz,dy,sr]:List Nat).take 4).flatMap enc=bs++encSg hd vt s ix sz dy sr:=by
    rw [HLE.out]
    simp [encSg,List.flatMap_cons]
   rw [e] at h
   exact h
theorem encSg_len (hd vt ix sz dy sr:Nat) (s:ByteArray) (hs:s.size=32):(encSg hd vt s ix sz dy sr).length≤92:=by
 unfold encSg
 have h1:=enc_len hd
 have h2:=enc_len vt
 have h3:=enc_len ix
 have h4:=enc_len sz
 have h5:=enc_len dy
 have h6:=enc_len sr
 have h7:=sB_len s
 simp only [List.length_append]
 omega
theorem vaB_facts {r:Rcp} {ps qs rs:List ByteArray} (h:vaB r ps qs rs=true):(0≤r.hd∧r.hd≤11)∧(0≤r.vt∧r.vt≤11)∧r.s.size=32∧(0≤r.ix∧r.ix≤15)∧(1≤r.sz∧r.sz≤65536)∧(0≤r.dy∧r.dy≤999999)∧(0≤r.sr∧r.sr≤1099511627776)∧(1≤r.ct∧r.ct≤256)∧(0≤r.pl∧r.pl≤r.ct - 1)∧r.rt.size=32∧(ps.length≤8∧∀z∈ps,z.size=32)∧(rs.length≤8∧∀z∈rs,z.size=32)∧(qs.length≤300∧∀z∈qs,z.size=32)∧(0≤r.si∧r.si≤255):=by
 unfold vaB pvB rgB arB at h
 simp only [Bool.and_eq_true,decide_eq_true_eq] at h
 obtain ⟨a1,⟨a2,a3,a4,a5⟩,a6,a7,a8,a9,a10,⟨a11,a12⟩,⟨a13,a14⟩,⟨a15,a16⟩,a17⟩:=h
 exact ⟨a1,a2,a3,a4,a5,a6,a7,a8,a9,a10,⟨a11,sumsB_iff.1 a12⟩,⟨a13,sumsB_iff.1 a14⟩,⟨a15,sumsB_iff.1 a16⟩,a17⟩
