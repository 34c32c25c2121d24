/- Meetings: the reference's EncodeMeet; DecodeMeet of an encoding. The program's DecodeMeet, for any body. What the program's decoders hand back, in the judge's words. -/
import Derived.Test.YtpdledjgbgalcaaGreatDoorPe
import Derived.Test.YtpdledjgbgalcaaGreatDoorMr
import Derived.Test.YtpdledjgbgalcaaGreatDoorQ5
import Derived.Test.YtpdledjgbgalcaaGreatDoorPr
import Derived.Test.YtpdledjgbgalcaaGreatDoorS4
namespace Go.Proofs.YtpdledjgbgalcaaGreatDoor
set_option maxRecDepth 100000
set_option maxHeartbeats 8000000
open Go.RowKit Go.Lib
set_option linter.unusedVariables false
set_option linter.unusedSimpArgs false
theorem remeet_any (q:Nat) (A:Option Addr) (n:Nat) (xs:List Int) (c:Nat) (w:World) (B:Nat) (hx:Sl I w B A n xs) (hB:B≤w.heap.size) (hl:n≤1000000) (hcap:n≤c) (hv:ya5 xs=true) (hq:q≤11):
 Calls Tryz.prog 34 #[.int .i64 (q:Int),.slice A n c] w (Slc fB ((q:Int)::encV xs) w):=by
 obtain ⟨i0,hi,hz0,hz1,hz2⟩:=info_parts Tryz.infoB;have HI:=lh hi;have HZ0:=lh hz0;have HZ1:=lh hz1;have HZ2:=lh hz2;have HQ:Hid (enc q=[(q:Int)]):=enc_small om;have HN:=lh (yb2 q w om);have HE:Hid (∀W,Below w.heap.size w W→Calls Tryz.prog 80 #[.slice A n c] W (Slc fB (encV xs) W)):=fun W hb=>rencodeY_any A n xs c W B (hx.up hb hB) (Nat.le_trans hB hb.size) hl hcap hv
 have hbl:=yc0 xs hv;have hqI:(q:Int) % 18446744073709551616=(q:Int):=by omega
 clear hi hz0 hz1 hz2 hx hv;go_enter Tryz.func34,Tryz.ntmps34
 go_wp2_with (first
  |(go_at_call 79;(with_reducible refine HN.out.mono ?_);rintro e w1 ⟨v1,rfl,ho1,hb1⟩
    have HO1:=lh ho1;have HB1:=lh hb1
    clear ho1 hb1)
  |(go_at_call 80;(with_reducible refine (HE.out _ HB1.out).mono ?_);rintro e w2 ⟨A2,n2,c2,rfl,hc2,hs2,hb2⟩
    have HS2:=lh hs2;have HB2:=lh hb2;have HO2:Hid (Own fB 5 w2 w.heap.size v1 (enc q)):=HO1.out.on hb2;have HLe:Hid ((encV xs).length=n2):=hs2.1;have HL1:Hid (((enc q).length+(encV xs).length)*1≤140737488355328):=by show _≤_;have:=ya1 q;omega
    have HL2:Hid ((enc q).length+(encV xs).length≤maxLen):=by show _≤_;have:=ya1 q;unfold maxLen;omega
    have HSz:Hid (w.heap.size≤w2.heap.size):=Nat.le_trans HB1.out.size hb2.size
    clear hs2 hb2 hc2)
  |(at_builtin;(with_reducible refine ya8 (o:=⟨some 10,_,_,_,_,_⟩) rfl (.tmp 7) (.tmp 9) 40 rfl 5 i0 (.int .u8 0) 1 Tryz.underlying40 HI.out HZ0.out HZ1.out HZ2.out rfl _ (enc q) w.heap.size rfl HO2.out _ _ _ w2.heap.size (encV xs) rfl HS2.out fB1 HL1.out HL2.out HSz.out ?_);intro v3 w3 HO3 HG3 HV3
    have HB3:Hid (Below w.heap.size w w3):=(HB1.out.trans (HB2.out.mono HB1.out.size)).trans (yaY HG3.out (fun j hj=>(World.ownsRow.lt HO2.out j hj).1) HSz.out)))
 go_ret;obtain ⟨A3,c3,hv3,hc3,hs3,_⟩:=HO3.out.shape;refine ⟨A3,(enc q++encV xs).length,c3,by rw [←hv3];rfl,hc3,⟨by rw [HQ.out];rfl,?_⟩,HB3.out⟩;rw [HQ.out] at hs3;exact hs3
theorem left_anyZ (g:Nat) (A:Option Addr) (n c p:Nat) (pv er:Int) (w:World) (hr:Rd w g A n c p pv er) (hp:p≤n) (hn:n≤1000000):
 Calls Tryz.prog 83 #[.pointer (some ⟨g,0,none⟩)] w fun e w'=>e= .returned (.int .i64 ((n:Int) - p))∧∃m,w'=w.drewN m:=by
 have h0:=cell_of_row w g 0 _ _ _ hr;have h1:=cell_of_row w g 1 _ _ _ hr;simp at h0 h1;have hw:IntKind.i64.wrap ((n:Int) - p)=(n:Int) - p:=by rw [IntWalk.i64_in _ om]
 clear hr;go_enter Tryz.func83,Tryz.ntmps83;go_wp2
 go_quiet (fail)
 go_wp2;go_ret;exact ⟨rfl,_,rfl⟩
theorem ycb {fn:Func} {a b c:Tmp} (h:fn.results=#[.tmp a,.tmp b,.tmp c]) (tmps:Array Value) (P:Program) (w:World):
 (results fn tmps).run P w= .ok (.tuple #[tmps.getD a undef,tmps.getD b undef,tmps.getD c undef]) w:=by
 simp [results,h]
theorem encV_pos (xs:List Int):0 < (encV xs).length:=by
 have h0:∀n,0 < (enc n).length:=fun n=>by
  unfold enc encF
  split<;>simp
 unfold encV;rw [List.length_append]
 have:=h0 (nrm xs).length
 omega
abbrev entryV (k:Int) (A:Option Addr) (n c:Nat):Value:= .agg #[.int .i64 0,.int .i64 0,.int .i64 k,.int .i64 0,.slice A n c,.string ⟨#[]⟩]
theorem dmeet_enc (q:Nat) (xs:List Int) (A:Option Addr) (n c B:Nat) (w:World) (hx:Sl fB w B A n ((q:Int)::encV xs)) (hc:n≤c) (hB:B≤w.heap.size) (hv:ya5 xs=true) (hq:q≤11):
 Calls Tryz.prog 35 #[entryV 9 A n c] w fun e w'=>∃A' n' c',e= .returned (.tuple #[.int .i64 (q:Int),.slice A' n' c',.int .i64 0])∧n'≤c'∧Sl I w' w'.heap.size A' n' (nrm xs)∧Below w.heap.size w w':=by
 have hbs:Byt ((q:Int)::encV xs):=Byt.app (xs:=[(q:Int)]) (fun x hx=>by rw [List.mem_singleton.1 hx];omega) (encV_byt xs);have hn1:n=(encV xs).length+1:=by rw [←hx.1];rfl
 have hel:=yc0 xs hv;have hep:=encV_pos xs;obtain ⟨b,off,rfl,hbB⟩:=hx.at0 om;have hb1:Below w.heap.size w (w.alloc (.cells #[.int .i64 0,.int .i64 0,.int .i64 9,.int .i64 0,.slice (some ⟨b,off,none⟩) n c,.string ⟨#[]⟩] 55)):=bl;have HB1:=lh hb1;have HX:=lh hx;have HN:=lh (ycY (some ⟨b,off,none⟩) n c ((q:Int)::encV xs) _ ((hx.up hb1 hB).more' (Nat.le_trans hB hb1.size)) om)
 have HU:Hid (∀g A1 c1 W,Rd W g A1 n c1 0 0 0→Sl fB W g A1 n ((q:Int)::encV xs)→Calls Tryz.prog 82 #[.pointer (some ⟨g,0,none⟩)] W fun e w'=>e= .returned (.int .u64 (q:Int))∧Rd w' g A1 n c1 1 0 0∧But (fun k=>k=g) W w'):=fun g A1 c1 W hr hs=>by
  refine (ydE g A1 n c1 0 0 _ W hr hs hbs om om).mono ?_;rintro e w' ⟨h1,h2,h3⟩;rw [numF_small om] at h1 h2;exact ⟨h1,h2,h3⟩
 have HD:Hid (∀W,Sl fB W W.heap.size (some ⟨b,off+1,none⟩) (n - 1) (encV xs)→Calls Tryz.prog 84 #[.slice (some ⟨b,off+1,none⟩) (n - 1) (c - 1)] W (Slc2 I (nrm xs) 0 W)):=fun W hs=>by
  have h:=decode_any (some ⟨b,off+1,none⟩) (n - 1) (c - 1) (encV xs) W hs om (encV_byt xs);unfold DecPost at h;rw [decV_enc xs hv] at h;exact h.mono fun _ _ ⟨A,n,c,h1,h2,h3,h4⟩=>⟨A,n,c,h1,h2,h3.1,h4⟩
 obtain ⟨iB,hB0,_,hB1,_⟩:=info_parts Tryz.infoB
 have hs2:∀W,(Instr.slice 40 (.slice (some ⟨b,off,none⟩) n c) (some (.int .i64 1)) none none).run Tryz.prog W= .ok (.slice (some ⟨b,off+1,none⟩) (n - 1) (c - 1)) W:=fun W=>by
  rw [ybk (P:=Tryz.prog) 40 5 iB Tryz.underlying40 hB0 hB1 (some ⟨b,off,none⟩) n c .i64 1 1 rfl om hc W,if_neg om]
  rfl
 have HTl:Hid (∀W,Below w.heap.size w W→Sl fB W W.heap.size (some ⟨b,off+1,none⟩) (n - 1) (encV xs)):=fun W hb=>by
  refine ⟨by omega,fun _=>⟨b,off+1,rfl,Nat.lt_of_lt_of_le (Nat.lt_of_lt_of_le hbB hB) hb.size,fun k x hk=>?_⟩⟩;obtain ⟨b',off',e,_,hat⟩:=(hx.up hb hB).2 (by rw [hx.1];omega)
  cases e
  have:=hat (k+1) x hk
  rw [show off+1+k=off+(k+1) by omega];exact this
 have hqI:¬(12:Int)≤(q:Int):=by omega
 have hlw:IntKind.i64.wrap ((n:Int) - ((n:Int) - 1))=1:=by rw [IntWalk.i64_in _ om];omega
 have hqw:IntKind.i64.wrap (q:Int)=(q:Int):=IntWalk.i64_in _ om;have hnB:n≤131:=by omega
 have hnp:1≤n:=by omega
 clear hx hb1 hbs hn1 hel hep hv hB;go_enter Tryz.func35,Tryz.ntmps35
 go_upto_region 5 with (first
  |(go_at_call 81;(with_reducible refine HN.out.mono ?_);rintro e w2 ⟨g,A1,c1,rfl,hr2,hs2',hg2,hb2,_⟩
    have HR2:=lh hr2;have HS2:=lh hs2';have HGg:=lh hg2;have HB2:Hid (Below w.heap.size w w2):=HB1.out.trans (hb2.mono sI);have HX2:Hid (w2.heap[w.heap.size]? =some (.cells #[.int .i64 0,.int .i64 0,.int .i64 9,.int .i64 0,.slice (some ⟨b,off,none⟩) n c,.string ⟨#[]⟩] 55 (0,0))):=(hb2.block _ sI).trans (heap_alloc_new w _)
    clear hr2 hs2' hg2 hb2)
  |(go_at_call 82;(with_reducible refine (HU.out g A1 c1 w2 HR2.out HS2.out).mono ?_);rintro e w3 ⟨rfl,hr3,hb3⟩
    have HR3:=lh hr3;have HB3:Hid (Below w.heap.size w w3):=HB2.out.trans (hb3.below HB2.out.size (fun i hi=>by have:=HGg.out;simp at this;omega));have HX3:Hid (w3.heap[w.heap.size]? =some (.cells #[.int .i64 0,.int .i64 0,.int .i64 9,.int .i64 0,.slice (some ⟨b,off,none⟩) n c,.string ⟨#[]⟩] 55 (0,0))):=(hb3.block _ (lt_of_block HX2.out) (by have:=HGg.out;simp at this;omega)).trans HX2.out
    clear hr3 hb3))
 have e4:=cell_of_row w3 w.heap.size 4 _ _ _ HX3.out;simp at e4;have HLf:Hid (∀a,Calls Tryz.prog 83 #[.pointer (some ⟨g,0,none⟩)] (w3.drewN a) fun e w'=>e= .returned (.int .i64 ((n:Int) - 1))∧∃m,w'=(w3.drewN a).drewN m):=fun a=>left_anyZ g A1 n c1 1 0 0 (w3.drewN a) HR3.out hnp om
 go_quiet ((go_at_call 83;with_reducible exact Calls.quiet_of (HLf.out _)))
 generalize hW:World.drewN w3 _=W4
 replace e4:W4.cell? ⟨w.heap.size,4,none⟩=some (.slice (some ⟨b,off,none⟩) n c):=by rw [←hW];exact e4
 have HB4:Hid (Below w.heap.size w W4):=by show Below ..;rw [←hW];exact ya0 HB3.out _
 clear hW
 go_wp2_with (first
  |(go_at_call 84;(with_reducible refine (HD.out _ (HTl.out _ HB4.out)).mono ?_);rintro e w5 ⟨A5,n5,c5,rfl,hc5,hs5,hb5⟩
    have HS5:=lh hs5;have HB5:=lh hb5
    clear hs5 hb5))
 refine bodyPost_ret (ycb rfl _ _ _) rfl ⟨A5,n5,c5,rfl,hc5,HS5.out,HB4.out.trans (HB5.out.mono HB4.out.size)⟩
def dmV (bs:List Int):Option (Int × List Int):=if (rU bs (0,0)).2.2=0∧(rU bs (0,0)).1 < 12 then (decV (bs.drop (rU bs (0,0)).2.1)).map (fun v=>((rU bs (0,0)).1,v)) else none
def DMPost (bs:List Int) (w:World) (e:Ending) (w':World):Prop:=
 (∃q v A n c,dmV bs=some (q,v)∧e= .returned (.tuple #[.int .i64 q,.slice A n c,.int .i64 0])∧(Sl I w' w'.heap.size A n v∧∀t,A=some t→w.heap.size≤t.block)∧Below w.heap.size w w')
 ∨(dmV bs=none∧e= .returned (.tuple #[.int .i64 0,.slice none 0 0,.int .i64 3])∧Below w.heap.size w w')
theorem dmt_no (dv sq k dy:Int) (pr:ByteArray) (A:Option Addr) (n c:Nat) (w:World) (hk:k≠9):
 Calls Tryz.prog 35 #[.agg #[.int .i64 dv,.int .i64 sq,.int .i64 k,.int .i64 dy,.slice A n c,.string pr]] w fun e w'=>e= .returned (.tuple #[.int .i64 0,.slice none 0 0,.int .i64 1])∧Below w.heap.size w w':=by
 have hkb:(k != 9)=true:=by simp [hk]
 go_enter Tryz.func35,Tryz.ntmps35;go_wp2;refine bodyPost_ret (ycb rfl _ _ _) rfl ⟨rfl,bl⟩
theorem left_anyR (g:Nat) (A:Option Addr) (n c:Nat) (bs:List Int) (s:RS) (w:World) (hr:RdS g A n c bs s w) (hp:s.1≤n) (hn:n≤1000000):
 Calls Tryz.prog 83 #[.pointer (some ⟨g,0,none⟩)] w fun e w'=>e= .returned (.int .i64 ((n:Int) - s.1))∧∃m,w'=w.drewN m:=by
 obtain ⟨⟨pv,h1⟩,_⟩:=hr;exact left_anyZ g A n c s.1 pv s.2 w h1 hp hn
theorem RdS.drewN {g:Nat} {A:Option Addr} {n c:Nat} {bs:List Int} {s:RS} {w:World} (h:RdS g A n c bs s w) (m:Nat):RdS g A n c bs s (w.drewN m):=h
theorem dmt_any (dv sq dy:Int) (pr:ByteArray) (A:Option Addr) (n c B:Nat) (bs:List Int) (w:World) (hx:Sl fB w B A n bs) (hB:B≤w.heap.size) (hk:RK bs n c):
 Calls Tryz.prog 35 #[.agg #[.int .i64 dv,.int .i64 sq,.int .i64 9,.int .i64 dy,.slice A n c,.string pr]] w (DMPost bs w):=by
 have hl:bs.length=n:=hx.1;have hp1:(rU bs (0,0)).2.1≤n:=rU_le hl (Nat.zero_le _);have hnn:=yc1 bs (0,0);have hn:=hk.2.1;have hnc:=hk.2.2
 have hbz:(rU bs (0,0)).2.2≠0→(rU bs (0,0)).2.1=0:=fun h=>by
  unfold rU at h ⊢;unfold rV at h ⊢;simp only [if_true] at h ⊢
  split at h
  ·exact absurd rfl h
  ·next e=>rw [if_neg e]
 have hbp:(rU bs (0,0)).2.2=0→0 < (rU bs (0,0)).2.1:=fun h=>by
  obtain ⟨_,m,_,_,h1,_⟩:=rU_only hk.1 h
  have:0 < (enc m).length:=by unfold enc encF;split<;>simp
  rw [h1];omega
 obtain ⟨W1,hW1⟩:∃W1:World,W1=w.alloc (.cells #[.int .i64 dv,.int .i64 sq,.int .i64 9,.int .i64 dy,.slice A n c,.string pr] 55):=⟨_,rfl⟩
 have hb1:Below w.heap.size w W1:=by rw [hW1];exact bl
 have hge:W1.heap[w.heap.size]? =some (.cells #[.int .i64 dv,.int .i64 sq,.int .i64 9,.int .i64 dy,.slice A n c,.string pr] 55 (0,0)):=by rw [hW1];exact heap_alloc_new w _
 have hs1:W1.heap.size=w.heap.size+1:=by rw [hW1];simp
 have HNR:=lh (ybO A n c bs W1 ((hx.up hb1 hB).more' (Nat.le_trans hB hb1.size)) hn);have HU:Hid (∀g A1 c1 V,n≤c1→RdS g A1 n c1 bs (0,0) V→Calls Tryz.prog 82 #[.pointer (some ⟨g,0,none⟩)] V (RPost g A1 n c1 bs (.int .u64 (rU bs (0,0)).1) (rU bs (0,0)).2 V)):=fun g A1 c1 V hc h=>ru_any g A1 n c1 bs _ V h ⟨hk.1,hn,hc⟩ (Nat.zero_le _)
 have HKc:Hid (∀V,Below W1.heap.size W1 V→V.cell? ⟨w.heap.size,4,none⟩=some (.slice A n c)):=fun V hb=>by
  rw [cell_of_row V _ _ _ _ _ ((hb.block _ om).trans hge)];rfl
 have k2:W1.cell? ⟨w.heap.size,2,none⟩=some (.int .i64 9):=by rw [cell_of_row W1 _ _ _ _ _ hge];rfl
 have k4:=HKc.out W1 br;have HDV:Hid (dmV bs=if (rU bs (0,0)).2.2=0∧(rU bs (0,0)).1 < 12 then (decV (bs.drop (rU bs (0,0)).2.1)).map (fun v=>((rU bs (0,0)).1,v)) else none):=rfl
 have HDC:Hid (∀p A',p≤n→(if c=p then A else A.map (·.add p))=A'→∀V,Below W1.heap.size W1 V→Calls Tryz.prog 84 #[.slice A' (n - p) (c - p)] V (DecPost (bs.drop p) V)):=fun p A' hp hA V hb=>by
  have h1:=((hx.up hb1 hB).up hb (Nat.le_trans hB hb1.size)).part (c:=c) p (n - p) om hnc;rw [List.take_of_length_le yaN,hA] at h1;exact decode_any A' (n - p) (c - p) (bs.drop p) V (h1.more' (Nat.le_trans (Nat.le_trans hB hb1.size) hb.size)) om (fun b hb=>hk.1 b (List.mem_of_mem_drop hb))
 obtain ⟨iB,hB0,_,hB1,_⟩:=info_parts Tryz.infoB
 have HSL:Hid (∀(p:Nat) A',p≤n→(if c=p then A else A.map (·.add p))=A'→∀W,(Instr.slice 40 (.slice A n c) (some (.int .i64 (p:Int))) none none).run Tryz.prog W= .ok (.slice A' (n - p) (c - p)) W):=fun p A' hp hA W=>by
  rw [ybk (P:=Tryz.prog) 40 5 iB Tryz.underlying40 hB0 hB1 A n c .i64 p p rfl hp hnc W,hA]
 have HB1:=lh hb1;have HS1:=lh hs1;have HWE:=lh hW1;unfold DMPost
 generalize rU bs (0,0)=R1 at*
 obtain ⟨z,p,er⟩:=R1;dsimp only at hp1 hnn hbz hbp HU HDV ⊢;clear hW1 hb1 hge hs1 hx hB hk hl hB0 hB1;go_enter Tryz.func35,Tryz.ntmps35
 go_upto_region 3 with fail
 rw [←HWE.out]
 go_upto_region 5 with (first
  |(go_at_call 81;(with_reducible refine HNR.out.mono ?_);rintro e V2 ⟨g,A1,c1,rfl,r0,x0,hg0,hb0,hc0,hA0⟩;(have R2:Hid (RdS g A1 n c1 bs (0,0) V2):=⟨⟨_,r0⟩,x0⟩);(have B2:=lh hb0);(have HC1:=lh hc0);(have HG1:=lh hg0);clear r0 x0 hg0 hb0 hc0 hA0)
  |(go_at_call 82;(with_reducible refine (HU.out g A1 c1 V2 HC1.out R2.out).mono ?_);rintro e V3 ⟨rfl,r,bb⟩;(have R3:=lh r);(have B3:=lh (B2.out.trans (bb.below B2.out.size (fun i hi=>by subst hi;exact HG1.out))));clear r bb))
 clear k2 k4;have e4:=HKc.out V3 B3.out;have HLf:Hid (∀a,Calls Tryz.prog 83 #[.pointer (some ⟨g,0,none⟩)] (V3.drewN a) fun e w'=>e= .returned (.int .i64 ((n:Int) - p))∧∃m,w'=(V3.drewN a).drewN m):=fun a=>left_anyR g A1 n c1 bs _ (V3.drewN a) (R3.out.drewN a) hp1 hn
 have hlw:IntKind.i64.wrap ((n:Int) - ((n:Int) - p))=p:=by rw [IntWalk.i64_in _ om];omega
 go_quiet ((go_at_call 83;with_reducible exact Calls.quiet_of (HLf.out _)))
 generalize hW:World.drewN V3 _=V4;have HB4:Hid (Below W1.heap.size W1 V4):=by show Below ..;rw [←hW];exact ya0 B3.out _
 have HBW:Hid (Below w.heap.size w V4):=HB1.out.trans (HB4.out.mono HB1.out.size)
 replace e4:V4.cell? ⟨w.heap.size,4,none⟩=some (.slice A n c):=HKc.out V4 HB4.out
 clear hW
 by_cases her:er=0
 ·subst her
  have hpos:=hbp rfl;have hpb:((p:Int)==0)=false:=by simp;omega
  by_cases hz:z < 12
  ·have HDV2:Hid (dmV bs=(decV (bs.drop p)).map (fun v=>(z,v))):=by show _=_;rw [HDV.out,if_pos ⟨rfl,hz⟩]
   have hzI:¬(12:Int)≤z:=by omega
   have hzw:IntKind.i64.wrap z=z:=IntWalk.i64_in _ om;obtain ⟨A',hA'⟩:∃A',(if c=p then A else A.map (·.add p))=A':=⟨_,rfl⟩
   have hsl:=HSL.out p A' hp1 hA';have HD:=lh (HDC.out p A' hp1 hA' V4 HB4.out);clear hA' HSL HDC HDV HU HNR hbz hbp;unfold DecPost at HD;obtain ⟨dv0,hdv⟩:∃d,decV (bs.drop p)=d:=⟨_,rfl⟩
   rw [hdv] at HD HDV2;clear hdv
   cases dv0 with
   |none=>
    go_wp2_with (go_at_call 84;(refine HD.out.mono ?_);rintro e V5 ⟨A5,n5,c5,rfl,hc5,hs5,hb5⟩;(have B5:=lh (HBW.out.trans (hb5.mono HBW.out.size)));clear hs5 hb5 hc5)
    refine bodyPost_ret (ycb rfl _ _ _) rfl (.inr ⟨by rw [HDV2.out];rfl,rfl,B5.out⟩)
   |some v=>
    go_wp2_with (go_at_call 84;(refine HD.out.mono ?_);rintro e V5 ⟨A5,n5,c5,rfl,hc5,hs5,hb5⟩;(have S5:=lh hs5.1);(have F5:Hid (∀t,A5=some t→w.heap.size≤t.block):=fun t ht=>Nat.le_trans HBW.out.size (hs5.2 t ht));(have B5:=lh (HBW.out.trans (hb5.mono HBW.out.size)));clear hs5 hb5 hc5)
    refine bodyPost_ret (ycb rfl _ _ _) rfl (.inl ⟨z,v,A5,n5,c5,by rw [HDV2.out];rfl,rfl,⟨S5.out,F5.out⟩,B5.out⟩)
  ·have HDV2:Hid (dmV bs=none):=by show _=_;rw [HDV.out,if_neg (fun h=>hz h.2)]
   have hzI:(12:Int)≤z:=by omega
   clear HSL HDC HDV HU HNR hbz hbp;go_wp2;refine bodyPost_ret (ycb rfl _ _ _) rfl (.inr ⟨HDV2.out,rfl,HBW.out⟩)
 ·have HDV2:Hid (dmV bs=none):=by show _=_;rw [HDV.out,if_neg (fun h=>her h.1)]
  obtain rfl:p=0:=hbz her;clear HSL HDC HDV HU HNR hbz hbp;go_wp2;refine bodyPost_ret (ycb rfl _ _ _) rfl (.inr ⟨HDV2.out,rfl,HBW.out⟩)
structure Ac where
 er:Int
 d:Int
 q:Int
 R:Rcp
 st:ByteArray
 ix:Int
 no:ByteArray
 an:ByteArray
 ps:List ByteArray
 qs:List ByteArray
 rs:List ByteArray
abbrev rHd (R:Rcp) (pa pb pc:Hd):Rcp:=⟨R.hd,R.vt,R.s,R.ix,R.sz,R.dy,R.sr,R.ct,R.pl,R.rt,pa,R.si,pb,pc⟩
def h0:Hd:=⟨none,0,0⟩
def acF (k d q:Int) (bs:List Int):Ac:=
 if k=6 then (if numB d q=true then (if okT bs=true then ⟨0,d,q,rcV (dT1 bs).1 h0 h0 h0,(dT2 bs).1.1,(dT2 bs).1.2,(dT3 bs).1,(dT4 bs).1,(rc5 (dT1 bs).1).1,(rc9 (dT1 bs).1).1,(rcA (dT1 bs).1).1⟩ else ⟨3,0,0,zRcp,⟨#[]⟩,0,⟨#[]⟩,⟨#[]⟩,[],[],[]⟩) else ⟨3,0,0,zRcp,⟨#[]⟩,0,⟨#[]⟩,⟨#[]⟩,[],[],[]⟩) else ⟨1,0,0,zRcp,⟨#[]⟩,0,⟨#[]⟩,⟨#[]⟩,[],[],[]⟩
structure Aq where
 er:Int
 d:Int
 q:Int
 st:ByteArray
 ix:Int
 xs:List Int
 ys:List ByteArray
def aqF (k:Int) (bs:List Int):Aq:=
 if k=7 then (if okA bs=true then ⟨0,(dA1 bs).1,(dA2 bs).1,(dA3 bs).1.1,(dA3 bs).1.2,(dA4 bs).1,(dA6 bs).1⟩ else ⟨3,0,0,⟨#[]⟩,0,[],[]⟩) else ⟨1,0,0,⟨#[]⟩,0,[],[]⟩
def mtD (k:Int) (bs:List Int):MtX:=if k=9 then (match dmV bs with |some (q,v)=>⟨0,q,v⟩ |none=>⟨3,0,[]⟩) else ⟨1,0,[]⟩
theorem Sl.nilT (w:World) (B:Nat):Sl fT w B none 0 []:=⟨rfl,fun h=>absurd h sI⟩
theorem Sl.nilI (w:World) (B:Nat):Sl I w B none 0 []:=⟨rfl,fun h=>absurd h sI⟩
def aqX (e:EnR):AqX:=⟨(aqF e.k e.bs).er,(aqF e.k e.bs).d,(aqF e.k e.bs).q,⟨(aqF e.k e.bs).st,(aqF e.k e.bs).ix,(aqF e.k e.bs).xs,(aqF e.k e.bs).ys⟩⟩
def mtX (e:EnR):MtX:=mtD e.k e.bs
def acX (e:EnR):Ac:=acF e.k e.dv e.sq e.bs
theorem aqF_int (k:Int) (bs:List Int):int64 (aqF k bs).d∧int64 (aqF k bs).q:=by
 have h1:0≤(dA1 bs).1∧(dA1 bs).1≤((11:Nat):Int):=rN_range;have h2:0≤(dA2 bs).1∧(dA2 bs).1≤((1099511627776:Nat):Int):=rN_range;unfold aqF int64
 split
 ·split
  ·dsimp only;omega
  ·exact ⟨by decide,by decide⟩
 ·exact ⟨by decide,by decide⟩
def AcP (a:Ac) (w:World) (e:Ending) (w':World):Prop:=
 ∃pa pb pc:Hd,e= .returned (.tuple #[.agg (cA a.d a.q (rHd a.R pa pb pc) a.st a.ix a.no a.an),.int .i64 a.er])∧RcO w' w.heap.size (rHd a.R pa pb pc) a.ps a.qs a.rs∧Below w.heap.size w w'
theorem AcP.zero {er:Int} {w w':World} {e:Ending} (he:e= .returned (.tuple #[.agg zA,.int .i64 er])) (hb:Below w.heap.size w w'):AcP ⟨er,0,0,zRcp,⟨#[]⟩,0,⟨#[]⟩,⟨#[]⟩,[],[],[]⟩ w e w':=
 ⟨⟨none,0,0⟩,⟨none,0,0⟩,⟨none,0,0⟩,he,⟨Own.nil,Own.nil,Own.nil⟩,hb⟩
theorem AqP.zero {er:Int} {w w':World} {e:Ending} (he:e= .returned (.tuple #[.int .i64 0,.int .i64 0,.agg zPc,.int .i64 er])) (hb:Below w.heap.size w w'):AqP ⟨er,0,0,⟨⟨#[]⟩,0,[],[]⟩⟩ w e w':=
 ⟨⟨none,0,0⟩,⟨none,0,0⟩,he,⟨⟨rfl,fun h=>absurd h sI⟩,fun _ h=>by cases h⟩,⟨Sl.nilT _ _,fun _ h=>by cases h⟩,⟨Nat.le_refl _,Nat.le_refl _⟩,hb⟩
section
variable (e:EnR) (B:Nat) (w:World) (hx:EnOk w B e) (hB:B≤w.heap.size) (hn:e.bd.n≤1000000)
include hx hB hn
theorem aq_any:Calls Tryz.prog 103 #[.agg (fEn e).toArray] w (AqP (aqX e) w):=by
 obtain ⟨dv,sq,k,dy,bd,pr,bs⟩:=e;unfold aqX aqF
 by_cases h7:k=7
 ·subst h7
  refine (dacq_any dv sq dy pr bd.a bd.n bd.c B bs w hx.1 hB hn hx.2.1).mono ?_;rintro e w' (⟨h1,p,h2,h3,h4,h5,h6,h7,h8⟩ |⟨h1,h2,h3⟩)
  ·simp only [if_true,h1]
   rw [←h2,←h3];exact ⟨p.d,p.q,h4,⟨h5.1,h7⟩,⟨h5.2.1,h8⟩,h5.2.2,h6⟩
  ·simp only [if_true,h1]
   exact AqP.zero h2 h3
 ·refine (dacq_no dv sq k dy pr bd.a bd.n bd.c w h7).mono ?_
  rintro e w' ⟨h2,h3⟩;simp only [if_neg h7];exact AqP.zero h2 h3
theorem mt_any:Calls Tryz.prog 35 #[.agg (fEn e).toArray] w (MtP (mtX e) w):=by
 obtain ⟨dv,sq,k,dy,bd,pr,bs⟩:=e;unfold mtX mtD
 by_cases h9:k=9
 ·subst h9
  refine (dmt_any dv sq dy pr bd.a bd.n bd.c B bs w hx.1 hB ⟨hx.2.1,hn,hx.2.2.1⟩).mono ?_;rintro e w' (⟨q,v,A,n,c,h1,h2,h3,h4⟩ |⟨h1,h2,h3⟩)
  ·simp only [if_true,h1]
   exact ⟨⟨A,n,c⟩,h2,h3,h4⟩
  ·simp only [if_true,h1]
   exact ⟨⟨none,0,0⟩,h2,⟨Sl.nilI _ _,fun _ h=>by cases h⟩,h3⟩
 ·refine (dmt_no dv sq k dy pr bd.a bd.n bd.c w h9).mono ?_
  rintro e w' ⟨h2,h3⟩;simp only [if_neg h9];exact ⟨⟨none,0,0⟩,h2,⟨Sl.nilI _ _,fun _ h=>by cases h⟩,h3⟩
theorem ac_any:Calls Tryz.prog 105 #[.agg (fEn e).toArray] w (AcP (acX e) w):=by
 obtain ⟨dv,sq,k,dy,bd,pr,bs⟩:=e;unfold acX acF
 by_cases h6:k=6
 ·subst h6
  by_cases hN:numB dv sq=true
  ·refine (dacc_any dv sq dy pr bd.a bd.n bd.c B bs w hN hx.1 hB hn hx.2.1).mono ?_
   rintro e w' (⟨h1,pa,pb,pc,h2,h3,h4⟩ |⟨h1,h2,h3⟩)
   ·simp only [if_true,hN,h1]
    exact ⟨pa,pb,pc,h2,h3,h4⟩
   ·simp only [if_true,hN,h1]
    exact AcP.zero h2 h3
  ·refine (dacc_num dv sq dy pr bd.a bd.n bd.c w (by rw [Bool.not_eq_true] at hN;exact hN)).mono ?_
   rintro e w' ⟨h2,h3⟩;simp only [if_true,if_neg hN];exact AcP.zero h2 h3
 ·refine (dacc_no dv sq k dy pr bd.a bd.n bd.c w h6).mono ?_
  rintro e w' ⟨h2,h3⟩;simp only [if_neg h6];exact AcP.zero h2 h3
end
