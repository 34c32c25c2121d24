/- The law's promised: a receipt of device 2, and the public keys. The law's accused: the view in which device 1 accuses device 2. -/
import Derived.Test.YtpdledjgbgalcaaGreatDoorF5
import Derived.Test.YtpdledjgbgalcaaGreatDoorPz
import Derived.Test.YtpdledjgbgalcaaGreatDoorPu
namespace Go.Proofs.YtpdledjgbgalcaaGreatDoor
set_option maxRecDepth 100000
set_option maxHeartbeats 8000000
open Go.RowKit Go.Lib
set_option linter.unusedVariables false
set_option linter.unusedSimpArgs false
def lfF (st:ByteArray) (n sr:Nat):ByteArray:=leafS (encS (rcU st n sr))
theorem lfF_size (st:ByteArray) (n sr:Nat):(lfF st n sr).size=32:=ybI ..
def sdF (sr:Nat):ByteArray:=txF (sr:Int)
theorem sdF_size {sr:Nat} (h:sr≤255):(sdF sr).size=32:=ybT om
def ptF (st:ByteArray) (n sr:Nat):List ByteArray:=prF (sdF sr) (btS (lfF st n sr) 1)
theorem ptF_len (st:ByteArray) (n sr:Nat):(ptF st n sr).length=133:=prF_len ..
def pksF (sr:Nat):List ByteArray:=[txF 48,txF 49,pkF (sdF sr)]
def prP (st:ByteArray) (n sr:Nat) (w:World) (e:Ending) (w':World):Prop:=
 ∃Ap cp Ba Bq At ct,e= .returned (.tuple #[.agg (cR (rcS st n sr (lfF st n sr) ⟨Ba,0,0⟩ ⟨Ap,133,cp⟩ ⟨Bq,0,0⟩)),.slice At 3 ct])∧133≤cp∧3≤ct∧Sl fT w' w'.heap.size Ap 133 (ptF st n sr)∧Sl fT w' w'.heap.size At 3 (pksF sr)∧Below w.heap.size w w'
def pmP23:Array (Nat × Operand):=#[(1,.tmp 19),(2,.tmp 22)]
theorem pmB23 (a:Act) (st:ByteArray) (n:Nat) (h0:a.eval (.tmp 19)= .agg #[.string st,.int .i64 0]) (h1:a.eval (.tmp 22)= .int .i64 n):Tryz.prog.built 158 (pmP23.map fun (i,x)=>(i,a.eval x)).toList=some #[.int .i64 0,.string st,.int .i64 0,.int .i64 n]:=by
 rw [Array.toList_map]
 show Tryz.prog.built 158 [(1,a.eval (.tmp 19)),(2,a.eval (.tmp 22))]=_
 rw [h0,h1]
 kernel_rfl
def scP10:Array (Nat × Operand):=#[(0,.const (.int .i64 2))]
theorem scB10 (a:Act):Tryz.prog.built 26 (scP10.map fun (i,x)=>(i,a.eval x)).toList=some (cSc 2 0):=by kernel_rfl
theorem Tryz.infoPmF:(Tryz.prog.info? 158).map (fun i=>(i.zero.map (·.cells.size),i.size,i.bytes))=some (some 4,4,40):=by kernel_rfl
theorem Sl.offBig {α:Type} {f:α→Value} {w V:World} {A:Option Addr} {n g:Nat} {xs:List α} {cs:Array Value} {t:TypeId} (h:Sl f w w.heap.size A n xs) (hg:w.heap[g]? =some (.cells cs t (0,0))) (hs:cs.size < n) (hb:But (fun i=>i=g) w V):Sl f V V.heap.size A n xs:=⟨h.1,fun hn=>by
 obtain ⟨b,off,e,hlt,hc⟩:=h.2 hn
 have hne:b≠g:=by
  rintro rfl;have hl:n - 1 < xs.length:=by rw [h.1];omega
  have h1:=hc (n - 1) _ (List.getElem?_eq_getElem hl);rw [cell_of_row w b _ _ _ _ hg,Array.getElem?_eq_none om] at h1
  cases h1
 exact ⟨b,off,e,Nat.lt_of_lt_of_le hlt hb.size,fun i z hz=>(World.cell?_of_block (hb.block b hlt hne)).trans (hc i z hz)⟩⟩
abbrev zRF:Array Value:=cR ⟨0,0,⟨#[]⟩,0,0,0,0,0,0,⟨#[]⟩,nH,0,nH,nH⟩
theorem promised_any (st:ByteArray) (hst:st.size=32) (A A':Option Addr) (n c c' sr:Nat) (h1:1≤n) (h2:n≤65536) (h3:sr≤255) (w:World):
 Calls Tryz.prog 66 #[.agg #[.string st,.int .i64 0,.slice A n c,.slice A' 1 c'],.int .i64 sr] w (prP st n sr w):=by
 obtain ⟨W1,hW1⟩:∃W1:World,W1=(w.alloc (.cells #[.string st,.int .i64 0,.slice A n c,.slice A' 1 c'] 42)).alloc (.cells zRF tR):=⟨_,rfl⟩
 have HB:Hid (Below w.heap.size w W1):=by show Below ..;rw [hW1];exact bl.alloc sI _
 have hsz:W1.heap.size=w.heap.size+2:=by rw [hW1];simp
 have hge:W1.heap[w.heap.size]? =some (.cells #[.string st,.int .i64 0,.slice A n c,.slice A' 1 c'] 42 (0,0)):=by rw [hW1];exact (Below.heap_alloc _ _ _ sI).trans (heap_alloc_new w _)
 have hg4:W1.heap[w.heap.size+1]? =some (.cells zRF tR (0,0)):=by rw [hW1];have:=heap_alloc_new (w.alloc (.cells #[.string st,.int .i64 0,.slice A n c,.slice A' 1 c'] 42)) (.cells zRF tR);simpa using this
 obtain ⟨W2,hW2⟩:∃W2:World,W2=W1.alloc (.cells (cSc 2 0) 26):=⟨_,rfl⟩
 have hg6:W2.heap[W1.heap.size]? =some (.cells (cSc 2 0) 26 (0,0)):=by rw [hW2];exact heap_alloc_new W1 _
 have HB2:Hid (Below (w.heap.size+2) W1 W2):=by show Below ..;rw [hW2];exact br.alloc (Nat.le_of_eq hsz.symm) _
 have HC:Hid (∀V,Below (w.heap.size+2) W1 V→V.cell? ⟨w.heap.size,0,none⟩=some (.string st)∧V.cell? ⟨w.heap.size,1,none⟩=some (.int .i64 0)∧V.cell? ⟨w.heap.size,2,none⟩=some (.slice A n c)):=fun V hv=>by
  have q:=(hv.block w.heap.size om).trans hge;refine ⟨?_,?_,?_⟩<;>(rw [cell_of_row V _ _ _ _ _ q];rfl)
 have HG4:Hid (∀V,Below (w.heap.size+2) W1 V→V.heap[w.heap.size+1]? =some (.cells zRF tR (0,0))):=fun V hv=>(hv.block _ om).trans hg4
 have HG6:=lh hg6;have HS:=lh hsz;have HWE:=lh hW1;have HWE2:=lh hW2;have hS2:W2.heap.size=w.heap.size+3:=by rw [hW2];simp;omega
 have HS2:=lh hS2;have HTX:Hid (∀(c:Nat) (W:World),c≤255→Calls Tryz.prog 68 #[.int .u8 c] W fun e w'=>e= .returned (.string (txF c))∧Below W.heap.size W w'):=fun c W hc=>ydc c om W
 have HTS:=lh (fun W=>HTX.out sr W h3);have HT8:Hid (∀W:World,Calls Tryz.prog 68 #[.int .u8 48] W fun e w'=>e= .returned (.string (txF 48))∧Below W.heap.size W w'):=fun W=>ydc 48 om W
 have HT9:Hid (∀W:World,Calls Tryz.prog 68 #[.int .u8 49] W fun e w'=>e= .returned (.string (txF 49))∧Below W.heap.size W w'):=fun W=>ydc 49 om W
 have HPK:=lh (fun W=>rpub13_any (sdF sr) (sdF_size h3) W);have HIS:Hid (∀(g cl:Nat) (W:World),W.rangeAt g 0 (#[.int .i64 0,.string st,.int .i64 0,.int .i64 n]:Array Value).toList→g < W.heap.size→Calls Tryz.prog 126 #[.agg (cSc 2 0),.string (sdF sr),.int .i64 0,.int .i64 2,.int .i64 5,.int .i64 sr,.slice (some ⟨g,0,none⟩) 1 cl] W (IsP st n sr (sdF sr) W)):=fun g cl W hL hg=>rissue_any st (sdF sr) n sr hst (sdF_size h3) h1 h2 h3 g cl W hL hg
 have hw8:IntKind.u8.wrap (sr:Int)=sr:=by rw [IntKind.wrap_u8];omega
 have hsdE:txF (sr:Int)=sdF sr:=rfl;rw [hsdE] at HTS;obtain ⟨j0,jz,hj0,hj1,hj2,hj3,hj4⟩:=ybt Tryz.infoPmF;have HJ0:=lh hj0;have HJ1:=lh hj1;have HJ2:=lh hj2;have HJ3:=lh hj3;have HJ4:=lh hj4;clear hge hg4 hg6 hsz hW1 hW2 hS2 hsdE hst h1 h2 h3 hj0 hj1 hj2 hj3 hj4 HTX;go_enter Tryz.func66,Tryz.ntmps66
 go_upto_region 1 with fail
 rw [←HWE.out]
 go_upto_region 2 with (with_reducible refine ya6 (o:=⟨some 10,_,_,_,_,_⟩) rfl 26 scP10 yaV (cSc 2 0) (scB10 _) ?_)
 rw [←HWE2.out]
 go_upto_region 3 with (go_at_call 68;(with_reducible refine (HTS.out _).mono ?_);rintro e w4 ⟨rfl,hb4⟩;(have HB24:Hid (Below W2.heap.size W2 w4):=hb4);clear hb4)
 have HB4:Hid (Below (w.heap.size+2) W1 w4):=HB2.out.trans (HB24.out.mono (by have:=HS2.out;omega));have HGS:Hid (w4.heap[W1.heap.size]? =some (.cells (cSc 2 0) 26 (0,0))):=(HB24.out.block _ (lt_of_block HG6.out)).trans HG6.out;obtain ⟨c0,c1,c2⟩:=HC.out w4 HB4.out;have y0:w4.cell? ⟨W1.heap.size,0,none⟩=some (.int .i64 2):=by rw [cell_of_row w4 _ _ _ _ _ HGS.out];rfl
 have y1:w4.cell? ⟨W1.heap.size,1,none⟩=some (.int .i64 0):=by rw [cell_of_row w4 _ _ _ _ _ HGS.out];rfl
 have HW5:Hid (Below w4.heap.size w4 (w4.alloc (.cells #[.int .i64 0,.string st,.int .i64 0,.int .i64 n] 158))):=bl;have HIS5:=lh (HIS.out w4.heap.size 1 (w4.alloc (.cells #[.int .i64 0,.string st,.int .i64 0,.int .i64 n] 158)) (fun j v hv=>by rw [Nat.zero_add,cell_of_row _ _ _ _ _ _ (heap_alloc_new w4 _),←Array.getElem?_toList];exact hv) sI)
 go_upto_region 4 with (first
  |(with_reducible refine ya6 (o:=⟨some 23,_,_,_,_,_⟩) rfl 158 pmP23 yaV #[.int .i64 0,.string st,.int .i64 0,.int .i64 n] (pmB23 _ st n rfl rfl) ?_)
  |(with_reducible refine ybf (o:=⟨some 24,_,_,_,_,_⟩) rfl 203 (.tmp 23) rfl 158 j0 jz 4 Tryz.underlying203 HJ0.out HJ1.out HJ2.out HJ4.out om om #[.int .i64 0,.string st,.int .i64 0,.int .i64 n] rfl rfl ?_)
  |(go_at_call 126;(with_reducible refine HIS5.out.mono ?_);rintro e w6 ⟨g,cg,Ap,cp,Ba,Bq,rfl,hcg,⟨hgf,hgl⟩,hrg,hcp,hsp,hb6⟩;(have HGF:Hid (w4.heap.size≤g):=Nat.le_trans HW5.out.size hgf);clear hgf;(have HB46:Hid (Below w4.heap.size w4 w6):=HW5.out.trans (hb6.mono HW5.out.size));(have HRG:=lh hrg);(have HCP:=lh hcp);(have HSP:=lh hsp);(have HCG:=lh hcg);clear hrg hcp hsp hb6 hcg))
 clear c0 c1 c2 y0 y1 HIS5 HIS HTS hw8 HJ0 HJ1 HJ2 HJ3 HJ4;have HB6:Hid (Below (w.heap.size+2) W1 w6):=HB4.out.trans (HB46.out.mono (by have:=HB24.out.size;have:=HS2.out;omega))
 have HKP:Hid (∀V,Below w6.heap.size w6 V→V.rangeAt g 0 (cR (rcS st n sr (lfF st n sr) ⟨Ba,0,0⟩ ⟨Ap,133,cp⟩ ⟨Bq,0,0⟩)).toList∧V.cell? ⟨W1.heap.size,0,none⟩=some (.int .i64 2)∧V.cell? ⟨W1.heap.size,1,none⟩=some (.int .i64 0)):=fun V hv=>by
  have q:=(hv.block _ (Nat.lt_of_lt_of_le (lt_of_block HGS.out) HB46.out.size)).trans ((HB46.out.block _ (lt_of_block HGS.out)).trans HGS.out);refine ⟨HRG.out V hv,?_,?_⟩<;>(rw [cell_of_row V _ _ _ _ _ q];rfl)
 have HG46:=lh (HG4.out _ HB6.out)
 have HKU:Hid (∀V,But (fun i=>i=w.heap.size+1) w6 V→V.rangeAt g 0 (cR (rcS st n sr (lfF st n sr) ⟨Ba,0,0⟩ ⟨Ap,133,cp⟩ ⟨Bq,0,0⟩)).toList∧V.cell? ⟨W1.heap.size,0,none⟩=some (.int .i64 2)∧V.cell? ⟨W1.heap.size,1,none⟩=some (.int .i64 0)):=fun V hv=>by
  have q:=(hv.block _ (Nat.lt_of_lt_of_le (lt_of_block HGS.out) HB46.out.size) (by have:=HS.out;omega)).trans ((HB46.out.block _ (lt_of_block HGS.out)).trans HGS.out);refine ⟨fun j v hj=>?_,?_,?_⟩
  ·have h1:=HRG.out w6 br j v hj
   exact (World.cell?_of_block (hv.block g hgl (by have h1:=HGF.out;have h2:=HB24.out.size;have h3:=HS2.out;omega))).trans h1
  ·rw [cell_of_row V _ _ _ _ _ q];rfl
  ·rw [cell_of_row V _ _ _ _ _ q];rfl
 have HW6:Hid (Below w6.heap.size w6 w6.drew):=br.drew
 go_wp2_with fail
 refine wp_region_held_drew (S:=(fun w'=>w'.rangeAt g 0 (cR (rcS st n sr (lfF st n sr) ⟨Ba,0,0⟩ ⟨Ap,133,cp⟩ ⟨Bq,0,0⟩)).toList∧w'.cell? ⟨W1.heap.size,0,none⟩=some (.int .i64 2)∧w'.cell? ⟨W1.heap.size,1,none⟩=some (.int .i64 0))) yaV (by exact HKP.out _ HW6.out) (fun hHeld=>?_);refine tkY 0 ?_;refine tkY 1 ?_;refine tkH (i:=2) (v:=_) (y:=(yieldsIf_load_mid (by rfl) tR (.tmp 29) rfl g 0 (by rfl) (cR (rcS st n sr (lfF st n sr) ⟨Ba,0,0⟩ ⟨Ap,133,cp⟩ ⟨Bq,0,0⟩)).toList _ (fun _ h=>h.1) Tryz.underlying35 rfl (ycl (rcS st n sr (lfF st n sr) ⟨Ba,0,0⟩ ⟨Ap,133,cp⟩ ⟨Bq,0,0⟩)))) (h:=?_)
 try simp only [pt]
 refine tkH (i:=5) (v:=?p4v) (y:=(Or.inl ⟨by rfl,?p4y⟩)) (h:=?p4r)
 case p4y=>(intro w hSw;(try dsimp only at hSw);obtain ⟨_,q0,q1⟩:=hSw;go_simp;try (with_reducible rfl))
 try simp only [pt]
 refine tkY 6 ?_;refine rd1 3 (fun K hK=>?_)
 (go_simp;go_at_call 68;(with_reducible refine (HT8.out _).mono ?_);rintro e w7 ⟨rfl,hb⟩;(have HB7:Hid (Below w6.heap.size w6 w7):=HW6.out.trans (hb.mono HW6.out.size));clear hb;go_wp2_with fail)
 refine hK.out _ _ (by exact HKP.out _ HB7.out) (fun hHeldp6=>?_);clear hK K hHeld
 try simp only [pt]
 refine rd1 4 (fun K hK=>?_)
 (go_simp;go_at_call 68;(with_reducible refine (HT9.out _).mono ?_);rintro e w8 ⟨rfl,hb⟩;(have HB8:Hid (Below w6.heap.size w6 w8):=HB7.out.trans (hb.mono HB7.out.size));clear hb;go_wp2_with fail)
 refine hK.out _ _ (by exact HKP.out _ HB8.out) (fun hHeldp7=>?_);clear hK K hHeldp6
 try simp only [pt]
 refine rd1 7 (fun K hK=>?_)
 (go_simp;go_at_call 127;(with_reducible refine (HPK.out _).mono ?_);rintro e w9 ⟨rfl,hb⟩;(have HB9:Hid (Below w6.heap.size w6 w9):=HB8.out.trans (hb.mono HB8.out.size));clear hb;go_wp2_with fail)
 refine hK.out _ _ (by exact HKP.out _ HB9.out) (fun hHeldp8=>?_);clear hK K hHeldp7
 try simp only [pt]
 refine rd2 8 9 (fun K hK=>?_) (fun K hK=>?_)
 ·go_simp
  refine hK.out _ _ (by exact HKP.out _ (HB9.out.alloc HB9.out.size _)) (fun hHeldp10=>?_);clear hK K hHeldp8
  try simp only [pt]
  refine rd1 9 (fun K hK=>?_)
  ((obtain ⟨W10,hW10⟩:∃W,W=w9.alloc (.cells #[.string (txF 48),.string (txF 49),.string (pkF (sdF sr))] 9):=⟨_,rfl⟩);rw [←hW10];(have HB10:Hid (Below w6.heap.size w6 W10):=by show Below ..;rw [hW10];exact HB9.out.alloc HB9.out.size _);(have HGK0:Hid (W10.heap[w9.heap.size]? =some (.cells #[.string (txF 48),.string (txF 49),.string (pkF (sdF sr))] 9 (0,0))):=by show _=_;rw [hW10];exact heap_alloc_new w9 _);(have HBX:Hid (Below (w.heap.size+2) W1 W10):=HB6.out.trans (HB10.out.mono (HS.out▸HB6.out.size)));clear hW10;(refine ybd (g:=w.heap.size+1) rfl tR (.tmp 4) (.tmp 30) rfl tR zRF (cR (rcS st n sr (lfF st n sr) ⟨Ba,0,0⟩ ⟨Ap,133,cp⟩ ⟨Bq,0,0⟩)) rfl rfl (HG4.out _ HBX.out) (ydw _) rfl (allRF _) ?_);intro w11 HG11 HB11n;(have HBU:Hid (But (fun i=>i=w.heap.size+1) w6 w11):=(But.of_below (p:=fun i=>i=w.heap.size+1) HB10.out).trans HB11n.out (fun i hi=> .inl hi));(have HGK:Hid (w11.heap[w9.heap.size]? =some (.cells #[.string (txF 48),.string (txF 49),.string (pkF (sdF sr))] 9 (0,0))):=(HB11n.out.block _ (lt_of_block HGK0.out) (by have h1:=HB6.out.size;have h2:=HB9.out.size;have h3:=HS.out;omega)).trans HGK0.out))
  refine hK.out _ _ (by exact HKU.out _ HBU.out) (fun hHeldp11=>?_);clear hK K hHeldp10
  try simp only [pt]
  refine tkY 10 ?_;refine wpAnyH_done yaV ?_ _
  go_wp2_with fail
  have hsp:=HSP.out.offBig HG46.out de HBU.out;refine bodyPost_ret (ybq rfl _ _ _ _ _ _ _ rfl HG11.out Tryz.underlying35 rfl (ydw _)) rfl ⟨Ap,cp,Ba,Bq,_,_,rfl,HCP.out,Nat.le_refl _,hsp,?_,HB.out.trans ((HB6.out.mono om).trans (HBU.out.below (by have h1:=HB6.out.size;have h2:=HS.out;omega) (fun i hi=>by subst hi;omega)))⟩;exact ⟨rfl,(SL.of_block (t:=9) (fr:=(0,0)) (xs:=pksF sr) HGK.out (lt_of_block HGK.out))⟩
 ·((have HBX:Hid (Below (w.heap.size+2) W1 w9):=HB6.out.trans (HB9.out.mono (HS.out▸HB6.out.size)));(refine ybd (g:=w.heap.size+1) rfl tR (.tmp 4) (.tmp 30) rfl tR zRF (cR (rcS st n sr (lfF st n sr) ⟨Ba,0,0⟩ ⟨Ap,133,cp⟩ ⟨Bq,0,0⟩)) rfl rfl (HG4.out _ HBX.out) (ydw _) rfl (allRF _) ?_);intro w11 HG11 HB11n;(have HBU:Hid (But (fun i=>i=w.heap.size+1) w6 w11):=(But.of_below (p:=fun i=>i=w.heap.size+1) HB9.out).trans HB11n.out (fun i hi=> .inl hi)))
  refine hK.out _ _ (by exact HKU.out _ HBU.out) (fun hHeldp13=>?_);clear hK K hHeldp8
  try simp only [pt]
  refine rd1 8 (fun K hK=>?_)
  go_simp
  refine hK.out _ _ (by exact HKU.out _ (HBU.out.alloc _)) (fun hHeldp14=>?_);clear hK K hHeldp13
  try simp only [pt]
  refine tkY 10 ?_;refine wpAnyH_done yaV ?_ _
  go_wp2_with fail
  obtain ⟨w12,hw12⟩:∃W,W=w11.alloc (.cells #[.string (txF 48),.string (txF 49),.string (pkF (sdF sr))] 9):=⟨_,rfl⟩
  have HGK:Hid (w12.heap[w11.heap.size]? =some (.cells #[.string (txF 48),.string (txF 49),.string (pkF (sdF sr))] 9 (0,0))):=by show _=_;rw [hw12];exact heap_alloc_new w11 _
  have hal:Below w11.heap.size w11 w12:=by rw [hw12];exact bl
  have HG11:=lh ((hal.block _ (lt_of_block HG11.out)).trans HG11.out);have HBU:Hid (But (fun i=>i=w.heap.size+1) w6 w12):=HBU.out.trans (But.of_below (p:=fun i=>i=w.heap.size+1) hal) (fun i hi=> .inl hi);rw [←hw12];have hsp:=HSP.out.offBig HG46.out de HBU.out;refine bodyPost_ret (ybq rfl _ _ _ _ _ _ _ rfl HG11.out Tryz.underlying35 rfl (ydw _)) rfl ⟨Ap,cp,Ba,Bq,_,_,rfl,HCP.out,Nat.le_refl _,hsp,?_,HB.out.trans ((HB6.out.mono om).trans (HBU.out.below (by have h1:=HB6.out.size;have h2:=HS.out;omega) (fun i hi=>by subst hi;omega)))⟩;exact ⟨rfl,(SL.of_block (t:=9) (fr:=(0,0)) (xs:=pksF sr) HGK.out (lt_of_block HGK.out))⟩
def bsA (st:ByteArray) (n sr:Nat):List Int:=encAc (rcS st n sr (lfF st n sr) nH nH nH) [] (ptF st n sr) [] st 0 (txF 110) (txF 97)
def enA (st:ByteArray) (n sr:Nat) (bd:Hd):EnR:=⟨1,3,6,0,bd,⟨#[]⟩,bsA st n sr⟩
def vtA (wr:Hd):VtR:=⟨0,wr,0,0,0,⟨#[]⟩,0,0,0,0,0,0,0,0,0,[1]⟩
theorem rcS_ok {st:ByteArray} {n sr:Nat} (hst:st.size=32) (h1:1≤n) (h2:n≤65536) (h3:sr≤255) (pa pb pc:Hd):vaB (rcS st n sr (lfF st n sr) pa pb pc) [] (ptF st n sr) []=true:=by
 have hp:arB (ptF st n sr) 300=true:=by
  unfold arB;rw [ptF_len];simp;exact ybC.2 fun s hs=>sgnF_size (strF_size) (by rw [ybS];omega) s hs
 have hl:=lfF_size st n sr;unfold vaB rcS;dsimp only;rw [hp];simp [rgB,pvB,arB,sumsB,hst,hl];omega
theorem bsA_byt (st:ByteArray) (n sr:Nat):Byt (bsA st n sr):=by
 unfold bsA encAc;exact Byt.app (Byt.app (ya7 _) (encRc_byt _ _ _ _)) (Byt.app (Byt.app (ybr _) (ya7 _)) (Byt.app (ybr _) (ybr _)))
theorem bsA_len {st:ByteArray} {n sr:Nat} (hst:st.size=32) (h1:1≤n) (h2:n≤65536) (h3:sr≤255):(bsA st n sr).length≤13000:=by
 have h:=yc8 (rcS_ok hst h1 h2 h3 nH nH nH);unfold bsA encAc;simp only [List.length_append,ya9,hst,ybT (show (0:Int)≤110∧(110:Int) < 256 by omega),ybT (show (0:Int)≤97∧(97:Int) < 256 by omega)];have e1:=ya1 (encRc (rcS st n sr (lfF st n sr) nH nH nH) [] (ptF st n sr) []).length;have e2:=ya1 0;omega
theorem Sl.offVT {w V:World} {A:Option Addr} {n g:Nat} {xs:List ByteArray} {x:Vw} {t:TypeId} (h:Sl fT w w.heap.size A n xs) (hg:w.heap[g]? =some (.cells (cVw x) t (0,0))) (hb:But (fun i=>i=g) w V):Sl fT V V.heap.size A n xs:=⟨h.1,fun hn=>by
 obtain ⟨b,off,e,hlt,hc⟩:=h.2 hn
 have hne:b≠g:=by
  rintro rfl;obtain ⟨z,zs,rfl⟩:∃z zs,xs=z::zs:=by cases xs with |nil=>simp at hn |cons z zs=>exact ⟨z,zs,rfl⟩
  have h1:=hc 0 z rfl;rw [cell_of_row w b (off+0) _ _ _ hg] at h1
  match off,h1 with
  |0,h=>simp at h
  |1,h=>simp at h
  |2,h=>simp at h
  |3,h=>simp at h
  |4,h=>simp at h
  |5,h=>simp at h
  |6,h=>simp at h
  |k+7,h=>simp at h
 exact ⟨b,off,e,Nat.lt_of_lt_of_le hlt hb.size,fun i z hz=>(World.cell?_of_block (hb.block b hlt hne)).trans (hc i z hz)⟩⟩
def tkP19:Array (Nat × Operand):=#[(0,.tmp 16),(1,.tmp 17),(2,.tmp 18)]
theorem tkB19 (a:Act) (st no an:ByteArray) (h0:a.eval (.tmp 16)= .agg #[.string st,.int .i64 0]) (h1:a.eval (.tmp 17)= .string no) (h2:a.eval (.tmp 18)= .string an):Tryz.prog.built 37 (tkP19.map fun (i,x)=>(i,a.eval x)).toList=some #[.string st,.int .i64 0,.string no,.string an]:=by
 rw [Array.toList_map]
 show Tryz.prog.built 37 [(0,a.eval (.tmp 16)),(1,a.eval (.tmp 17)),(2,a.eval (.tmp 18))]=_
 rw [h0,h1,h2]
 kernel_rfl
def enP22:Array (Nat × Operand):=#[(0,.const (.int .i64 1)),(1,.const (.int .i64 3)),(2,.const (.int .i64 6)),(4,.tmp 21)]
theorem enB22 (a:Act) (st:ByteArray) (n sr:Nat) (bd:Hd) (h0:a.eval (.tmp 21)= .slice bd.a bd.n bd.c):Tryz.prog.built 55 (enP22.map fun (i,x)=>(i,a.eval x)).toList=some (fEn (enA st n sr bd)).toArray:=by
 rw [Array.toList_map]
 show Tryz.prog.built 55 [(0,.int .i64 1),(1,.int .i64 3),(2,.int .i64 6),(4,a.eval (.tmp 21))]=_
 rw [h0]
 kernel_rfl
def vtP25:Array (Nat × Operand):=#[(1,.tmp 24)]
theorem vtB25 (a:Act) (wr:Hd) (h0:a.eval (.tmp 24)= .slice wr.a wr.n wr.c):Tryz.prog.built 99 (vtP25.map fun (i,x)=>(i,a.eval x)).toList=some (fVt (vtA wr)).toArray:=by
 rw [Array.toList_map]
 show Tryz.prog.built 99 [(1,a.eval (.tmp 24))]=_
 rw [h0]
 kernel_rfl
def scP28:Array (Nat × Operand):=#[(0,.const (.int .i64 2))]
theorem scB28 (a:Act):Tryz.prog.built 26 (scP28.map fun (i,x)=>(i,a.eval x)).toList=some (cSc 2 0):=by kernel_rfl
def vwP29:Array (Nat × Operand):=#[(0,.tmp 23),(1,.tmp 26),(2,.tmp 27),(3,.tmp 28)]
theorem vwB29 (a:Act) (E V P:Hd) (h0:a.eval (.tmp 23)= .slice E.a E.n E.c) (h1:a.eval (.tmp 26)= .slice V.a V.n V.c) (h2:a.eval (.tmp 27)= .slice P.a P.n P.c) (h3:a.eval (.tmp 28)= .agg (cSc 2 0)):Tryz.prog.built 29 (vwP29.map fun (i,x)=>(i,a.eval x)).toList=some (cVw ⟨E,V,P,2,0,nH,nH⟩):=by
 rw [Array.toList_map]
 show Tryz.prog.built 29 [(0,a.eval (.tmp 23)),(1,a.eval (.tmp 26)),(2,a.eval (.tmp 27)),(3,a.eval (.tmp 28))]=_
 rw [h0,h1,h2,h3]
 kernel_rfl
theorem Tryz.infoVtF:(Tryz.prog.info? 99).map (fun i=>(i.zero.map (·.cells.size),i.size,i.bytes))=some (some 15,15,144):=by kernel_rfl
def AcdP (st:ByteArray) (n sr:Nat) (w:World) (e:Ending) (w':World):Prop:=
 ∃(x:Vw) (bd wr:Hd),e= .returned (.agg (cVw x))∧VwIn w' w'.heap.size x [enA st n sr bd] [vtA wr] (pksF sr) [] []∧((x.b=2∧x.h=0)∧x.E.n=1∧x.V.n=1∧x.P.n=3∧x.D.n=0∧x.F.n=0)∧bd.n≤1000000∧Below w.heap.size w w'
theorem accused_any2 (st:ByteArray) (hst:st.size=32) (A A':Option Addr) (n c c' sr:Nat) (h1:1≤n) (h2:n≤65536) (h3:sr≤255) (w:World):
 Calls Tryz.prog 30 #[.agg #[.string st,.int .i64 0,.slice A n c,.slice A' 1 c'],.int .i64 sr] w (AcdP st n sr w):=by
 obtain ⟨W1,hW1⟩:∃W1:World,W1=(w.alloc (.cells #[.string st,.int .i64 0,.slice A n c,.slice A' 1 c'] 42)).alloc (.cells zVw 29):=⟨_,rfl⟩
 have HB:Hid (Below w.heap.size w W1):=by show Below ..;rw [hW1];exact bl.alloc sI _
 have hsz:W1.heap.size=w.heap.size+2:=by rw [hW1];simp
 have hge:W1.heap[w.heap.size]? =some (.cells #[.string st,.int .i64 0,.slice A n c,.slice A' 1 c'] 42 (0,0)):=by rw [hW1];exact (Below.heap_alloc _ _ _ sI).trans (heap_alloc_new w _)
 have hg4:W1.heap[w.heap.size+1]? =some (.cells zVw 29 (0,0)):=by rw [hW1];have:=heap_alloc_new (w.alloc (.cells #[.string st,.int .i64 0,.slice A n c,.slice A' 1 c'] 42)) (.cells zVw 29);simpa using this
 have HC:Hid (∀V,Below (w.heap.size+2) W1 V→V.cell? ⟨w.heap.size,0,none⟩=some (.string st)∧V.cell? ⟨w.heap.size,1,none⟩=some (.int .i64 0)∧V.cell? ⟨w.heap.size,2,none⟩=some (.slice A n c)∧V.cell? ⟨w.heap.size,3,none⟩=some (.slice A' 1 c')):=fun V hv=>by
  have q:=(hv.block w.heap.size om).trans hge;refine ⟨?_,?_,?_,?_⟩<;>(rw [cell_of_row V _ _ _ _ _ q];rfl)
 have HG4:Hid (∀V,Below (w.heap.size+2) W1 V→V.heap[w.heap.size+1]? =some (.cells zVw 29 (0,0))):=fun V hv=>(hv.block _ om).trans hg4
 have HS:=lh hsz;have HWE:=lh hW1;have HB1:Hid (Below (w.heap.size+2) W1 W1):=Below.refl _ _;have HPR:=lh (fun W=>promised_any st hst A A' n c c' sr h1 h2 h3 W);have HTN:Hid (∀W:World,Calls Tryz.prog 68 #[.int .u8 110] W fun e w'=>e= .returned (.string (txF 110))∧Below W.heap.size W w'):=fun W=>ydc 110 om W
 have HTA:Hid (∀W:World,Calls Tryz.prog 68 #[.int .u8 97] W fun e w'=>e= .returned (.string (txF 97))∧Below W.heap.size W w'):=fun W=>ydc 97 om W
 have HOK:Hid (∀pa pb pc,vaB (rcS st n sr (lfF st n sr) pa pb pc) [] (ptF st n sr) []=true):=fun pa pb pc=>rcS_ok hst h1 h2 h3 pa pb pc
 have HST:=lh hst;have HLN:=lh (bsA_len hst h1 h2 h3);clear hge hg4 hsz hW1 hst h1 h2 h3;go_enter Tryz.func30,Tryz.ntmps30
 go_upto_region 1 with fail
 rw [←HWE.out];obtain ⟨c0,c1,c2,c3⟩:=HC.out W1 HB1.out
 go_upto_region 2 with (first
  |(go_at_call 66;(with_reducible refine (HPR.out _).mono ?_);rintro e w3 ⟨Ap,cp,Ba,Bq,At,ct,rfl,hcp,hct,hsp,hsk,hb3⟩;(have HB3:Hid (Below (w.heap.size+2) W1 w3):=hb3.mono (Nat.le_of_eq HS.out.symm));(have HCP:=lh hcp);(have HCT:=lh hct);(have HSP:=lh hsp);(have HSK:=lh hsk);clear hcp hct hsp hsk hb3 c0 c1 c2 c3)
  |((with_reducible refine ya3 (o:=⟨none,_,_,_,_,_⟩) rfl tR (.tmp 5) (.tmp 12) rfl tR _ (cR (rcS st n sr (lfF st n sr) ⟨Ba,0,0⟩ ⟨Ap,133,cp⟩ ⟨Bq,0,0⟩)) rfl rfl (ydw _) rfl (allRF _) ?_)))
 obtain ⟨W5,hW5⟩:∃W:World,W=w3.alloc (.cells (cR (rcS st n sr (lfF st n sr) ⟨Ba,0,0⟩ ⟨Ap,133,cp⟩ ⟨Bq,0,0⟩)) tR):=⟨_,rfl⟩
 have HB35:Hid (Below w3.heap.size w3 W5):=by show Below ..;rw [hW5];exact bl
 have HG5:Hid (W5.heap[w3.heap.size]? =some (.cells (cR (rcS st n sr (lfF st n sr) ⟨Ba,0,0⟩ ⟨Ap,133,cp⟩ ⟨Bq,0,0⟩)) tR (0,0))):=by show _=_;rw [hW5];exact heap_alloc_new w3 _
 rw [←hW5];clear hW5;have HB5:Hid (Below (w.heap.size+2) W1 W5):=HB3.out.trans (HB35.out.mono (HS.out▸HB3.out.size))
 have HKP:Hid (∀V,Below W5.heap.size W5 V→V.rangeAt w3.heap.size 0 (cR (rcS st n sr (lfF st n sr) ⟨Ba,0,0⟩ ⟨Ap,133,cp⟩ ⟨Bq,0,0⟩)).toList∧V.cell? ⟨w.heap.size,0,none⟩=some (.string st)∧V.cell? ⟨w.heap.size,1,none⟩=some (.int .i64 0)):=fun V hv=>by
  have q:=HC.out V (HB5.out.trans (hv.mono (HS.out▸HB5.out.size)));exact ⟨ycH ((hv.block _ (lt_of_block HG5.out)).trans HG5.out),q.1,q.2.1⟩
 have HEA:Hid (∀V,Below W5.heap.size W5 V→Calls Tryz.prog 67 #[.agg (cR (rcS st n sr (lfF st n sr) ⟨Ba,0,0⟩ ⟨Ap,133,cp⟩ ⟨Bq,0,0⟩)),.agg #[.string st,.int .i64 0,.string (txF 110),.string (txF 97)]] V (Slc fB (bsA st n sr) V)):=fun V hv=>by
  have hsp:=((HSP.out.up HB35.out nl).more' HB35.out.size).up hv nl;exact reac_any (rcS st n sr (lfF st n sr) ⟨Ba,0,0⟩ ⟨Ap,133,cp⟩ ⟨Bq,0,0⟩) [] (ptF st n sr) [] st 0 (txF 110) (txF 97) W5.heap.size V ⟨⟨rfl,SL.nil⟩,hsp,⟨rfl,SL.nil⟩⟩ hv.size (HOK.out _ _ _) HST.out om (ybT om) (ybT om)
 have HW5:Hid (Below W5.heap.size W5 W5.drew):=br.drew
 go_wp2_with fail
 refine wp_region_held_drew (S:=(fun w'=>w'.rangeAt w3.heap.size 0 (cR (rcS st n sr (lfF st n sr) ⟨Ba,0,0⟩ ⟨Ap,133,cp⟩ ⟨Bq,0,0⟩)).toList∧w'.cell? ⟨w.heap.size,0,none⟩=some (.string st)∧w'.cell? ⟨w.heap.size,1,none⟩=some (.int .i64 0))) yaV (by exact HKP.out _ HW5.out) (fun hHeld=>?_);refine tkH (i:=0) (v:=_) (y:=(yieldsIf_load_mid (by rfl) tR (.tmp 5) rfl w3.heap.size 0 (by rfl) (cR (rcS st n sr (lfF st n sr) ⟨Ba,0,0⟩ ⟨Ap,133,cp⟩ ⟨Bq,0,0⟩)).toList _ (fun _ h=>h.1) Tryz.underlying35 rfl (ycl (rcS st n sr (lfF st n sr) ⟨Ba,0,0⟩ ⟨Ap,133,cp⟩ ⟨Bq,0,0⟩)))) (h:=?_)
 try simp only [pt]
 refine tkY 1 ?_;refine tkH (i:=2) (v:=?p3v) (y:=(Or.inl ⟨by rfl,?p3y⟩)) (h:=?p3r)
 case p3y=>(intro w hSw;(try dsimp only at hSw);obtain ⟨_,q0,q1⟩:=hSw;go_simp;try (with_reducible rfl))
 try simp only [pt]
 refine rd1 3 (fun K hK=>?_)
 (go_simp;go_at_call 68;(with_reducible refine (HTN.out _).mono ?_);rintro e w6 ⟨rfl,hb⟩;(have HB6:Hid (Below W5.heap.size W5 w6):=HW5.out.trans (hb.mono HW5.out.size));clear hb;go_wp2_with fail)
 refine hK.out _ _ (by exact HKP.out _ HB6.out) (fun hHeldp4=>?_);clear hK K hHeld
 try simp only [pt]
 refine rd1 4 (fun K hK=>?_)
 (go_simp;go_at_call 68;(with_reducible refine (HTA.out _).mono ?_);rintro e w7 ⟨rfl,hb⟩;(have HB7:Hid (Below W5.heap.size W5 w7):=HB6.out.trans (hb.mono HB6.out.size));clear hb;go_wp2_with fail)
 refine hK.out _ _ (by exact HKP.out _ HB7.out) (fun hHeldp5=>?_);clear hK K hHeldp4
 try simp only [pt]
 refine tkH (i:=5) (v:=_) (y:=(ycI (by rfl) 37 tkP19 yaV _ (tkB19 _ st (txF 110) (txF 97) rfl rfl rfl))) (h:=?_)
 try simp only [pt]
 refine rd1 6 (fun K hK=>?_)
 (go_simp;go_at_call 67;(with_reducible refine (HEA.out _ HB7.out).mono ?_);rintro e w8 ⟨Ab,nb,cb,rfl,hcb,hsb,hb8⟩;(have HB8:Hid (Below W5.heap.size W5 w8):=HB7.out.trans (hb8.mono HB7.out.size));(have HCB:=lh hcb);(have HSB:=lh hsb);clear hb8 hcb hsb;go_wp2_with fail)
 refine hK.out _ _ (by exact HKP.out _ HB8.out) (fun hHeldp7=>?_);clear hK K hHeldp5
 try simp only [pt]
 refine tkY 7 ?_;refine wpAnyH_done yaV ?_ _;obtain ⟨i0,z0,hi0,hi1,hi2,hi3,hi4⟩:=ybt Tryz.infoEn;obtain ⟨j0,jz,hj0,hj1,hj2,hj3,hj4⟩:=ybt Tryz.infoVtF;have HI0:=lh hi0;have HI1:=lh hi1;have HI2:=lh hi2;have HI4:=lh hi4;have HJ0:=lh hj0;have HJ1:=lh hj1;have HJ2:=lh hj2;have HJ4:=lh hj4;clear hi0 hi1 hi2 hi3 hi4 hj0 hj1 hj2 hj3 hj4 HKP HEA HPR HTN HTA;obtain ⟨W9,hW9⟩:∃W:World,W=w8.alloc (.cells (fEn (enA st n sr ⟨Ab,nb,cb⟩)).toArray 55):=⟨_,rfl⟩
 obtain ⟨W10,hW10⟩:∃W:World,W=W9.alloc (.cells #[.int .i64 1] 3):=⟨_,rfl⟩
 obtain ⟨W11,hW11⟩:∃W:World,W=W10.alloc (.cells (fVt (vtA ⟨some ⟨W9.heap.size,0,none⟩,1,1⟩)).toArray 99):=⟨_,rfl⟩
 have hb89:Below w8.heap.size w8 W9:=by rw [hW9];exact bl
 have hb910:Below W9.heap.size W9 W10:=by rw [hW10];exact bl
 have hb1011:Below W10.heap.size W10 W11:=by rw [hW11];exact bl
 have hb9B:Below W9.heap.size W9 W11:=hb910.trans (hb1011.mono hb910.size);have hb8B:Below w8.heap.size w8 W11:=hb89.trans (hb9B.mono hb89.size);have hge:W11.heap[w8.heap.size]? =some (.cells (fEn (enA st n sr ⟨Ab,nb,cb⟩)).toArray 55 (0,0)):=(hb9B.block _ (by rw [hW9];simp)).trans (by rw [hW9];exact heap_alloc_new w8 _);have hgi:W11.heap[W9.heap.size]? =some (.cells #[.int .i64 1] 3 (0,0)):=(hb1011.block _ (by rw [hW10];simp)).trans (by rw [hW10];exact heap_alloc_new W9 _);have hgv:W11.heap[W10.heap.size]? =some (.cells (fVt (vtA ⟨some ⟨W9.heap.size,0,none⟩,1,1⟩)).toArray 99 (0,0)):=by rw [hW11];exact heap_alloc_new W10 _
 have HBX:Hid (Below (w.heap.size+2) W1 W11):=(HB5.out.trans (HB8.out.mono (HS.out▸HB5.out.size))).trans (hb8B.mono (Nat.le_trans (HS.out▸HB5.out.size) HB8.out.size));have HG11:=lh (HG4.out _ HBX.out);have HH:Hid (W9=w8.alloc (.cells (fEn (enA st n sr ⟨Ab,nb,cb⟩)).toArray 55)):=hW9;have HH1:Hid (W10=W9.alloc (.cells #[.int .i64 1] 3)):=hW10;have HH2:Hid (W11=W10.alloc (.cells (fVt (vtA ⟨some ⟨W9.heap.size,0,none⟩,1,1⟩)).toArray 99)):=hW11;have HGE:=lh hge;have HGI:=lh hgi;have HGV:=lh hgv;have HB8B:=lh hb8B;clear hW9 hW10 hW11 hb89 hb910 hb1011 hb9B hge hgi hgv hb8B
 go_wp2_with (first
  |(with_reducible refine ya6 (o:=⟨some 22,_,_,_,_,_⟩) rfl 55 enP22 yaV (fEn (enA st n sr ⟨Ab,nb,cb⟩)).toArray (enB22 _ st n sr ⟨Ab,nb,cb⟩ rfl) ?_)
  |((with_reducible refine ybf (o:=⟨some 23,_,_,_,_,_⟩) rfl 22 (.tmp 22) rfl 55 i0 z0 6 Tryz.underlying22 HI0.out HI1.out HI2.out HI4.out om om (fEn (enA st n sr ⟨Ab,nb,cb⟩)).toArray rfl rfl ?_);rw [←HH.out])
  |(with_reducible refine ya6 (o:=⟨some 25,_,_,_,_,_⟩) rfl 99 vtP25 yaV (fVt (vtA ⟨some ⟨W9.heap.size,0,none⟩,1,1⟩)).toArray (vtB25 _ ⟨some ⟨W9.heap.size,0,none⟩,1,1⟩ rfl) ?_)
  |(rw [←HH1.out];(with_reducible refine ybf (o:=⟨some 26,_,_,_,_,_⟩) rfl 23 (.tmp 25) rfl 99 j0 jz 15 Tryz.underlying23 HJ0.out HJ1.out HJ2.out HJ4.out om om (fVt (vtA ⟨some ⟨W9.heap.size,0,none⟩,1,1⟩)).toArray rfl rfl ?_);rw [←HH2.out])
  |(with_reducible refine ya6 (o:=⟨some 28,_,_,_,_,_⟩) rfl 26 scP28 yaV (cSc 2 0) (scB28 _) ?_)
  |(with_reducible refine ya6 (o:=⟨some 29,_,_,_,_,_⟩) rfl 29 vwP29 yaV (cVw ⟨⟨some ⟨w8.heap.size,0,none⟩,1,1⟩,⟨some ⟨W10.heap.size,0,none⟩,1,1⟩,⟨At,3,ct⟩,2,0,nH,nH⟩) (vwB29 _ ⟨some ⟨w8.heap.size,0,none⟩,1,1⟩ ⟨some ⟨W10.heap.size,0,none⟩,1,1⟩ ⟨At,3,ct⟩ rfl rfl rfl rfl) ?_)
  |((with_reducible refine yaZ (o:=⟨none,_,_,_,_,_⟩) rfl 29 (.tmp 4) (.tmp 29) rfl (w.heap.size+1) 29 zVw (cVw ⟨⟨some ⟨w8.heap.size,0,none⟩,1,1⟩,⟨some ⟨W10.heap.size,0,none⟩,1,1⟩,⟨At,3,ct⟩,2,0,nH,nH⟩) rfl rfl HG11.out (ycz _) rfl (cVw_all _) ?_);intro w12 HG12 HB12n))
 have hbu:Below w.heap.size w w12:=HB.out.trans ((HBX.out.mono om).trans (HB12n.out.below (by have h1:=HBX.out.size;have h2:=HS.out;omega) (fun i hi=>by subst hi;omega)));have hs12:=HB12n.out.size;have hg5x:w.heap.size+2≤W5.heap.size:=HS.out▸HB5.out.size;have hs8:=HB8.out.size;have he12:w12.heap[w8.heap.size]? =some (.cells (fEn (enA st n sr ⟨Ab,nb,cb⟩)).toArray 55 (0,0)):=(HB12n.out.block _ (lt_of_block HGE.out) om).trans HGE.out;have hW9:w8.heap.size < W9.heap.size:=by rw [HH.out];simp
 have hW10:W9.heap.size < W10.heap.size:=by rw [HH1.out];simp
 have hi12:w12.heap[W9.heap.size]? =some (.cells #[.int .i64 1] 3 (0,0)):=(HB12n.out.block _ (lt_of_block HGI.out) om).trans HGI.out;have hv12:w12.heap[W10.heap.size]? =some (.cells (fVt (vtA ⟨some ⟨W9.heap.size,0,none⟩,1,1⟩)).toArray 99 (0,0)):=(HB12n.out.block _ (lt_of_block HGV.out) om).trans HGV.out;have hz:(cVw ⟨nH,nH,nH,0,0,nH,nH⟩:Array Value)=zVw:=rfl;have hsb:Sl fB w12 w12.heap.size Ab nb (bsA st n sr):=(((HSB.out.up HB8B.out nl).more' HB8B.out.size).offV (x:=⟨nH,nH,nH,0,0,nH,nH⟩) HG11.out HB12n.out);have hb3B:Below w3.heap.size w3 W11:=HB35.out.trans ((HB8.out.trans (HB8B.out.mono HB8.out.size)).mono HB35.out.size);have hsk:Sl fT w12 w12.heap.size At 3 (pksF sr):=(((HSK.out.up hb3B nl).more' hb3B.size).offVT (x:=⟨nH,nH,nH,0,0,nH,nH⟩) HG11.out HB12n.out);refine bodyPost_ret (results_cell_row rfl _ _ _ _ _ _ _ rfl HG12.out Tryz.underlying29 rfl (ycz _)) rfl ⟨_,⟨Ab,nb,cb⟩,⟨some ⟨W9.heap.size,0,none⟩,1,1⟩,rfl,⟨⟨(SlN.oneK he12).more (lt_of_block he12),fun e he=>?_⟩,⟨(SlN.oneK hv12).more (lt_of_block hv12),fun v hv=>?_⟩,hsk,⟨rfl,SL.nil⟩,⟨rfl,SL.nil⟩,?_⟩,⟨⟨rfl,rfl⟩,rfl,rfl,rfl,rfl,rfl⟩,?_,hbu⟩
 ·obtain rfl:e=_:=List.mem_singleton.1 he
  exact ⟨hsb,bsA_byt st n sr,HCB.out,trivial,by unfold int64 enA;simp,by unfold int64 enA;simp⟩
 ·obtain rfl:v=_:=List.mem_singleton.1 hv
  exact ⟨⟨rfl,SL.of_block (t:=3) (fr:=(0,0)) (xs:=([1]:List Int)) hi12 (lt_of_block hi12)⟩,by show 1≤_;omega⟩
 ·exact ⟨by show 1≤_;omega,Nat.le_refl _,Nat.le_refl _,HCT.out,Nat.le_refl _,Nat.le_refl _⟩
 ·have h1:=hsb.1
  have h2:=HLN.out
  show nb≤_
  omega
