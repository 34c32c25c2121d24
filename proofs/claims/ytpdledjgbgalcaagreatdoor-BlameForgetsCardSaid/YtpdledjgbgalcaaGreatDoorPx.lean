/- The reference's keys and signatures where there is one key of two bits. The reference's signature by the only key; the leaf of a receipt that is not yet signed. A variable made in a region that draws. -/
import Derived.Test.YtpdledjgbgalcaaGreatDoorPl
import Derived.Test.YtpdledjgbgalcaaGreatDoorPq
import Derived.Test.YtpdledjgbgalcaaGreatDoorPu
import Derived.Test.YtpdledjgbgalcaaGreatDoorPt
namespace Go.Proofs.YtpdledjgbgalcaaGreatDoor
set_option maxRecDepth 100000
set_option maxHeartbeats 8000000
open Go.RowKit Go.Lib
set_option linter.unusedVariables false
set_option linter.unusedSimpArgs false
theorem pubF_size (b:Nat) (ds:List Int) (ps:List ByteArray):(pubF b ds ps).size=32:=by rw [pubF,←ya9,ybi (ybN _),ybA]
def pkF (sd:ByteArray):ByteArray:=leafS (sB (pubF 2 (List.replicate 133 0) (strF (sedF sd 0) 133)))
theorem pkF_size (sd:ByteArray):(pkF sd).size=32:=ybI _
theorem rleaves_any (sd:ByteArray) (hs:sd.size=32) (w:World):Calls Tryz.prog 186 #[.agg (cSc 2 0),.string sd] w fun e w'=>∃v,e= .returned v∧Own fT 9 w' w.heap.size v [pkF sd]∧Below w.heap.size w w':=by
 obtain ⟨i0,hi,hz0,hz1,hz2⟩:=info_parts Tryz.infoS;have HI:=lh hi;have HZ0:=lh hz0;have HZ1:=lh hz1;have HZ2:=lh hz2;obtain ⟨W1,hW1⟩:∃W1:World,W1=w.alloc (.cells (cSc 2 0) 26):=⟨_,rfl⟩
 have HB:Hid (Below w.heap.size w W1):=by show Below ..;rw [hW1];exact bl
 have hsz:W1.heap.size=w.heap.size+1:=by rw [hW1];simp
 have hge:W1.heap[w.heap.size]? =some (.cells (cSc 2 0) 26 (0,0)):=by rw [hW1];exact heap_alloc_new w _
 have HC:Hid (∀V,Below (w.heap.size+1) W1 V→V.cell? ⟨w.heap.size,0,none⟩=some (.int .i64 2)∧V.cell? ⟨w.heap.size,1,none⟩=some (.int .i64 0)):=fun V hv=>by
  have q:=(hv.block w.heap.size (Nat.lt_succ_self _)).trans hge;refine ⟨?_,?_⟩<;>(rw [cell_of_row V _ _ _ _ _ q];rfl)
 have HS:=lh hsz;have HWE:=lh hW1;have HB1:Hid (Below (w.heap.size+1) W1 W1):=Below.refl _ _;have HPR:=lh (fun W=>rgpar_any 2 0 W);have HSD:Hid (∀W:World,Calls Tryz.prog 237 #[.string sd,.int .i64 0] W fun e w'=>e= .returned (.string (sedF sd 0))∧Below W.heap.size W w'):=fun W=>rsed_any sd hs 0 om W
 have HPB:=lh (fun W=>rpub12_any (sedF sd 0) (tagF_size _ _) W);obtain ⟨pk,hpk⟩:∃p,pubF 2 (List.replicate 133 0) (strF (sedF sd 0) 133)=p:=⟨_,rfl⟩
 have hps:pk.size=32:=by rw [←hpk];exact pubF_size ..
 have HLF:Hid (∀(V:World) A' c',Sl fB V V.heap.size A' pk.size (sB pk)→Calls Tryz.prog 157 #[.slice A' pk.size c'] V fun e w'=>e= .returned (.string (pkF sd))∧Below V.heap.size V w'):=fun V A' c' h=>by
  unfold pkF;rw [hpk];exact rleaf_any A' pk.size c' V.heap.size (sB pk) V h nl om (ybr pk)
 rw [hpk] at HPB;obtain ⟨lf,hlf⟩:∃l,pkF sd=l:=⟨_,rfl⟩
 rw [hlf] at HLF ⊢;obtain ⟨W2,hW2⟩:∃W2:World,W2=W1.alloc (.cells #[] 9):=⟨_,rfl⟩
 have HO0:Hid (Own fT 9 W2 (w.heap.size+1) (.slice (some ⟨W1.heap.size,0,none⟩) 0 0) (List.replicate 0 lf)):=by show Own ..;rw [hW2];exact World.ownsRow_lit W1 #[] 0 (Nat.le_of_eq hsz.symm) yaS rfl
 have HB2:Hid (Below (w.heap.size+1) W1 W2):=by show Below ..;rw [hW2];exact br.alloc (Nat.le_of_eq hsz.symm) _
 have HWE2:=lh hW2;clear hi hz0 hz1 hz2 hsz hge hW1 hW2 hs hpk hps hlf;go_enter Tryz.func186,Tryz.ntmps186
 go_upto_region 1 with fail
 rw [←HWE.out]
 go_wp2_with fail
 rw [←HWE2.out]
 go_loopw [5,6] (fun v i wr=>∃k:Nat,k≤1∧i= .int .i64 k∧Hid (Own fT 9 wr (w.heap.size+1) v (List.replicate k lf))∧Hid (Below (w.heap.size+1) W1 wr)) (fun _ i _=>1 - (intOf i).toNat)
 case atStart=>exact ⟨0,by omega,rfl,HO0,HB2⟩
 case round=>
  obtain ⟨k,hk,rfl,HO,HBr⟩:=hrel;clear HO0 HB2;obtain ⟨c0,c1⟩:=HC.out wr HBr.out
  by_cases hlt:k < 1
  ·obtain rfl:k=0:=by omega
   have HSz:Hid (w.heap.size+1≤wr.heap.size):=HS.out▸HBr.out.size;have HL1:Hid (((List.replicate 0 lf).length+1)*16≤140737488355328):=by show _≤_;rw [List.length_replicate];omega
   have HL2:Hid ((List.replicate 0 lf).length+1≤maxLen):=by show _≤_;rw [List.length_replicate];unfold maxLen;omega
   clear hk hlt
   go_wp2_with (first
    |(go_at_call 162;(with_reducible refine (HPR.out _).mono ?_);rintro e w3 ⟨rfl,hb3⟩;(have HB3:Hid (Below wr.heap.size wr w3):=hb3);clear hb3)
    |(go_at_call 237;(with_reducible refine (HSD.out _).mono ?_);rintro e w4 ⟨rfl,hb4⟩;(have HB4:Hid (Below wr.heap.size wr w4):=HB3.out.trans (hb4.mono HB3.out.size));clear hb4)
    |(go_at_call 239;(with_reducible refine (HPB.out _).mono ?_);rintro e w5 ⟨rfl,hb5⟩;(have HB5:Hid (Below wr.heap.size wr w5):=HB4.out.trans (hb5.mono HB4.out.size));clear hb5)
    |((with_reducible refine ybm (o:=⟨some 22,_,_,_,_,_⟩) rfl (.tmp 21) rfl pk rfl ?_);intro cb w6 hsl hcb hbl;(have HB6:Hid (Below wr.heap.size wr w6):=HB5.out.trans (hbl.out.mono HB5.out.size));(have HLC:=lh (HLF.out w6 _ cb hsl.out));clear hsl hcb hbl)
    |(go_at_call 157;(with_reducible refine HLC.out.mono ?_);rintro e w7 ⟨rfl,hb7⟩;(have HB7:Hid (Below wr.heap.size wr w7):=HB6.out.trans (hb7.mono HB6.out.size));clear hb7;(have HO7:=lh (HO.out.on HB7.out));(have HS7:Hid (w.heap.size+1≤w7.heap.size):=Nat.le_trans HSz.out HB7.out.size))
    |(at_builtin;(with_reducible refine ya4 (o:=⟨some 25,_,_,_,_,_⟩) rfl (.tmp 15) (.tmp 24) 24 rfl 9 i0 (.string ⟨#[]⟩) 16 Tryz.underlying24 HI.out HZ0.out HZ1.out HZ2.out rfl _ (List.replicate 0 lf) (w.heap.size+1) rfl HO7.out lf 1 rfl fT1 HL1.out HL2.out HS7.out ?_);intro v8 w8 HO8 HG8 HV8;(have HB8:Hid (Below (w.heap.size+1) W1 w8):=(HBr.out.trans (HB7.out.mono HSz.out)).trans (yaY HG8.out (fun j hj=>(World.ownsRow.lt HO7.out j hj).1) HS7.out))))
   go_roundw
   case rel=>exact ⟨1,by omega,by go_num,HO8,HB8⟩
   case measure=>simp [intOf]
  ·obtain rfl:k=1:=by omega
   go_wp2_with fail
   go_ret;exact ⟨_,rfl,World.ownsRow.mono HO.out (Nat.le_succ _),HB.out.trans (HBr.out.mono (Nat.le_succ _))⟩
theorem rpub13_any (sd:ByteArray) (hs:sd.size=32) (w:World):Calls Tryz.prog 127 #[.agg (cSc 2 0),.string sd] w fun e w'=>e= .returned (.string (pkF sd))∧Below w.heap.size w w':=by
 obtain ⟨W1,hW1⟩:∃W1:World,W1=w.alloc (.cells (cSc 2 0) 26):=⟨_,rfl⟩
 have HB:Hid (Below w.heap.size w W1):=by show Below ..;rw [hW1];exact bl
 have hsz:W1.heap.size=w.heap.size+1:=by rw [hW1];simp
 have hge:W1.heap[w.heap.size]? =some (.cells (cSc 2 0) 26 (0,0)):=by rw [hW1];exact heap_alloc_new w _
 have HC:Hid (∀V,Below (w.heap.size+1) W1 V→V.cell? ⟨w.heap.size,0,none⟩=some (.int .i64 2)∧V.cell? ⟨w.heap.size,1,none⟩=some (.int .i64 0)):=fun V hv=>by
  have q:=(hv.block w.heap.size (Nat.lt_succ_self _)).trans hge;refine ⟨?_,?_⟩<;>(rw [cell_of_row V _ _ _ _ _ q];rfl)
 have HS:=lh hsz;have HWE:=lh hW1;have HB1:Hid (Below (w.heap.size+1) W1 W1):=Below.refl _ _;have HLV:=lh (fun W=>rleaves_any sd hs W);have HRT:Hid (∀(W:World) A c,1≤c→Sl fT W W.heap.size A 1 [pkF sd]→Calls Tryz.prog 65 #[.slice A 1 c] W fun e w'=>e= .returned (.string (pkF sd))∧Below W.heap.size W w'):=fun W A c hc h=>yc5 1 A 1 c W.heap.size [pkF sd] W h nl hc sI om om (fun s hs=>by rw [List.mem_singleton.1 hs];exact pkF_size sd)
 clear hge hsz hW1 hs;go_enter Tryz.func127,Tryz.ntmps127
 go_upto_region 1 with fail
 rw [←HWE.out];obtain ⟨c0,c1⟩:=HC.out W1 HB1.out
 go_wp2_with (first
  |(go_at_call 186;(with_reducible refine (HLV.out _).mono ?_);rintro e w3 ⟨v,rfl,ho,hb3⟩;(have HB3:Hid (Below w.heap.size w w3):=HB.out.trans (hb3.mono HB.out.size));(obtain ⟨A3,c3,hv,hc3,hs3,_⟩:=ho.shape);rw [show ([pkF sd]:List ByteArray).length=1 from rfl] at hv hc3;subst hv;(have HR3:=lh (HRT.out w3 A3 c3 hc3 ⟨rfl,hs3⟩));clear ho hb3 hc3 hs3)
  |(go_at_call 65;(with_reducible refine HR3.out.mono ?_);rintro e w4 ⟨rfl,hb4⟩;(have HB4:Hid (Below w.heap.size w w4):=HB3.out.trans (hb4.mono HB3.out.size));clear hb4))
 go_ret;exact ⟨rfl,HB4.out⟩
theorem rpath1_any (A:Option Addr) (c:Nat) (w:World):Calls Tryz.prog 238 #[.slice A 1 c,.int .i64 0] w fun e w'=>∃B,e= .returned (.slice B 0 0)∧Below w.heap.size w w':=by
 have HB0:Hid (Below w.heap.size w (w.alloc (.cells #[] 9))):=bl;go_enter Tryz.func238,Tryz.ntmps238;go_wp2;go_ret;exact ⟨_,rfl,HB0.out⟩
theorem rPath1_any (A:Option Addr) (c:Nat) (w:World):Calls Tryz.prog 185 #[.slice A 1 c,.int .i64 0] w fun e w'=>∃B,e= .returned (.tuple #[.slice B 0 0,.int .i64 0])∧Below w.heap.size w w':=by
 have HP:=lh (rpath1_any A c w);go_enter Tryz.func185,Tryz.ntmps185
 go_wp2_with (go_at_call 238;(with_reducible refine HP.out.mono ?_);rintro e w3 ⟨B,rfl,hb3⟩;(have HB3:=lh hb3);clear hb3)
 go_ret2;exact ⟨_,rfl,HB3.out⟩
def RcN (r:Rcp):Prop:=∃hd vt ix sz dy sr:Nat,r=⟨hd,vt,r.s,ix,sz,dy,sr,r.ct,r.pl,r.rt,r.pa,r.si,r.pb,r.pc⟩∧hd≤11∧vt≤11∧r.s.size=32∧ix≤15∧sz≤65536∧dy≤999999∧sr≤1099511627776
theorem rsigned2_any (r:Rcp) (w:World) (hv:RcN r):
 Calls Tryz.prog 158 #[.agg (cR r)] w fun e w'=>∃A n c,e= .returned (.slice A n c)∧n≤c∧Sl fB w' w'.heap.size A n (encS r)∧Below w.heap.size w w':=by
 obtain ⟨hd,vt,ix,sz,dy,sr,hr,g0,g1,g2,g3,g4,g5,g6⟩:=hv;rw [hr];obtain ⟨hd0,vt0,s,ix0,sz0,dy0,sr0,ct,pl,rt,pa,si,pb,pc⟩:=r;dsimp only at g2 ⊢;clear hr;obtain ⟨W1,hW1⟩:∃W1:World,W1=w.alloc (.cells (cR ⟨hd,vt,s,ix,sz,dy,sr,ct,pl,rt,pa,si,pb,pc⟩) tR):=⟨_,rfl⟩
 have hb1:Below w.heap.size w W1:=by rw [hW1];exact bl
 have hc1:W1.heap[w.heap.size]? =some (.cells (cR ⟨hd,vt,s,ix,sz,dy,sr,ct,pl,rt,pa,si,pb,pc⟩) tR (0,0)):=by rw [hW1];exact heap_alloc_new w _
 have HWE:=lh hW1;have HB1:=lh hb1;have HR1:=lh (ycH hc1);have HSG:=lh (ssigned_any hd vt ix sz dy sr s rt ct pl si pa pb pc W1 om);have HOK:=lh (vlOk_G g2 ⟨g0,g1,g3,g4,g5,g6⟩);have hfl:=flat_G hd vt s ix sz dy sr;have hln:=yc7 hd vt ix sz dy sr s g2
 have HEN:Hid (∀V A c,SlN fVl 6 V V.heap.size A 7 (vlG hd vt s ix sz dy sr)→Calls Tryz.prog 128 #[.slice A 7 c] V fun e w'=>∃v,e= .returned (.tuple #[v,.int .i64 0])∧Own fB 5 w' V.heap.size v (encSg hd vt s ix sz dy sr)∧Below V.heap.size V w'):=fun V A c h=>by
  have:=ych _ A 7 c V h HOK.out (by rw [hfl];omega) om
  rw [hfl] at this;exact this
 have HES:Hid (encS ⟨hd,vt,s,ix,sz,dy,sr,ct,pl,rt,pa,si,pb,pc⟩=encSg hd vt s ix sz dy sr):=rfl;rw [HES.out];rw [hW1] at HSG;clear g0 g1 g2 g3 g4 g5 g6 hfl hln hW1 hb1 hc1;go_enter Tryz.func158,Tryz.ntmps158
 go_wp2_with (first
  |(with_reducible refine wpList_load_mid (op:=⟨some 6,_,_,_,_,_⟩) rfl tR (.tmp 1) rfl w.heap.size 0 rfl (cR ⟨hd,vt,s,ix,sz,dy,sr,ct,pl,rt,pa,si,pb,pc⟩).toList _ (by rw [←HWE.out];exact HR1.out) Tryz.underlying35 rfl (ycl ⟨hd,vt,s,ix,sz,dy,sr,ct,pl,rt,pa,si,pb,pc⟩) ?_)
  |(go_at_call 188;(with_reducible refine HSG.out.mono ?_);rintro e w2 ⟨u,rfl,hva⟩;(obtain ⟨Af,cf,hu,hcf,hrow⟩:=hva.row);(have hb2:=hva.2);(rw [←HWE.out] at hb2);(have HB2:=lh (HB1.out.trans (hb2.mono HB1.out.size)));(have HCE:=lh (HEN.out w2 Af cf hrow));(rw [show (vlG hd vt s ix sz dy sr).length=7 from rfl] at hu);subst hu;clear hrow hva hcf hb2)
  |(go_at_call 128;(with_reducible refine HCE.out.mono ?_);rintro e w9 ⟨v9,rfl,ho9,hb9⟩;(obtain ⟨A9,c9,hv9,hc9,hs9,_⟩:=ho9.shape);(obtain ⟨N9,hN9⟩:∃N,(encSg hd vt s ix sz dy sr).length=N:=⟨_,rfl⟩);(rw [hN9] at hv9 hc9);(have HS9:Hid (Sl fB w9 w9.heap.size A9 N9 (encSg hd vt s ix sz dy sr)):=⟨hN9,hs9⟩);(have HB9:=lh hb9);(have HC9:=lh hc9);subst hv9;clear ho9 hs9 hb9 hN9 hc9))
 go_ret;exact ⟨A9,N9,c9,rfl,HC9.out,HS9.out,HB2.out.trans (HB9.out.mono HB2.out.size)⟩
theorem rcleaf2_any (r:Rcp) (w:World) (hv:RcN r):
 Calls Tryz.prog 96 #[.agg (cR r)] w fun e w'=>e= .returned (.string (leafS (encS r)))∧Below w.heap.size w w':=by
 obtain ⟨W1,hW1⟩:∃W1:World,W1=w.alloc (.cells (cR r) tR):=⟨_,rfl⟩
 have hb1:Below w.heap.size w W1:=by rw [hW1];exact bl
 have hc1:W1.heap[w.heap.size]? =some (.cells (cR r) tR (0,0)):=by rw [hW1];exact heap_alloc_new w _
 have HWE:=lh hW1;have HB1:=lh hb1;have HR1:=lh (ycH hc1);have HSG:=lh (rsigned2_any r W1 hv);have hln:(encS r).length≤92:=yc7 _ _ _ _ _ _ _ (by obtain ⟨_,_,_,_,_,_,_,_,_,g2,_⟩:=hv;exact g2);have hby:Byt (encS r):=encSg_byt _ _ _ _ _ _ _
 have HLF:Hid (∀V A n c,Sl fB V V.heap.size A n (encS r)→Calls Tryz.prog 157 #[.slice A n c] V fun e w'=>e= .returned (.string (leafS (encS r)))∧Below V.heap.size V w'):=fun V A n c h=>
  rleaf_any A n c V.heap.size _ V h nl (by have:=h.1;omega) hby
 rw [hW1] at HSG;clear hln hby hW1 hb1 hc1 hv;go_enter Tryz.func96,Tryz.ntmps96
 go_wp2_with (first
  |(with_reducible refine wpList_load_mid (op:=⟨some 3,_,_,_,_,_⟩) rfl tR (.tmp 1) rfl w.heap.size 0 rfl (cR r).toList _ (by rw [←HWE.out];exact HR1.out) Tryz.underlying35 rfl (ycl r) ?_)
  |(go_at_call 158;(with_reducible refine HSG.out.mono ?_);rintro e w2 ⟨A2,n2,c2,rfl,_,h2,b2⟩;(have HL2:=lh (HLF.out w2 A2 n2 c2 h2));(have HB2:Hid (Below w.heap.size w w2):=HB1.out.trans (Below.mono (by rw [←HWE.out] at b2;exact b2) HB1.out.size));clear h2 b2)
  |(go_at_call 157;(with_reducible refine HL2.out.mono ?_);rintro e w3 ⟨rfl,b3⟩;(have HB3:Hid (Below w.heap.size w w3):=HB2.out.trans (b3.mono HB2.out.size));clear b3))
 go_ret;exact ⟨rfl,HB3.out⟩
def sgP28:Array (Nat × Operand):=#[(0,.tmp 19),(1,.tmp 26),(2,.tmp 27)]
theorem sgB28 (a:Act) (ix:Int) (Ap:Option Addr) (np cp:Nat) (Aq:Option Addr) (nq cq:Nat) (h0:a.eval (.tmp 19)= .int .i64 ix) (h1:a.eval (.tmp 26)= .slice Ap np cp) (h2:a.eval (.tmp 27)= .slice Aq nq cq):Tryz.prog.built 33 (sgP28.map fun (i,x)=>(i,a.eval x)).toList=some (cSg ix Ap np cp Aq nq cq):=by
 rw [Array.toList_map]
 show Tryz.prog.built 33 [(0,a.eval (.tmp 19)),(1,a.eval (.tmp 26)),(2,a.eval (.tmp 27))]=_
 rw [h0,h1,h2]
 kernel_rfl
theorem ydo (ix:Int) (Ap:Option Addr) (np cp:Nat) (Aq:Option Addr) (nq cq:Nat):(Tryz.prog.info? 33).map (·.size)=some (cSg ix Ap np cp Aq nq cq).size:=by kernel_rfl
theorem allSgF (ix:Int) (Ap:Option Addr) (np cp:Nat) (Aq:Option Addr) (nq cq:Nat):(cSg ix Ap np cp Aq nq cq).all (·.oneCell')=true:=by kernel_rfl
abbrev zSgF:Array Value:=cSg 0 none 0 0 none 0 0
def prF (sd dg:ByteArray):List ByteArray:=sgnF (dgF 2 (sB dg)) (strF (sedF sd 0) 133) 133
theorem prF_len (sd dg:ByteArray):(prF sd dg).length=133:=ydO ..
theorem rsgn13_any (sd dg:ByteArray) (hs:sd.size=32) (hd:dg.size=32) (w:World):Calls Tryz.prog 184 #[.agg (cSc 2 0),.string sd,.string dg,.int .i64 0] w fun e w'=>∃Ap cp Aq,e= .returned (.agg (cSg 0 Ap 133 cp Aq 0 0))∧133≤cp∧Own fT 9 w' w.heap.size (.slice Ap 133 cp) (prF sd dg)∧Below w.heap.size w w':=by
 obtain ⟨W1,hW1⟩:∃W1:World,W1=(w.alloc (.cells (cSc 2 0) 26)).alloc (.cells zSgF 33):=⟨_,rfl⟩
 have HB:Hid (Below w.heap.size w W1):=by show Below ..;rw [hW1];exact bl.alloc sI _
 have hsz:W1.heap.size=w.heap.size+2:=by rw [hW1];simp
 have hge:W1.heap[w.heap.size]? =some (.cells (cSc 2 0) 26 (0,0)):=by rw [hW1];exact (Below.heap_alloc _ _ _ sI).trans (heap_alloc_new w _)
 have hg8:W1.heap[w.heap.size+1]? =some (.cells zSgF 33 (0,0)):=by rw [hW1];have:=heap_alloc_new (w.alloc (.cells (cSc 2 0) 26)) (.cells zSgF 33);simpa using this
 have HC:Hid (∀V,Below (w.heap.size+2) W1 V→V.cell? ⟨w.heap.size,0,none⟩=some (.int .i64 2)∧V.cell? ⟨w.heap.size,1,none⟩=some (.int .i64 0)):=fun V hv=>by
  have q:=(hv.block w.heap.size om).trans hge;refine ⟨?_,?_⟩<;>(rw [cell_of_row V _ _ _ _ _ q];rfl)
 have HG8:Hid (∀V,Below (w.heap.size+2) W1 V→V.heap[w.heap.size+1]? =some (.cells zSgF 33 (0,0))):=fun V hv=>(hv.block _ om).trans hg8
 have HS:=lh hsz;have HWE:=lh hW1;have HB1:Hid (Below (w.heap.size+2) W1 W1):=Below.refl _ _;have HLV:=lh (fun W=>rleaves_any sd hs W);have HPT:=lh (fun A c W=>rPath1_any A c W);have HPR:=lh (fun W=>rgpar_any 2 0 W);have HSD:Hid (∀W:World,Calls Tryz.prog 237 #[.string sd,.int .i64 0] W fun e w'=>e= .returned (.string (sedF sd 0))∧Below W.heap.size W w'):=fun W=>rsed_any sd hs 0 om W
 have HSN:=lh (fun W=>rsgn12_any (sedF sd 0) dg (tagF_size _ _) hd W);have hpl:=prF_len sd dg;have hpe:sgnF (dgF 2 (sB dg)) (strF (sedF sd 0) 133) 133=prF sd dg:=rfl;rw [hpe] at HSN;obtain ⟨ps,hps⟩:∃ps,prF sd dg=ps:=⟨_,rfl⟩
 rw [hps] at HSN hpl ⊢;have HPL:=lh hpl;clear hge hg8 hsz hW1 hs hd hpl hpe hps;go_enter Tryz.func184,Tryz.ntmps184
 go_upto_region 1 with fail
 rw [←HWE.out];obtain ⟨c0,c1⟩:=HC.out W1 HB1.out
 go_upto_region 2 with (first
  |(go_at_call 186;(with_reducible refine (HLV.out _).mono ?_);rintro e w3 ⟨v,rfl,ho,hb3⟩;(have HB3:Hid (Below (w.heap.size+2) W1 w3):=hb3.mono (Nat.le_of_eq HS.out.symm));(obtain ⟨A3,c3,hv,hc3,hs3,_⟩:=ho.shape);rw [show ([pkF sd]:List ByteArray).length=1 from rfl] at hv;subst hv;clear ho hb3 hc3 hs3 c0 c1)
  |(go_at_call 185;(with_reducible refine (HPT.out _ _ _).mono ?_);rintro e w4 ⟨Aq,rfl,hb4⟩;(have HB4:Hid (Below (w.heap.size+2) W1 w4):=HB3.out.trans (hb4.mono (HS.out▸HB3.out.size)));clear hb4;(obtain ⟨c0,c1⟩:=HC.out w4 HB4.out)))
 go_wp2_with (first
  |(go_at_call 162;(with_reducible refine (HPR.out _).mono ?_);rintro e w5 ⟨rfl,hb5⟩;(have HB5:Hid (Below (w.heap.size+2) W1 w5):=HB4.out.trans (hb5.mono (HS.out▸HB4.out.size)));clear hb5)
  |(go_at_call 237;(with_reducible refine (HSD.out _).mono ?_);rintro e w6 ⟨rfl,hb6⟩;(have HB6:Hid (Below (w.heap.size+2) W1 w6):=HB5.out.trans (hb6.mono (HS.out▸HB5.out.size)));clear hb6)
  |(go_at_call 236;(with_reducible refine (HSN.out _).mono ?_);rintro e w7 ⟨v,rfl,ho,hb7⟩;(have HB7:Hid (Below (w.heap.size+2) W1 w7):=HB6.out.trans (hb7.mono (HS.out▸HB6.out.size)));(have HO7:Hid (Own fT 9 w7 (w.heap.size+2) v ps):=World.ownsRow.mono ho (HS.out▸HB6.out.size));(obtain ⟨Ap,cp,hv,hcp,hps,_⟩:=ho.shape);rw [HPL.out] at hv hcp;subst hv;(have HCP:=lh hcp);(have HZ7:=lh (HG8.out w7 HB7.out));clear ho hb7 hps hcp)
  |(with_reducible refine ya6 (o:=⟨some 28,_,_,_,_,_⟩) rfl 33 sgP28 yaV (cSg 0 Ap 133 cp Aq 0 0) (sgB28 _ 0 Ap 133 cp Aq 0 0 rfl rfl rfl) ?_)
  |((with_reducible refine yaZ (o:=⟨none,_,_,_,_,_⟩) rfl 33 (.tmp 8) (.tmp 28) rfl (w.heap.size+1) 33 _ (cSg 0 Ap 133 cp Aq 0 0) rfl rfl HZ7.out (ydo ..) rfl (allSgF ..) ?_);intro w8 HG9 HB8n))
 refine bodyPost_ret (results_cell_row rfl _ _ _ _ _ _ _ rfl HG9.out Tryz.underlying33 rfl (ydo ..)) rfl ⟨Ap,cp,Aq,rfl,HCP.out,?_,HB.out.trans ((HB7.out.mono om).trans (HB8n.out.below (by have h1:=HB.out.size;have h2:=HB7.out.size;omega) (fun i hi=>by subst hi;omega)))⟩;have ho:Own fT 9 w8 (w.heap.size+2) (.slice Ap 133 cp) ps:=World.ownsRow.kept HO7.out HB8n.out.grownBy (.inr fun e=>by have:=(World.ownsRow.lt HO7.out _ e).1;omega);exact World.ownsRow.mono ho om
theorem ybW {P:Program} {w:World} {ops:Array Oper} {o:Oper} {a:Act} {K:Act→World→Prop} {Q:Exit→Act→World→Prop} {E:Prop} (hgd:o.guard=none) (ty:TypeId) (ho:o.op= .alloc ty) (i:TypeInfo) (z:Value) (hi:P.info? ty=some i) (hz:i.zero=some z)
 (h:∀g w',Hid (w'.heap[g]? =some (.cells z.cells ty (0,0)))→Hid (Below w.heap.size w w')→Hid (g=w.heap.size∧w'.heap.size=g+1)→K (a.put o.dst (.pointer (some ⟨g,0,none⟩))) w'):if Region.wanted o (yielded ops a.tmps)=true then Oper.wp P o a w K Q else E:=by
 have hw:Region.wanted o (yielded ops a.tmps)=true:=by simp [Region.wanted,hgd]
 rw [if_pos hw]
 have hrun:(Instr.alloc ty true (.tuple #[])).run P w= .ok (.pointer (some ⟨w.heap.size,0,none⟩)) (w.alloc (.cells z.cells ty)):=by
  simp [Instr.alloc,zeroValue,typeInfo,hi,hz,go_sem]
 unfold Oper.wp;simp [execOp,ho,hrun,Result.andThen];exact h _ _ (heap_alloc_new w _) bl ⟨rfl,by simp⟩
theorem step_store_mid {P:Program} {w:World} {ops:Array Oper} {o:Oper} {a:Act} {K:Act→World→Prop} {Q:Exit→Act→World→Prop} {E:Prop} (hgd:o.guard=none) (ty:TypeId) (x y:Operand) (ho:o.op= .store ty x y)
 (g off:Nat) (t:TypeId) (cur cells:Array Value) (hx:a.eval x= .pointer (some ⟨g,off,none⟩)) (hy:a.eval y= .agg cells) (hg:w.heap[g]? =some (.cells cur t (0,0))) (hi:(P.info? ty).map (·.size)=some cells.size)
 (hs:off+cells.size≤cur.size) (h1:cells.all (·.oneCell')=true)
 (h:K (a.put o.dst undef) (w.setCells g off cells.toList)):if Region.wanted o (yielded ops a.tmps)=true then Oper.wp P o a w K Q else E:=by
 have hw:Region.wanted o (yielded ops a.tmps)=true:=by simp [Region.wanted,hgd]
 rw [if_pos hw];refine wp_store_mid ty x y ho g off cells hx hy (fun j hj=>⟨?_,frozen_of_row w g _ _ _ hg⟩) hi h1 h;rw [cell_of_row w g _ _ _ _ hg,Array.getElem?_eq_getElem om]
 rfl
def CellsL (w:World) (g:Nat) (t:TypeId) (l:List Value):Prop:=∃cur,w.heap[g]? =some (.cells cur t (0,0))∧l.length≤cur.size∧∀(j:Nat) v,l[j]? =some v→cur[j]? =some v
theorem CellsL.set {w:World} {g:Nat} {t:TypeId} {l:List Value} (h:CellsL w g t l) (i:Nat) (v:Value):CellsL (w.setCell ⟨g,i,none⟩ v) g t (l.set i v):=by
 obtain ⟨cur,h1,h2,h3⟩:=h;refine ⟨cur.setIfInBounds i v,heap_setCell_same w g i _ _ v h1,by simpa using h2,fun j u hu=>?_⟩;rw [List.getElem?_set] at hu;rw [Array.getElem?_setIfInBounds]
 split at hu
 ·next e=>
  subst e
  split at hu
  ·next h4=>rw [if_pos rfl,if_pos om];exact hu
  ·cases hu
 ·next e=>rw [if_neg e];exact h3 j u hu
theorem CellsL.range {w:World} {g:Nat} {t:TypeId} {l:List Value} (h:CellsL w g t l):w.rangeAt g 0 l:=fun j v hv=>by
 obtain ⟨cur,h1,_,h3⟩:=h;rw [Nat.zero_add,cell_of_row w g j _ _ _ h1];exact h3 j v hv
theorem CellsL.on {w w':World} {g:Nat} {t:TypeId} {l:List Value} (h:CellsL w g t l) (hb:Below w.heap.size w w'):CellsL w' g t l:=by
 obtain ⟨cur,h1,h2,h3⟩:=h;exact ⟨cur,(hb.block _ (lt_of_block h1)).trans h1,h2,h3⟩
theorem CellsL.lt {w:World} {g:Nat} {t:TypeId} {l:List Value} (h:CellsL w g t l):g < w.heap.size:=by
 obtain ⟨cur,h1,_⟩:=h;exact lt_of_block h1
theorem OwnN.cellsL {α:Type} {f:α→List Value} {s:Nat} {t:TypeId} {w:World} {base:Nat} {v:Value} {x:α} {xs:List α} (h:OwnN f s t w base v (x::xs)):∃g c,v= .slice (some ⟨g,0,none⟩) (x::xs).length c∧(x::xs).length≤c∧base≤g∧CellsL w g t ((x::xs).flatMap f):=by
 rcases h.2 with ⟨_,h0⟩ |⟨g,cap,cur,rfl,hb,hg,h1,h2,h3,h4⟩
 ·simp at h0
 ·refine ⟨g,cap,rfl,h1,hb,cur,hg,?_,fun j u hu=>?_⟩
  ·rw [h.1,h3];exact Nat.mul_le_mul_right _ h1
  ·rw [←h4,List.getElem?_take] at hu
   split at hu
   ·rw [←Array.getElem?_toList];exact hu
   ·cases hu
