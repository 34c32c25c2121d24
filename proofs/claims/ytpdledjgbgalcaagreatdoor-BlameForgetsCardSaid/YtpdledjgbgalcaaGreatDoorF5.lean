/- The reference's Issue, of one promise. -/
import Derived.Test.YtpdledjgbgalcaaGreatDoorPx
import Derived.Test.YtpdledjgbgalcaaGreatDoorPw
namespace Go.Proofs.YtpdledjgbgalcaaGreatDoor
set_option maxRecDepth 100000
set_option maxHeartbeats 8000000
open Go.RowKit Go.Lib
set_option linter.unusedVariables false
set_option linter.unusedSimpArgs false
theorem ycI {P:Program} {ops:Array Oper} {S:World→Prop} {o:Oper} {a:Act} (hw:Region.wanted o (yielded ops a.tmps)=true) (t:TypeId) (parts:Array (Nat × Operand)) (ho:o.op= .build t parts) (cells:Array Value)
 (hf:P.built t (parts.map fun (i,x)=>(i,a.eval x)).toList=some cells):YieldsIf P ops S o (.agg cells) a:=by
 refine .inl ⟨hw,fun w _=>?_⟩;unfold execOp;simp only [ho,Sem.run_bind,run_build w t _ cells hf,Result.andThen_ok]
 rfl
abbrev nH:Hd:=⟨none,0,0⟩
def rcU (st:ByteArray) (sz sr:Nat):Rcp:=⟨2,0,st,0,sz,5,sr,1,0,⟨#[]⟩,nH,0,nH,nH⟩
def rcS (st:ByteArray) (sz sr:Nat) (rt:ByteArray) (pa pb pc:Hd):Rcp:=⟨2,0,st,0,sz,5,sr,1,0,rt,pa,0,pb,pc⟩
def rcP83:Array (Nat × Operand):=#[(0,.tmp 60),(1,.tmp 65),(2,.tmp 70),(3,.tmp 75),(4,.tmp 76),(5,.tmp 79),(6,.tmp 81),(7,.tmp 82)]
theorem rcB83 (a:Act) (st:ByteArray) (sz sr:Nat) (h0:a.eval (.tmp 60)= .int .i64 2) (h1:a.eval (.tmp 65)= .int .i64 0) (h2:a.eval (.tmp 70)= .agg #[.string st,.int .i64 0]) (h3:a.eval (.tmp 75)= .int .i64 sz) (h4:a.eval (.tmp 76)= .int .i64 5) (h5:a.eval (.tmp 79)= .int .i64 sr) (h6:a.eval (.tmp 81)= .int .i64 1) (h7:a.eval (.tmp 82)= .int .i64 0):Tryz.prog.built tR (rcP83.map fun (i,x)=>(i,a.eval x)).toList=some (cR (rcU st sz sr)):=by
 rw [Array.toList_map]
 show Tryz.prog.built tR [(0,a.eval (.tmp 60)),(1,a.eval (.tmp 65)),(2,a.eval (.tmp 70)),(3,a.eval (.tmp 75)),(4,a.eval (.tmp 76)),(5,a.eval (.tmp 79)),(6,a.eval (.tmp 81)),(7,a.eval (.tmp 82))]=_
 rw [h0,h1,h2,h3,h4,h5,h6,h7]
 kernel_rfl
theorem ydw (r:Rcp):(Tryz.prog.info? tR).map (·.size)=some (cR r).size:=by kernel_rfl
theorem allRF (r:Rcp):(cR r).all (·.oneCell')=true:=by kernel_rfl
theorem rcUN {st:ByteArray} {sz sr:Nat} (h1:st.size=32) (h2:sz≤65536) (h3:sr≤255):RcN (rcU st sz sr):=⟨2,0,0,sz,5,sr,rfl,by omega,by omega,h1,by omega,h2,by omega,by omega⟩
theorem Tryz.infoRcF:(Tryz.prog.info? tR).map (fun i=>(i.zero.map (·.cells.size),i.size,i.bytes))=some (some 14,14,176):=by kernel_rfl
abbrev fRc (r:Rcp):List Value:=[.int .i64 r.hd,.int .i64 r.vt,.string r.s,.int .i64 r.ix,.int .i64 r.sz,.int .i64 r.dy,.int .i64 r.sr,.int .i64 r.ct,.int .i64 r.pl,.string r.rt,.slice r.pa.a r.pa.n r.pa.c,.int .i64 r.si,.slice r.pb.a r.pb.n r.pb.c,.slice r.pc.a r.pc.n r.pc.c]
theorem fRc_len:∀r,(fRc r).length=14:=fun _=>rfl
theorem fRc_one (r:Rcp):∀u∈fRc r,u.oneCell'=true:=fun u hu=>by
 simp only [fRc,List.mem_cons,List.not_mem_nil,or_false] at hu;rcases hu with rfl |rfl |rfl |rfl |rfl |rfl |rfl |rfl |rfl |rfl |rfl |rfl |rfl |rfl<;>rfl
theorem Tryz.infoSgF:(Tryz.prog.info? 33).map (fun i=>(i.zero,i.size,i.bytes))=some (some (.agg zSgF),3,56):=by kernel_rfl
theorem sizePmL (st:ByteArray) (sz:Nat):(Tryz.prog.info? 158).map (·.size)=some ([.int .i64 0,.string st,.int .i64 0,.int .i64 sz]:List Value).length:=by kernel_rfl
theorem ownN_apart2 {α β:Type} {f:α→Value} {f':β→List Value} {s:Nat} {w:World} {base base':Nat} {e e':TypeId} {v v':Value} {xs:List α} {ys:List β} (h:Own f e w base v xs) (h':OwnN f' s e' w base' v' ys) (hne:e≠e'):v'.ownBlock=none∨v'.ownBlock≠v.ownBlock:=by
 rcases ycc h h' hne with h1 |h1
 ·rcases hv:v'.ownBlock with _ |k
  ·exact .inl rfl
  ·right
   intro e;rw [h1] at e
   cases e
 ·exact .inr fun e=>h1 e.symm
theorem grown_at {w w':World} {row:Option Nat} {g:Nat} {o:Obj} (h:w.grownBy w' row) (hg:w.heap[g]? =some o) (hr:∀k,row=some k→k≠g):w'.heap[g]? =some o:=
 (h.block g (Array.getElem?_eq_some_iff.1 hg).1 (fun e=>by first |exact hr _ e rfl |exact hr _ e.symm rfl)).trans hg
def HnK (w:World) (g:Nat) (st:ByteArray) (sz sr:Nat) (lf:ByteArray) (Ap Aq:Option Addr) (cp k:Nat):Prop:=
 (k=0∧CellsL w g tR (fRc (rcU st sz sr)))∨(k=1∧∃Bq,CellsL w g tR (fRc (rcS st sz sr lf ⟨Bq,0,0⟩ ⟨Ap,133,cp⟩ ⟨Aq,0,0⟩)))
def IsP (st:ByteArray) (sz sr:Nat) (sd:ByteArray) (w:World) (e:Ending) (w':World):Prop:=
 ∃g c Ap cp Ba Bq,e= .returned (.tuple #[.slice (some ⟨g,0,none⟩) 1 c,.int .i64 0])∧1≤c∧(w.heap.size≤g∧g < w'.heap.size)∧(∀V,Below w'.heap.size w' V→V.rangeAt g 0 (cR (rcS st sz sr (leafS (encS (rcU st sz sr))) ⟨Ba,0,0⟩ ⟨Ap,133,cp⟩ ⟨Bq,0,0⟩)).toList)∧133≤cp∧Sl fT w' w'.heap.size Ap 133 (prF sd (btS (leafS (encS (rcU st sz sr))) 1))∧Below w.heap.size w w'
theorem rissue_any (st sd:ByteArray) (sz sr:Nat) (hst:st.size=32) (hsd:sd.size=32) (h1:1≤sz) (h2:sz≤65536) (h3:sr≤255) (gl cl:Nat) (w:World) (hL:w.rangeAt gl 0 [.int .i64 0,.string st,.int .i64 0,.int .i64 sz]) (hgl:gl < w.heap.size):
 Calls Tryz.prog 126 #[.agg (cSc 2 0),.string sd,.int .i64 0,.int .i64 2,.int .i64 5,.int .i64 sr,.slice (some ⟨gl,0,none⟩) 1 cl] w (IsP st sz sr sd w):=by
 obtain ⟨W1,hW1⟩:∃W1:World,W1=w.alloc (.cells (cSc 2 0) 26):=⟨_,rfl⟩
 have HB:Hid (Below w.heap.size w W1):=by show Below ..;rw [hW1];exact bl
 have hsz:W1.heap.size=w.heap.size+1:=by rw [hW1];simp
 have hge:W1.heap[w.heap.size]? =some (.cells (cSc 2 0) 26 (0,0)):=by rw [hW1];exact heap_alloc_new w _
 have HC:Hid (∀V,Below (w.heap.size+1) W1 V→V.cell? ⟨w.heap.size,0,none⟩=some (.int .i64 2)∧V.cell? ⟨w.heap.size,1,none⟩=some (.int .i64 0)):=fun V hv=>by
  have q:=(hv.block w.heap.size (Nat.lt_succ_self _)).trans hge;refine ⟨?_,?_⟩<;>(rw [cell_of_row V _ _ _ _ _ q];rfl)
 have HS:=lh hsz;have HWE:=lh hW1;have HPL:Hid (∀V,Below (w.heap.size+1) W1 V→V.rangeAt gl 0 [.int .i64 0,.string st,.int .i64 0,.int .i64 sz]):=fun V hv i v hi=>(World.cell?_of_block ((HB.out.trans (hv.mono (Nat.le_succ _))).block gl hgl)).trans (hL i v hi)
 have HGL:=lh hgl;obtain ⟨i0,hi,hz0,hz1,hz2⟩:=info_parts Tryz.infoS;have HI:=lh hi;have HZ0:=lh hz0;have HZ1:=lh hz1;have HZ2:=lh hz2;obtain ⟨j0,jz,hj0,hj1,hj2,hj3,hj4⟩:=ybt Tryz.infoRcF;have HJ0:=lh hj0;have HJ1:=lh hj1;have HJ2:=lh hj2;have HJ3:=lh hj3;have HJ4:=lh hj4;have H1:Hid (∀W:World,Calls Tryz.prog 92 #[.int .i64 2,.int .i64 0,.int .i64 11] W fun e w'=>e= .returned (.bool true)∧W=w'):=fun W=>ybw 2 0 11 W
 have H2:Hid (∀W:World,Calls Tryz.prog 92 #[.int .i64 5,.int .i64 0,.int .i64 999999] W fun e w'=>e= .returned (.bool true)∧W=w'):=fun W=>ybw 5 0 999999 W
 have H3:Hid (∀W:World,Calls Tryz.prog 92 #[.int .i64 1,.int .i64 1,.int .i64 256] W fun e w'=>e= .returned (.bool true)∧W=w'):=fun W=>ybw 1 1 256 W
 have H4:Hid (∀W:World,Calls Tryz.prog 92 #[.int .i64 sr,.int .i64 0,.int .i64 1099511627776] W fun e w'=>e= .returned (.bool true)∧W=w'):=fun W=>by
  have:=ybw sr 0 1099511627776 W
  rwa [show rgB (sr:Int) 0 1099511627776=true by unfold rgB;simp;omega] at this
 have HGD:Hid (∀W:World,Calls Tryz.prog 93 #[.agg #[.int .i64 0,.string st,.int .i64 0,.int .i64 sz]] W fun e w'=>e= .returned (.bool true)∧Below W.heap.size W w'):=fun W=>(good_any 0 st 0 sz W).mono fun e w' ⟨he,hw⟩=>⟨he.trans (by rw [show pvB 0 st 0 (sz:Int)=true by unfold pvB rgB;simp;omega]),hw▸bl⟩
 have hw1:IntKind.i64.wrap 1099511627775=1099511627775:=IntWalk.i64_in _ om;have hw2:IntKind.i64.wrap 1099511627776=1099511627776:=IntWalk.i64_in _ om;have hwsr:IntKind.i64.wrap (sr:Int)=sr:=IntWalk.i64_in _ om;have HLF:=lh (fun W=>rcleaf2_any (rcU st sz sr) W (rcUN hst h2 h3));obtain ⟨lf,hlf⟩:∃l,leafS (encS (rcU st sz sr))=l:=⟨_,rfl⟩
 have hlf32:lf.size=32:=by rw [←hlf];exact ybI ..
 have HRT:Hid (∀(W:World) A c,1≤c→Sl fT W W.heap.size A 1 [lf]→Calls Tryz.prog 65 #[.slice A 1 c] W fun e w'=>e= .returned (.string lf)∧Below W.heap.size W w'):=fun W A c hc h=>yc5 1 A 1 c W.heap.size [lf] W h nl hc sI om om (fun s hs=>by rw [List.mem_singleton.1 hs];exact hlf32)
 have HBT:Hid (∀W:World,Calls Tryz.prog 98 #[.string lf,.int .i64 1] W fun e w'=>e= .returned (.string (btS lf 1))∧Below W.heap.size W w'):=fun W=>rbatch_any lf 1 W hlf32 om
 have hdg:(btS lf 1).size=32:=by rw [btS,←ya9,ybi (ybN _),ybA]
 have HSN:=lh (fun W=>rsgn13_any sd (btS lf 1) hsd hdg W);have HPT:=lh (fun A c W=>rPath1_any A c W);unfold IsP;rw [hlf] at HLF ⊢;obtain ⟨dg,hdg'⟩:∃d,btS lf 1=d:=⟨_,rfl⟩
 rw [hdg'] at HBT HSN ⊢;obtain ⟨ps,hps⟩:∃p,prF sd dg=p:=⟨_,rfl⟩
 rw [hps] at HSN ⊢;obtain ⟨W2,hW2⟩:∃W2:World,W2=(W1.alloc (.cells #[] tR)).alloc (.cells #[] 9):=⟨_,rfl⟩
 have HWE2:=lh hW2;have HB2:Hid (Below (w.heap.size+1) W1 W2):=by show Below ..;rw [hW2];exact (br.alloc (Nat.le_of_eq hsz.symm) _).alloc yaW _
 have HOR0:Hid (OwnN fRc 14 tR W2 (w.heap.size+1) (.slice (some ⟨W1.heap.size,0,none⟩) 0 0) (List.replicate 0 (rcU st sz sr))):=by
  show OwnN ..
  rw [hW2];exact OwnN.on (World.ownsRow_made W1 #[] 0 (Nat.le_of_eq hsz.symm) (Nat.zero_le _) sI:OwnN fRc 14 tR (W1.alloc (.cells #[] tR)) (w.heap.size+1) (.slice (some ⟨W1.heap.size,0,none⟩) 0 0) []) bl
 have HOS0:Hid (Own fT 9 W2 (w.heap.size+1) (.slice (some ⟨W1.heap.size+1,0,none⟩) 0 0) (List.replicate 0 lf)):=by
  show Own ..
  rw [hW2,show W1.heap.size+1=(W1.alloc (.cells #[] tR)).heap.size by simp];exact World.ownsRow_lit (W1.alloc (.cells #[] tR)) #[] 0 yaW yaS rfl
 clear hW1 hsz hge hL hgl hi hz0 hz1 hz2 hj0 hj1 hj2 hj3 hj4 hlf hlf32 hdg hdg' hps hW2;go_enter Tryz.func126,Tryz.ntmps126
 go_upto_region 1 with fail
 rw [←HWE.out]
 go_upto_region 3 with (first
  |(go_at_call 92;(with_reducible refine (H1.out _).mono ?_);rintro e w3 ⟨rfl,rfl⟩)
  |(go_at_call 92;(with_reducible refine (H2.out _).mono ?_);rintro e w3 ⟨rfl,rfl⟩)
  |(go_at_call 92;(with_reducible refine (H3.out _).mono ?_);rintro e w3 ⟨rfl,rfl⟩)
  |(go_at_call 92;(with_reducible refine (H4.out _).mono ?_);rintro e w3 ⟨rfl,rfl⟩))
 go_wp2_with fail
 rw [←HWE2.out];have HPC:Hid (∀V,Below (w.heap.size+1) W1 V→V.cell? ⟨gl,0,none⟩=some (.int .i64 0)∧V.cell? ⟨gl,1,none⟩=some (.string st)∧V.cell? ⟨gl,2,none⟩=some (.int .i64 0)∧V.cell? ⟨gl,3,none⟩=some (.int .i64 sz)):=fun V hv=>⟨HPL.out V hv 0 _ rfl,HPL.out V hv 1 _ rfl,HPL.out V hv 2 _ rfl,HPL.out V hv 3 _ rfl⟩
 go_loopw [16,17,18] (fun v u i wr=>∃k:Nat,k≤1∧i= .int .i64 k∧Hid (OwnN fRc 14 tR wr (w.heap.size+1) v (List.replicate k (rcU st sz sr)))∧Hid (Own fT 9 wr (w.heap.size+1) u (List.replicate k lf))∧Hid (Below (w.heap.size+1) W1 wr)) (fun _ _ i _=>1 - (intOf i).toNat)
 case atStart=>exact ⟨0,by omega,rfl,HOR0,HOS0,HB2⟩
 case round=>
  obtain ⟨k,hk,rfl,HOR,HOS,HBr⟩:=hrel;clear HOR0 HOS0 HB2;have HSz:Hid (w.heap.size+1≤wr.heap.size):=HS.out▸HBr.out.size
  by_cases hlt:k < 1
  ·
   obtain rfl:k=0:=by omega
   clear hk hlt;have HLr:=lh (HPL.out wr HBr.out);have HL1:Hid (((List.replicate 0 (rcU st sz sr)).length+1)*176≤140737488355328):=by show _≤_;rw [List.length_replicate];omega
   have HL2:Hid ((List.replicate 0 (rcU st sz sr)).length+1≤maxLen):=by show _≤_;rw [List.length_replicate];unfold maxLen;omega
   have HL3:Hid (((List.replicate 0 lf).length+1)*16≤140737488355328):=by show _≤_;rw [List.length_replicate];omega
   have HL4:Hid ((List.replicate 0 lf).length+1≤maxLen):=by show _≤_;rw [List.length_replicate];unfold maxLen;omega
   go_upto_region 10 with (first
    |(with_reducible refine wpList_load_mid (op:=⟨some 57,_,_,_,_,_⟩) rfl 158 (.tmp 56) rfl gl 0 rfl [.int .i64 0,.string st,.int .i64 0,.int .i64 sz] _ HLr.out Tryz.underlying158 rfl (sizePmL st sz) ?_)
    |(go_at_call 93;(with_reducible refine (HGD.out _).mono ?_);rintro e w5 ⟨rfl,hb5⟩;(have HB5:Hid (Below wr.heap.size wr w5):=hb5);(have HBw5:Hid (Below (w.heap.size+1) W1 w5):=HBr.out.trans (hb5.mono HSz.out));clear hb5))
   refine wp_region_held_drew (S:=(fun w'=>w'.cell? ⟨gl,0,none⟩=some (.int .i64 0)∧w'.cell? ⟨gl,1,none⟩=some (.string st)∧w'.cell? ⟨gl,2,none⟩=some (.int .i64 0)∧w'.cell? ⟨gl,3,none⟩=some (.int .i64 sz))) yaV (by exact HPC.out _ HBw5.out.drew) (fun hHeld=>?_);refine tkY 0 ?_;refine tkY 1 ?_;refine tkY 2 ?_;refine tkY 3 ?_;refine tkY 4 ?_;refine tkY 5 ?_;refine tkY 6 ?_;refine tkY 7 ?_;refine tkY 8 ?_;refine tkY 9 ?_;refine tkY 10 ?_;refine tkY 11 ?_;refine tkY 12 ?_;refine tkY 13 ?_;refine tkY 14 ?_;refine tkY 15 ?_;refine tkY 16 ?_;refine tkY 17 ?_;refine tkY 18 ?_;refine tkY 19 ?_;refine tkY 20 ?_;refine tkY 21 ?_;refine tkY 22 ?_;refine tkH (i:=23) (v:=_) (y:=(ycI (by rfl) tR rcP83 yaV (cR (rcU st sz sr)) (rcB83 _ st sz sr rfl rfl rfl rfl rfl rfl rfl rfl))) (h:=?_)
   try simp only [pt]
   refine rd1 24 (fun K hK=>?_)
   go_simp
   refine hK.out _ _ (by exact HPC.out _ (HBw5.out.drew.alloc (show w.heap.size+1≤w5.heap.size by have:=HSz.out;have:=HB5.out.size;omega) _)) (fun hHeldp25=>?_);clear hK K hHeld
   try simp only [pt]
   refine rd1 25 (fun K hK=>?_)
   ((refine ybd (g:=w5.heap.size) rfl tR (.tmp 19) (.tmp 83) rfl tR _ (cR (rcU st sz sr)) rfl rfl (show (w5.drew.alloc _).heap[w5.heap.size]? =_ from heap_alloc_new w5.drew _) (ydw _) rfl (allRF _) ?_);intro w7 HG7 HB7n;(have HB7:Hid (Below wr.heap.size wr w7):=HB5.out.trans (((Below.refl _ w5).drew.alloc nl _ |>.trans (HB7n.out.below sI (fun i hi=>by subst hi;exact Nat.le_refl _))).mono HB5.out.size));(have HBw7:Hid (Below (w.heap.size+1) W1 w7):=HBr.out.trans (HB7.out.mono HSz.out)))
   refine hK.out _ _ (by exact HPC.out _ HBw7.out) (fun hHeldp26=>?_);clear hK K hHeldp25
   try simp only [pt]
   refine wpAnyH_done yaV ?_ _;have HG7b:=lh HG7.out;have HOR7:=lh (HOR.out.on HB7.out);have HOS7:=lh (HOS.out.on HB7.out);have HS7:Hid (w.heap.size+1≤w7.heap.size):=Nat.le_trans HSz.out HB7.out.size;clear HOS HLr
   go_wp2_with (first
    |(with_reducible refine wpList_load_row (o:=⟨some 85,_,_,_,_,_⟩) rfl tR (.tmp 19) rfl w5.heap.size rfl tR (cR (rcU st sz sr)) _ _ HG7.out Tryz.underlying35 rfl (ydw _) ?_)
    |(with_reducible refine ybf (o:=⟨some 86,_,_,_,_,_⟩) rfl 89 (.tmp 85) rfl tR j0 jz 14 Tryz.underlying89 HJ0.out HJ1.out HJ2.out HJ4.out om om (fRc (rcU st sz sr)).toArray rfl rfl ?_)
    |((with_reducible refine ybP (o:=⟨some 87,_,_,_,_,_⟩) (f:=fRc) fRc_len om rfl (.tmp 84) (.tmp 86) 89 rfl tR j0 jz 176 Tryz.underlying89 HJ0.out HJ1.out HJ2.out HJ3.out HJ4.out _ (List.replicate 0 (rcU st sz sr)) (w.heap.size+1) rfl HOR7.out (rcU st sz sr) 1 rfl fRc_one HL1.out HL2.out HS7.out ?_);intro v8 w8 HO8 HG8 HV8;(have HB8:Hid (Below (w.heap.size+1) W1 w8):=OwnN.below HOR7.out HBw7.out nl (HS.out▸HBw7.out.size) HG8.out);(have HOS8:Hid (Own fT 9 w8 (w.heap.size+1) _ (List.replicate 0 lf)):=World.ownsRow.kept HOS7.out HG8.out (ycc HOS7.out HOR7.out de));(have HG78:Hid (w8.heap[w5.heap.size]? =some (.cells (cR (rcU st sz sr)) tR (0,0))):=grown_at HG8.out HG7.out (fun k hk e=>by have h1:=(World.ownsRow.lt HOR.out _ hk).2;have h2:=HB5.out.size;omega)))
    |(with_reducible refine wpList_load_row (o:=⟨some 89,_,_,_,_,_⟩) rfl tR (.tmp 19) rfl w5.heap.size rfl tR (cR (rcU st sz sr)) _ _ HG78.out Tryz.underlying35 rfl (ydw _) ?_)
    |(go_at_call 96;(with_reducible refine (HLF.out _).mono ?_);rintro e w9 ⟨rfl,hb9⟩;(have HB9:Hid (Below (w.heap.size+1) W1 w9):=HB8.out.trans (hb9.mono (HS.out▸HB8.out.size)));(have HOS9:=lh (HOS8.out.on hb9));(have HOR9:=lh (OwnN.on HO8.out hb9));(have HS9:Hid (w.heap.size+1≤w9.heap.size):=HS.out▸HB9.out.size);clear hb9)
    |(at_builtin;(with_reducible refine ya4 (o:=⟨some 92,_,_,_,_,_⟩) rfl (.tmp 88) (.tmp 91) 24 rfl 9 i0 (.string ⟨#[]⟩) 16 Tryz.underlying24 HI.out HZ0.out HZ1.out HZ2.out rfl _ (List.replicate 0 lf) (w.heap.size+1) rfl HOS9.out lf 1 rfl fT1 HL3.out HL4.out HS9.out ?_);intro v10 w10 HO10 HG10 HV10;(have HB10:Hid (Below (w.heap.size+1) W1 w10):=HB9.out.trans (yaY HG10.out (fun j hj=>(World.ownsRow.lt HOS9.out j hj).1) HS9.out));(have HOR10:=lh (World.ownsRow.kept HOR9.out HG10.out (ownN_apart2 HOS9.out HOR9.out de)))))
   go_roundw
   case rel=>exact ⟨1,by omega,by go_num,HOR10,HO10,HB10⟩
   case measure=>simp [intOf]
  ·
   obtain rfl:k=1:=by omega
   clear HLF HGD H1 H2 H3 H4 HPL HPC hw1 hw2;obtain ⟨c0,c1⟩:=HC.out wr HBr.out;have hos:=HOS.out;obtain ⟨AS,cS,hvS,hcS,hsS,_⟩:=hos.shape;rw [show (List.replicate 1 lf).length=1 from rfl] at hvS hcS;subst hvS;have HSS:Hid (Sl fT wr wr.heap.size AS 1 [lf]):=⟨rfl,hsS⟩;have HR1:=lh (HRT.out wr AS cS hcS HSS.out);obtain ⟨gr,cr,hvR,hcr,hbr,hcl⟩:=OwnN.cellsL (HOR.out:OwnN fRc 14 tR wr (w.heap.size+1) _ (rcU st sz sr::[]));rw [show (rcU st sz sr::List.replicate 0 (rcU st sz sr)).length=1 from rfl] at hvR hcr;subst hvR;have HCL:Hid (CellsL wr gr tR (fRc (rcU st sz sr))):=hcl;have HCR:=lh hcr;have HBR:=lh hbr;clear hos hcS hsS hcr hbr hcl HOS HOR
   go_upto_region 16 with (go_at_call 65;(with_reducible refine HR1.out.mono ?_);rintro e w11 ⟨rfl,hb11⟩;(have HB11:Hid (Below wr.heap.size wr w11):=hb11);clear hb11)
   have HBw:Hid (∀V,Below w11.heap.size w11 V→Below (w.heap.size+1) W1 V):=fun V hv=>(HBr.out.trans (HB11.out.mono HSz.out)).trans (hv.mono (Nat.le_trans HSz.out HB11.out.size))
   obtain ⟨s0,hs0,hs1,hs2,hs3⟩:=info_parts Tryz.infoSgF;have HG0:=lh hs0;have HG1:=lh hs1;have HW11:Hid (Below w11.heap.size w11 w11):=Below.refl _ _;clear hs0 hs1 hs2 hs3 c0 c1
   go_cut [21] from 100 (fun p wx=>∃g13 Ap cp Aq,p= .pointer (some ⟨g13,0,none⟩)∧Hid (Below w11.heap.size w11 wx)∧Hid (wx.heap[g13]? =some (.cells (cSg 0 Ap 133 cp Aq 0 0) 33 (0,0)))∧Hid (Own fT 9 wx w11.heap.size (.slice Ap 133 cp) ps)∧Hid (133≤cp)∧Hid (w11.heap.size≤g13))
   case first=>
    refine wp_region_held_drew (S:=(fun w'=>w'.cell? ⟨w.heap.size,0,none⟩=some (.int .i64 2)∧w'.cell? ⟨w.heap.size,1,none⟩=some (.int .i64 0))) yaV (by exact HC.out _ (HBw.out _ HW11.out.drew)) (fun hHeld=>?_);refine tkY 0 ?_;refine tkY 1 ?_;refine tkY 2 ?_;refine tkY 3 ?_;refine tkY 4 ?_;refine tkY 6 ?_;refine rd2 5 8 (fun K hK=>?_) (fun K hK=>?_)
    ·(go_simp;go_at_call 98;(with_reducible refine (HBT.out _).mono ?_);rintro e w12 ⟨rfl,hb12⟩;(have HB12:Hid (Below w11.heap.size w11 w12):=by first |exact HB13.out.trans (hb12.mono HB13.out.size) |exact (Below.refl _ w11).drew.trans hb12);(try (have HG13:=lh ((hb12.block _ (lt_of_block HG13.out)).trans HG13.out)));clear hb12;go_wp2_with fail)
     refine hK.out _ _ (by exact HC.out _ (HBw.out _ HB12.out)) (fun hHeldr8=>?_);clear hK K hHeld
     try simp only [pt]
     refine rd2 7 8 (fun K hK=>?_) (fun K hK=>?_)
     ·(go_simp;go_at_call 184;(with_reducible refine (HSN.out _).mono ?_);rintro e w14 ⟨Ap,cp,Aq,rfl,hcp,ho14,hb14⟩;(have HCP:=lh hcp);(try (have HNE:Hid (∀k,(Value.slice Ap 133 cp).ownBlock=some k→k≠g13):=fun k hk e=>by have h1:=(World.ownsRow.lt ho14 _ hk).1;have h2:=lt_of_block HG13.out;omega));(have HB14:Hid (Below w11.heap.size w11 w14):=by first |exact HB13.out.trans (hb14.mono HB13.out.size) |exact HB12.out.trans (hb14.mono HB12.out.size));(have HO14:Hid (Own fT 9 w14 w11.heap.size (.slice Ap 133 cp) ps):=World.ownsRow.mono ho14 (by first |exact HB13.out.size |exact HB12.out.size));(try (have HG13:=lh ((hb14.block _ (lt_of_block HG13.out)).trans HG13.out)));clear hcp ho14 hb14;go_wp2_with fail)
      refine hK.out _ _ (by exact HC.out _ (HBw.out _ HB14.out)) (fun hHeldr10=>?_);clear hK K hHeldr8
      try simp only [pt]
      refine rd1 8 (fun K hK=>?_)
      ((refine ybW rfl 33 rfl s0 _ HG0.out HG1.out ?_);intro g13 w13 HG13 HB13n HQ13;(try (have HNE:Hid (∀k,(Value.slice Ap 133 cp).ownBlock=some k→k≠g13):=fun k hk e=>by have h1:=(World.ownsRow.lt HO14.out _ hk).2;have h2:=HQ13.out.1;omega));(have HB13:Hid (Below w11.heap.size w11 w13):=by first |exact HB14.out.trans (HB13n.out.mono HB14.out.size) |exact HB12.out.trans (HB13n.out.mono HB12.out.size) |exact (Below.refl _ w11).drew.trans HB13n.out);(have HS13:Hid (w11.heap.size≤g13):=by (have h:=HQ13.out.1);first |exact Nat.le_of_eq h.symm |exact Nat.le_trans HB14.out.size (Nat.le_of_eq h.symm) |exact Nat.le_trans HB12.out.size (Nat.le_of_eq h.symm));(try (have HO14:=lh (HO14.out.on HB13n.out))))
      refine hK.out _ _ (by exact HC.out _ (HBw.out _ HB13.out)) (fun hHeldr11=>?_);clear hK K hHeldr10
      try simp only [pt]
      refine rd1 9 (fun K hK=>?_)
      ((refine ybd (g:=g13) rfl 33 (.tmp 21) (.tmp 107) rfl 33 _ (cSg 0 Ap 133 cp Aq 0 0) rfl rfl HG13.out (ydo ..) rfl (allSgF ..) ?_);intro w15 HG15 HB15n;(have HB15:Hid (Below w11.heap.size w11 w15):=by first |exact HB14.out.trans (HB15n.out.below HB14.out.size (fun i hi=>by subst hi;exact HS13.out)) |exact HB13.out.trans (HB15n.out.below HB13.out.size (fun i hi=>by subst hi;exact HS13.out)));(have HO15:Hid (Own fT 9 w15 w11.heap.size (.slice Ap 133 cp) ps):=World.ownsRow.kept HO14.out HB15n.out.grownBy (.inr (fun e=>HNE.out _ e rfl))))
      refine hK.out _ _ (by exact HC.out _ (HBw.out _ HB15.out)) (fun hHeldr12=>?_);clear hK K hHeldr11
      try simp only [pt]
      refine wpAnyH_done yaV ?_ _
      go_wp2_with fail
      go_meet
      case rel=>exact ⟨g13,Ap,cp,Aq,rfl,HB15,HG15,HO15,HCP,HS13⟩
     ·((refine ybW rfl 33 rfl s0 _ HG0.out HG1.out ?_);intro g13 w13 HG13 HB13n HQ13;(try (have HNE:Hid (∀k,(Value.slice Ap 133 cp).ownBlock=some k→k≠g13):=fun k hk e=>by have h1:=(World.ownsRow.lt HO14.out _ hk).2;have h2:=HQ13.out.1;omega));(have HB13:Hid (Below w11.heap.size w11 w13):=by first |exact HB14.out.trans (HB13n.out.mono HB14.out.size) |exact HB12.out.trans (HB13n.out.mono HB12.out.size) |exact (Below.refl _ w11).drew.trans HB13n.out);(have HS13:Hid (w11.heap.size≤g13):=by (have h:=HQ13.out.1);first |exact Nat.le_of_eq h.symm |exact Nat.le_trans HB14.out.size (Nat.le_of_eq h.symm) |exact Nat.le_trans HB12.out.size (Nat.le_of_eq h.symm));(try (have HO14:=lh (HO14.out.on HB13n.out))))
      refine hK.out _ _ (by exact HC.out _ (HBw.out _ HB13.out)) (fun hHeldr13=>?_);clear hK K hHeldr8
      try simp only [pt]
      refine rd1 7 (fun K hK=>?_)
      (go_simp;go_at_call 184;(with_reducible refine (HSN.out _).mono ?_);rintro e w14 ⟨Ap,cp,Aq,rfl,hcp,ho14,hb14⟩;(have HCP:=lh hcp);(try (have HNE:Hid (∀k,(Value.slice Ap 133 cp).ownBlock=some k→k≠g13):=fun k hk e=>by have h1:=(World.ownsRow.lt ho14 _ hk).1;have h2:=lt_of_block HG13.out;omega));(have HB14:Hid (Below w11.heap.size w11 w14):=by first |exact HB13.out.trans (hb14.mono HB13.out.size) |exact HB12.out.trans (hb14.mono HB12.out.size));(have HO14:Hid (Own fT 9 w14 w11.heap.size (.slice Ap 133 cp) ps):=World.ownsRow.mono ho14 (by first |exact HB13.out.size |exact HB12.out.size));(try (have HG13:=lh ((hb14.block _ (lt_of_block HG13.out)).trans HG13.out)));clear hcp ho14 hb14;go_wp2_with fail)
      refine hK.out _ _ (by exact HC.out _ (HBw.out _ HB14.out)) (fun hHeldr14=>?_);clear hK K hHeldr13
      try simp only [pt]
      refine rd1 9 (fun K hK=>?_)
      ((refine ybd (g:=g13) rfl 33 (.tmp 21) (.tmp 107) rfl 33 _ (cSg 0 Ap 133 cp Aq 0 0) rfl rfl HG13.out (ydo ..) rfl (allSgF ..) ?_);intro w15 HG15 HB15n;(have HB15:Hid (Below w11.heap.size w11 w15):=by first |exact HB14.out.trans (HB15n.out.below HB14.out.size (fun i hi=>by subst hi;exact HS13.out)) |exact HB13.out.trans (HB15n.out.below HB13.out.size (fun i hi=>by subst hi;exact HS13.out)));(have HO15:Hid (Own fT 9 w15 w11.heap.size (.slice Ap 133 cp) ps):=World.ownsRow.kept HO14.out HB15n.out.grownBy (.inr (fun e=>HNE.out _ e rfl))))
      refine hK.out _ _ (by exact HC.out _ (HBw.out _ HB15.out)) (fun hHeldr15=>?_);clear hK K hHeldr14
      try simp only [pt]
      refine wpAnyH_done yaV ?_ _
      go_wp2_with fail
      go_meet
      case rel=>exact ⟨g13,Ap,cp,Aq,rfl,HB15,HG15,HO15,HCP,HS13⟩
    ·((refine ybW rfl 33 rfl s0 _ HG0.out HG1.out ?_);intro g13 w13 HG13 HB13n HQ13;(try (have HNE:Hid (∀k,(Value.slice Ap 133 cp).ownBlock=some k→k≠g13):=fun k hk e=>by have h1:=(World.ownsRow.lt HO14.out _ hk).2;have h2:=HQ13.out.1;omega));(have HB13:Hid (Below w11.heap.size w11 w13):=by first |exact HB14.out.trans (HB13n.out.mono HB14.out.size) |exact HB12.out.trans (HB13n.out.mono HB12.out.size) |exact (Below.refl _ w11).drew.trans HB13n.out);(have HS13:Hid (w11.heap.size≤g13):=by (have h:=HQ13.out.1);first |exact Nat.le_of_eq h.symm |exact Nat.le_trans HB14.out.size (Nat.le_of_eq h.symm) |exact Nat.le_trans HB12.out.size (Nat.le_of_eq h.symm));(try (have HO14:=lh (HO14.out.on HB13n.out))))
     refine hK.out _ _ (by exact HC.out _ (HBw.out _ HB13.out)) (fun hHeldr16=>?_);clear hK K hHeld
     try simp only [pt]
     refine rd1 5 (fun K hK=>?_)
     (go_simp;go_at_call 98;(with_reducible refine (HBT.out _).mono ?_);rintro e w12 ⟨rfl,hb12⟩;(have HB12:Hid (Below w11.heap.size w11 w12):=by first |exact HB13.out.trans (hb12.mono HB13.out.size) |exact (Below.refl _ w11).drew.trans hb12);(try (have HG13:=lh ((hb12.block _ (lt_of_block HG13.out)).trans HG13.out)));clear hb12;go_wp2_with fail)
     refine hK.out _ _ (by exact HC.out _ (HBw.out _ HB12.out)) (fun hHeldr17=>?_);clear hK K hHeldr16
     try simp only [pt]
     refine rd1 7 (fun K hK=>?_)
     (go_simp;go_at_call 184;(with_reducible refine (HSN.out _).mono ?_);rintro e w14 ⟨Ap,cp,Aq,rfl,hcp,ho14,hb14⟩;(have HCP:=lh hcp);(try (have HNE:Hid (∀k,(Value.slice Ap 133 cp).ownBlock=some k→k≠g13):=fun k hk e=>by have h1:=(World.ownsRow.lt ho14 _ hk).1;have h2:=lt_of_block HG13.out;omega));(have HB14:Hid (Below w11.heap.size w11 w14):=by first |exact HB13.out.trans (hb14.mono HB13.out.size) |exact HB12.out.trans (hb14.mono HB12.out.size));(have HO14:Hid (Own fT 9 w14 w11.heap.size (.slice Ap 133 cp) ps):=World.ownsRow.mono ho14 (by first |exact HB13.out.size |exact HB12.out.size));(try (have HG13:=lh ((hb14.block _ (lt_of_block HG13.out)).trans HG13.out)));clear hcp ho14 hb14;go_wp2_with fail)
     refine hK.out _ _ (by exact HC.out _ (HBw.out _ HB14.out)) (fun hHeldr18=>?_);clear hK K hHeldr17
     try simp only [pt]
     refine rd1 9 (fun K hK=>?_)
     ((refine ybd (g:=g13) rfl 33 (.tmp 21) (.tmp 107) rfl 33 _ (cSg 0 Ap 133 cp Aq 0 0) rfl rfl HG13.out (ydo ..) rfl (allSgF ..) ?_);intro w15 HG15 HB15n;(have HB15:Hid (Below w11.heap.size w11 w15):=by first |exact HB14.out.trans (HB15n.out.below HB14.out.size (fun i hi=>by subst hi;exact HS13.out)) |exact HB13.out.trans (HB15n.out.below HB13.out.size (fun i hi=>by subst hi;exact HS13.out)));(have HO15:Hid (Own fT 9 w15 w11.heap.size (.slice Ap 133 cp) ps):=World.ownsRow.kept HO14.out HB15n.out.grownBy (.inr (fun e=>HNE.out _ e rfl))))
     refine hK.out _ _ (by exact HC.out _ (HBw.out _ HB15.out)) (fun hHeldr19=>?_);clear hK K hHeldr18
     try simp only [pt]
     refine wpAnyH_done yaV ?_ _
     go_wp2_with fail
     go_meet
     case rel=>exact ⟨g13,Ap,cp,Aq,rfl,HB15,HG15,HO15,HCP,HS13⟩
   case rest=>
    obtain ⟨g13,Ap,cp,Aq,rfl,HB15,HG15,HO15,HCP,HS13⟩:=hcut;have HCL15:=lh ((HCL.out.on HB11.out).on HB15.out);have HGR:Hid (gr < w11.heap.size):=(HCL.out.on HB11.out).lt;obtain ⟨W5,hW5⟩:∃W:World,W=wc:=⟨_,rfl⟩
    have HG3:Hid (∀V,But (fun i=>i=gr) wc V→V.cell? ⟨g13,0,none⟩=some (.int .i64 0)∧V.cell? ⟨g13,1,none⟩=some (.slice Ap 133 cp)∧V.cell? ⟨g13,2,none⟩=some (.slice Aq 0 0)):=fun V hv=>by
     have q:=(hv.block g13 (lt_of_block HG15.out) (by have h1:=HGR.out;have h2:=HS13.out;omega)).trans HG15.out;refine ⟨?_,?_,?_⟩<;>(rw [cell_of_row V _ _ _ _ _ q];rfl)
    have HBU:Hid (But (fun i=>i=gr) wc wc):=But.refl _ _;have HK0:Hid (HnK wc gr st sz sr lf Ap Aq cp 0):= .inl ⟨rfl,HCL15.out⟩;have HBr0:Hid (Below (w.heap.size+1) W1 w11):=HBr.out.trans (HB11.out.mono HSz.out);have HS11:Hid (w.heap.size+1≤w11.heap.size):=Nat.le_trans HSz.out HB11.out.size;clear HRT HBT HSN HR1 HC HCL HBw hW5
    go_wp2_with fail
    obtain ⟨wz,hwz⟩:∃W:World,W=wc:=⟨_,rfl⟩
    rw [←hwz] at HB15 HG15 HO15 HG3 HBU HK0 HCL15 ⊢;clear hwz
    go_loopw [22] (fun i wr=>∃k:Nat,k≤1∧i= .int .i64 k∧Hid (But (fun i=>i=gr) wz wr)∧Hid (HnK wr gr st sz sr lf Ap Aq cp k)) (fun i _=>1 - (intOf i).toNat)
    case atStart=>exact ⟨0,by omega,rfl,HBU,HK0⟩
    case round=>
     obtain ⟨k,hk,rfl,HBu,HK⟩:=hrel;clear HBU HK0
     by_cases hlt:k < 1
     ·
      obtain rfl:k=0:=by omega
      clear hk hlt
      have hcl:CellsL wr gr tR (fRc (rcU st sz sr)):=by
       rcases HK.out with ⟨_,h⟩ |⟨h,_⟩
       ·exact h
       ·exact absurd h de
      have y9:wr.cell? ⟨gr,9,none⟩=some (.string ⟨#[]⟩):=hcl.range 9 _ rfl;have y10:wr.cell? ⟨gr,10,none⟩=some (.slice none 0 0):=hcl.range 10 _ rfl;have hfz:∀j,wr.frozen? ⟨gr,j,none⟩=false:=fun j=>by obtain ⟨cur,h1,_⟩:=hcl;exact frozen_of_row wr gr j _ _ h1
      have f9:=hfz 9;have f10:=hfz 10;have HCL2:Hid (CellsL wr.drew gr tR (fRc (rcU st sz sr))):=hcl;have HBd:Hid (But (fun i=>i=gr) wz wr.drew):=⟨HBu.out.os,HBu.out.tape,HBu.out.output,HBu.out.size,HBu.out.block⟩;have hb8:But (fun i=>i=gr) wz (wr.setCell ⟨gr,9,none⟩ (.string lf)):=HBu.out.setCell (.inl rfl) _;have HB8x:Hid (But (fun i=>i=gr) wz (wr.setCell ⟨gr,9,none⟩ (.string lf)).drew):=⟨hb8.os,hb8.tape,hb8.output,hb8.size,hb8.block⟩;have HB11x:Hid (But (fun i=>i=gr) wz ((wr.setCell ⟨gr,9,none⟩ (.string lf)).drew.setCells gr 11 [.int .i64 0,.slice Ap 133 cp,.slice Aq 0 0])):=HB8x.out.trans (But.setCells gr _ 11 _) (fun i hi=> .inl hi);have HC11x:Hid (CellsL ((wr.setCell ⟨gr,9,none⟩ (.string lf)).drew.setCells gr 11 [.int .i64 0,.slice Ap 133 cp,.slice Aq 0 0]) gr tR (((((fRc (rcU st sz sr)).set 9 (.string lf)).set 11 (.int .i64 0)).set 12 (.slice Ap 133 cp)).set 13 (.slice Aq 0 0))):=((((HCL2.out.set 9 (.string lf)).set 11 (.int .i64 0)).set 12 (.slice Ap 133 cp)).set 13 (.slice Aq 0 0));clear hb8;clear hcl hfz HK
      go_wp2_with fail
      refine wp_region_held_drew (S:=(fun w'=>w'.cell? ⟨g13,0,none⟩=some (.int .i64 0)∧w'.cell? ⟨g13,1,none⟩=some (.slice Ap 133 cp)∧w'.cell? ⟨g13,2,none⟩=some (.slice Aq 0 0))) yaV (by exact HG3.out _ HBd.out) (fun hHeld=>?_);refine tkY 0 ?_;refine tkY 1 ?_;refine tkY 2 ?_;refine tkY 3 ?_;refine tkY 4 ?_;refine tkY 5 ?_;refine tkY 6 ?_;refine tkY 7 ?_;refine rd1 8 (fun K hK=>?_)
      go_simp
      refine hK.out _ _ (by exact HG3.out _ HB8x.out) (fun hHelds9=>?_);clear hK K hHeld
      try simp only [pt]
      refine tkY 9 ?_;refine tkY 10 ?_;refine rd1 11 (fun K hK=>?_)
      ((obtain ⟨cur2,hc2,hl2,_⟩:=HCL2.out.set 9 (.string lf));(refine step_store_mid rfl 33 (.tmp 123) (.tmp 119) rfl gr 11 tR cur2 (cSg 0 Ap 133 cp Aq 0 0) rfl rfl hc2 (ydo ..) (by simp at hl2 ⊢;omega) (allSgF ..) ?_);clear hc2 hl2)
      refine hK.out _ _ (by exact HG3.out _ HB11x.out) (fun hHelds12=>?_);clear hK K hHelds9
      try simp only [pt]
      refine wpAnyH_done yaV ?_ _;obtain ⟨w20,hw20⟩:∃W,W=((wr.setCell ⟨gr,9,none⟩ (.string lf)).drew.setCells gr 11 [.int .i64 0,.slice Ap 133 cp,.slice Aq 0 0]):=⟨_,rfl⟩
      rw [←hw20] at HB11x HC11x ⊢;clear hw20 HB8x y9 y10 f9 f10 HBd HBu HCL2
      go_wp2_with (go_at_call 185;(with_reducible refine (HPT.out _ _ _).mono ?_);rintro e w21 ⟨Bq,rfl,hb21⟩;(have HB21:Hid (Below w20.heap.size w20 w21):=hb21);(have HC21:=lh (HC11x.out.on hb21));(have y10:w21.cell? ⟨gr,10,none⟩=some (.slice none 0 0):=HC21.out.range 10 _ rfl);(have f10:w21.frozen? ⟨gr,10,none⟩=false:=by obtain ⟨cur,h1,_⟩:=HC21.out;exact frozen_of_row w21 gr 10 _ _ h1);clear hb21)
      have HB22:Hid (But (fun i=>i=gr) wz (w21.setCell ⟨gr,10,none⟩ (.slice Bq 0 0))):=(HB11x.out.trans (But.of_below (p:=fun i=>i=gr) HB21.out) (fun i hi=> .inl hi)).setCell (.inl rfl) _;have HK22:Hid (HnK (w21.setCell ⟨gr,10,none⟩ (.slice Bq 0 0)) gr st sz sr lf Ap Aq cp 1):= .inr ⟨rfl,Bq,HC21.out.set 10 (.slice Bq 0 0)⟩
      go_roundw
      case rel=>exact ⟨1,by omega,by go_num,HB22,HK22⟩
      case measure=>simp [intOf]
     ·
      obtain rfl:k=1:=by omega
      have hcl:∃Bq,CellsL wr gr tR (fRc (rcS st sz sr lf ⟨Bq,0,0⟩ ⟨Ap,133,cp⟩ ⟨Aq,0,0⟩)):=by
       rcases HK.out with ⟨h,_⟩ |⟨_,h⟩
       ·exact absurd h de
       ·exact h
      obtain ⟨Bq,hcl⟩:=hcl;have HCF:=lh hcl;clear hcl
      go_wp2_with fail
      go_ret2;have ho:Own fT 9 wr w11.heap.size (.slice Ap 133 cp) ps:=World.ownsRow.kept HO15.out HBu.out.grownBy (.inr (fun e=>by have h1:=(World.ownsRow.lt HO15.out _ e).1;have h2:=HGR.out;omega));obtain ⟨A9,c9,hv9,_,hs9,_⟩:=ho.shape;injection hv9 with e1 e2 e3;subst e1;have hbz:Below (w.heap.size+1) W1 wr:=(HBr0.out.trans (HB15.out.mono HS11.out)).trans (HBu.out.below (Nat.le_trans HS11.out HB15.out.size) (fun i hi=>by subst hi;exact HBR.out));exact ⟨gr,cr,Ap,cp,Bq,Aq,rfl,HCR.out,⟨by have:=HBR.out;omega,HCF.out.lt⟩,fun V hv=>(HCF.out.on hv).range,HCP.out,⟨e2.symm,hs9⟩,HB.out.trans (hbz.mono (Nat.le_succ _))⟩
