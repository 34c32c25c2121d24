/- The law's examples: awake. -/
import Derived.Test.YtpdledjgbgalcaaGreatDoorPs
import Derived.Test.YtpdledjgbgalcaaGreatDoorPm
import Derived.Lib.SlBytesConst
import Derived.Great.BuildSlice
import Derived.Deep.MidRow
namespace Go.Proofs.YtpdledjgbgalcaaGreatDoor
set_option maxRecDepth 100000
set_option maxHeartbeats 8000000
open Go.RowKit Go.Lib
set_option linter.unusedVariables false
set_option linter.unusedSimpArgs false
theorem encV03:encV [0,3]=[2,0,3]:=by decide
theorem nrm03:nrm [0,3]=[0,3]:=by decide
def rc0 (s:ByteArray):Rcp:=⟨2,0,s,0,1,0,0,0,0,⟨#[]⟩,⟨none,0,0⟩,0,⟨none,0,0⟩,⟨none,0,0⟩⟩
theorem rea0 (s:ByteArray):rea [2] [rc0 s,rc0 s]=[(s,0)]:=by
 have h1:reaS [2] [] (rc0 s)=[(s,0)]:=by
  unfold reaS;rw [pinB_no sI]
  rfl
 have h2:reaS [2] [(s,0)] (rc0 s)=[(s,0)]:=by
  unfold reaS;rw [ydD (by simp [rc0])];simp
 show reaS [2] (reaS [2] [] (rc0 s)) (rc0 s)=_
 rw [h1,h2]
theorem two_rows (w:World) (s:ByteArray):SlN fR 14 (w.alloc (.cells ((fR (rc0 s)++fR (rc0 s)).toArray) 35)) (w.heap.size+1) (some ⟨w.heap.size,0,none⟩) 2 [rc0 s,rc0 s]:=
 ⟨rfl,fun _=>⟨w.heap.size,0,rfl,Nat.lt_succ_self _,fun k x hk j v hv=>by
   have hj:j < 14:=(List.getElem?_eq_some_iff.1 hv).1;rw [cell_of_row _ _ _ _ _ _ (heap_alloc_new w _),List.getElem?_toArray,Nat.zero_add];rcases k with _ |_ |k
   ·simp at hk;subst hk
    rw [Nat.zero_mul,Nat.zero_add,List.getElem?_append_left (by rw [fR_len];exact hj)];exact hv
   ·simp at hk;subst hk
    rw [List.getElem?_append_right (by rw [fR_len];omega),fR_len,show (0+1)*14+j - 14=j by omega];exact hv
   ·simp at hk⟩⟩
def rcParts:Array (Nat × Operand):=#[(0,.const (.int .i64 2)),(2,.tmp 25),(3,.const (.int .i64 1))]
def acParts:Array (Nat × Operand):=#[(2,.tmp 26)]
abbrev rcArr (s:ByteArray):Array Value:=(fR (rc0 s)).toArray
theorem rcBuilt (a:Act) (s:ByteArray) (h:a.eval (.tmp 25)= .agg #[.string s,.int .i64 0]):Tryz.prog.built 35 (rcParts.map fun (i,x)=>(i,a.eval x)).toList=some (rcArr s):=by
 rw [Array.toList_map]
 show Tryz.prog.built 35 [(0,.int .i64 2),(2,a.eval (.tmp 25)),(3,.int .i64 1)]=_
 rw [h]
 kernel_rfl
theorem acBuilt (a:Act) (s:ByteArray) (h:a.eval (.tmp 26)= .agg (rcArr s)):Tryz.prog.built 39 (acParts.map fun (i,x)=>(i,a.eval x)).toList=some (ybB s 1):=by
 rw [Array.toList_map]
 show Tryz.prog.built 39 [(2,a.eval (.tmp 26))]=_
 rw [h]
 kernel_rfl
theorem acc_size (s:ByteArray):(Tryz.prog.info? 39).map (·.size)=some (ybB s 1).size:=by kernel_rfl
theorem acc_one (s:ByteArray):(ybB s 1).all (·.oneCell')=true:=by
 rw [Array.all_eq_true'];intro x hx;simp [ybB] at hx
 repeat' (rcases hx with rfl |hx)
 all_goals first
  |rfl
  |(subst hx;rfl)
def zRc:Value:= .agg #[.int .i64 0,.int .i64 0,.string ⟨#[]⟩,.int .i64 0,.int .i64 0,.int .i64 0,.int .i64 0,.int .i64 0,.int .i64 0,.string ⟨#[]⟩,.slice none 0 0,.int .i64 0,.slice none 0 0,.slice none 0 0]
theorem Tryz.infoRc:(Tryz.prog.info? 35).map (fun i=>(i.zero,i.size))=some (some zRc,14):=by kernel_rfl
def rsParts:Array (Nat × Operand):=#[(0,.tmp 29),(1,.tmp 31)]
abbrev rsArr (s:ByteArray):Array Value:=(fR (rc0 s)++fR (rc0 s)).toArray
theorem rsFill (a:Act) (s:ByteArray) (h:a.eval (.tmp 29)= .agg (rcArr s)) (h':a.eval (.tmp 31)= .agg (rcArr s)):
 Instr.fill (fun i=>some (i*14,14)) ((Array.range (2*14)).map (zRc.cells[· % zRc.cells.size]!)) (rsParts.map fun (i,x)=>(i,a.eval x)).toList=some (rsArr s):=by
 rw [Array.toList_map]
 show Instr.fill (fun i=>some (i*14,14)) ((Array.range (2*14)).map (zRc.cells[· % zRc.cells.size]!)) [(0,a.eval (.tmp 29)),(1,a.eval (.tmp 31))]=_
 rw [h,h']
 kernel_rfl
theorem Tryz.sizePc:(Tryz.prog.info? 42).map (·.size)=some 4:=by kernel_rfl
theorem Tryz.sizeAcc:(Tryz.prog.info? 39).map (·.size)=some 20:=by kernel_rfl
theorem awake_any (w:World) (hG:Glob w):Calls Tryz.prog 11 #[] w fun e w'=>e= .returned (.bool true)∧Below w.heap.size w w':=by
 have HGl:=lh hG;have hx0:Sl fB (w.alloc (.cells #[.int .u8 120] 5 (1,2))) (w.heap.size+1) (some ⟨w.heap.size,0,none⟩) 1 [120]:=⟨rfl,SL.of_block (t:=5) (fr:=(1,2)) (heap_alloc_new w _) (Nat.lt_succ_self _)⟩;have hby:Byt [120]:=fun x hx=>by rw [List.mem_singleton.1 hx];omega
 have HX0:=lh hx0;have HBY:=lh hby;have HB0:Hid (Below w.heap.size w (w.alloc (.cells #[.int .u8 120] 5 (1,2)))):=bl;have HP:=lh (piece_any (some ⟨w.heap.size,0,none⟩) 1 1 (w.heap.size+1) [120] _ nl hx0 sI om om hby);have HS32:Hid ((leafS [120]).size=32):=ybI _;have hcv:(convert 40 40 (.slice (some ⟨w.heap.size,0,none⟩) 1 1)).run Tryz.prog (w.alloc (.cells #[.int .u8 120] 5))= .ok (.slice (some ⟨w.heap.size,0,none⟩) 1 1) (w.alloc (.cells #[.int .u8 120] 5 (1,2))):=run_convert_bytes_const w 40 5 #[.int .u8 120] 1 1 Tryz.underlying40 Tryz.underlying5;clear hG hx0 hby;go_enter Tryz.func11,Tryz.ntmps11
 go_upto_region 2 with (first
  |(go_at_call 29;(with_reducible refine HP.out.mono ?_);rintro e w1 ⟨A1,rfl,hs1,hb1⟩
    have HS1:=lh hs1;have HB1:Hid (Below w.heap.size w w1):=HB0.out.trans (hb1.mono sI);have HX1:Hid (Sl fB w1 (w.heap.size+1) (some ⟨w.heap.size,0,none⟩) 1 [120]):=HX0.out.up hb1 sI;have HSz1:Hid (w.heap.size+1≤w1.heap.size):=by have:=hb1.size;simp at this;exact this
    clear hs1 hb1))
 clear hcv;obtain ⟨s,hs⟩:∃s,s=leafS [120]:=⟨_,rfl⟩
 rw [←hs] at HS1 HS32 ⊢;have HSE:=lh hs;clear hs;generalize hW2:w1.alloc _=W2;have HPb:Hid (W2.heap[w1.heap.size]? =some (.cells #[.string s,.int .i64 0,.slice (some ⟨w.heap.size,0,none⟩) 1 1,.slice A1 1 1] 42 (0,0))):=by show _=_;rw [←hW2];exact heap_alloc_new w1 _
 have hb12:Below w1.heap.size w1 W2:=by rw [←hW2];exact bl
 have HB2:Hid (Below w.heap.size w W2):=HB1.out.trans (hb12.mono HB1.out.size);have HS2:Hid (Sl fT W2 w1.heap.size A1 1 [s]):=HS1.out.up hb12 nl;have HX2:Hid (Sl fB W2 (w.heap.size+1) (some ⟨w.heap.size,0,none⟩) 1 [120]):=HX1.out.up hb12 HSz1.out;have HSz2:Hid (w1.heap.size < W2.heap.size):=lt_of_block HPb.out;clear hb12 hW2;have hv0:Sl I (W2.alloc (.cells #[.int .i64 0,.int .i64 3] 3)) (W2.heap.size+1) (some ⟨W2.heap.size,0,none⟩) 2 [0,3]:=⟨rfl,SL.of_block (t:=3) (fr:=(0,0)) (heap_alloc_new W2 _) (Nat.lt_succ_self _)⟩
 have HEM:Hid (Calls Tryz.prog 31 #[.int .i64 1,.slice (some ⟨W2.heap.size,0,none⟩) 2 2] (W2.alloc (.cells #[.int .i64 0,.int .i64 3] 3)) (Slc2 fB ((1:Int)::encV [0,3]) 0 (W2.alloc (.cells #[.int .i64 0,.int .i64 3] 3)))):=
  (emeet_any 1 (some ⟨W2.heap.size,0,none⟩) 2 [0,3] 2 _ (W2.heap.size+1) hv0 sI om).mono (fun e w' h=>by
    rcases h with ⟨_,h⟩ |⟨h,_⟩
    ·exact h
    ·exact absurd h de)
 clear hv0
 go_upto_region 4 with (first
  |(go_at_call 31;(with_reducible refine HEM.out.mono ?_)
    rintro e w4 ⟨A2,n2,c2,rfl,hc2,hs4,hb4⟩;have HS4:=lh hs4;have HB4:Hid (Below W2.heap.size W2 w4):=bl.trans (hb4.mono sI);have HDM:=lh (dmeet_enc 1 [0,3] A2 n2 c2 w4.heap.size w4 hs4 hc2 nl de om);have HW4:Hid (Below W2.heap.size W2 w4):=HB4.out
    clear hs4 hb4)
  |(go_at_call 35;(with_reducible refine HDM.out.mono ?_);rintro e w5 ⟨A5,n5,c5,rfl,hc5,hs5,hb5⟩
    have HS5:=lh hs5;have HB5:Hid (Below W2.heap.size W2 w5):=HB4.out.trans (hb5.mono HB4.out.size);have HB45:Hid (Below w4.heap.size w4 w5):=hb5
    clear hs5 hb5))
 have HPb5:Hid (w5.heap[w1.heap.size]? =some (.cells #[.string s,.int .i64 0,.slice (some ⟨w.heap.size,0,none⟩) 1 1,.slice A1 1 1] 42 (0,0))):=(HB5.out.block _ HSz2.out).trans HPb.out;have p0:=cell_of_row w5 w1.heap.size 0 _ _ _ HPb5.out;have p1:=cell_of_row w5 w1.heap.size 1 _ _ _ HPb5.out;simp at p0 p1
 go_upto_region 5 with (first
  |(with_reducible refine ya6 (o:=⟨some 26,_,_,_,_,_⟩) rfl 35 rcParts yaV (rcArr s) (rcBuilt _ s (by rfl)) ?_)
  |(with_reducible refine ya6 (o:=⟨some 27,_,_,_,_,_⟩) rfl 39 acParts yaV (ybB s 1) (acBuilt _ s (by rfl)) ?_)
  |(with_reducible refine ya3 (o:=⟨none,_,_,_,_,_⟩) rfl 39 (.tmp 7) (.tmp 27) rfl 39 _ (ybB s 1) rfl rfl (acc_size s) yaV (acc_one s) ?_))
 generalize hW6:w5.alloc _=W6;have HAb:Hid (W6.heap[w5.heap.size]? =some (.cells (ybB s 1) 39 (0,0))):=by show _=_;rw [←hW6];exact heap_alloc_new w5 _
 have HB6:Hid (Below W2.heap.size W2 W6):=by show Below ..;rw [←hW6];exact HB5.out.alloc HB5.out.size _
 have hb56:Below w5.heap.size w5 W6:=by rw [←hW6];exact bl
 have HPb6:Hid (W6.heap[w1.heap.size]? =some (.cells #[.string s,.int .i64 0,.slice (some ⟨w.heap.size,0,none⟩) 1 1,.slice A1 1 1] 42 (0,0))):=(hb56.block _ (lt_of_block HPb5.out)).trans HPb5.out;have HS6:Hid (Sl I W6 W6.heap.size A5 n5 (nrm [0,3])):=(HS5.out.up hb56 nl).more' hb56.size;have a2:=cell_of_row W6 w5.heap.size 2 _ _ _ HAb.out;have a3:=cell_of_row W6 w5.heap.size 3 _ _ _ HAb.out;have a4:=cell_of_row W6 w5.heap.size 4 _ _ _ HAb.out;have a5:=cell_of_row W6 w5.heap.size 5 _ _ _ HAb.out;have a6:=cell_of_row W6 w5.heap.size 6 _ _ _ HAb.out;have a7:=cell_of_row W6 w5.heap.size 7 _ _ _ HAb.out;have a8:=cell_of_row W6 w5.heap.size 8 _ _ _ HAb.out;have a9:=cell_of_row W6 w5.heap.size 9 _ _ _ HAb.out;have a10:=cell_of_row W6 w5.heap.size 10 _ _ _ HAb.out;have a11:=cell_of_row W6 w5.heap.size 11 _ _ _ HAb.out;have a12:=cell_of_row W6 w5.heap.size 12 _ _ _ HAb.out;have a13:=cell_of_row W6 w5.heap.size 13 _ _ _ HAb.out;have a14:=cell_of_row W6 w5.heap.size 14 _ _ _ HAb.out;have a15:=cell_of_row W6 w5.heap.size 15 _ _ _ HAb.out;simp [ybB] at a2 a3 a4 a5 a6 a7 a8 a9 a10 a11 a12 a13 a14 a15;have HB4w6:Hid (Below w4.heap.size w4 W6):=HB45.out.trans (hb56.mono HB45.out.size);have HBs6:Hid (w.heap.size≤W6.heap.size):=Nat.le_trans HB2.out.size HB6.out.size;clear hW6 hb56 p0 p1
 obtain ⟨ie,hie,hiz,his⟩:∃ie,Tryz.prog.info? 35=some ie∧ie.zero=some zRc∧ie.size=14:=by
  have h:=Tryz.infoRc
  cases hh:Tryz.prog.info? 35 with
  |none=>rw [hh] at h;cases h
  |some ie=>
   rw [hh] at h;simp only [Option.map_some,Option.some.injEq,Prod.mk.injEq] at h;exact ⟨ie,rfl,h.1,h.2⟩
 have HIE:=lh hie;have HIZ:=lh hiz;have HIS:=lh his;have HDv:Hid (Sl I ((W6.alloc (.cells (rsArr s) 35)).alloc (.cells #[.int .i64 2] 3)) (W6.heap.size+2) (some ⟨W6.heap.size+1,0,none⟩) 1 [2]):=⟨rfl,SL.of_block (t:=3) (fr:=(0,0)) (heap_alloc2_new W6 _ _) om⟩;have hbr:Below (W6.heap.size+1) (W6.alloc (.cells (rsArr s) 35)) ((W6.alloc (.cells (rsArr s) 35)).alloc (.cells #[.int .i64 2] 3)):=br.alloc sI _;have hso:okP s 0:=⟨by rw [HS32.out];unfold maxLen;omega,by unfold int64;omega⟩
 have HRA:=lh (reassign_any (some ⟨W6.heap.size,0,none⟩) (some ⟨W6.heap.size+1,0,none⟩) 2 2 1 1 (W6.heap.size+2) [rc0 s,rc0 s] [2] _ (((two_rows W6 s).up hbr nl).more om) HDv.out sI om om (fun r hr=>by
  simp at hr;subst hr;exact hso))
 clear hie hiz his hbr
 go_upto_region 6 with (first
  |(refine wpList_buildSlice (o:=⟨some 32,_,_,_,_,_⟩) rfl 89 35 2 rsParts yaV (rsArr s) ie zRc Tryz.underlying89 HIE.out HIZ.out (by rw [HIS.out];omega) (by rw [HIS.out];omega) (by rw [HIS.out];exact rsFill _ s (by rfl) (by rfl)) ?_)
  |(go_at_call 36;(with_reducible refine HRA.out.mono ?_);rintro e w8 ⟨A8,n8,c8,rfl,hs8,hb8⟩
    have HS8:=lh hs8;have HB8:=lh hb8
    clear hs8 hb8))
 obtain ⟨n8',hn8⟩:∃n8',n8'=n8:=⟨_,rfl⟩
 have hs8:=HS8.out;rw [rea0] at hs8;obtain rfl:n8=1:=by rw [←hs8.1];rfl
 obtain ⟨b8,o8,x8,rfl,hb8',hg8,hat8⟩:=hs8.at_ (k:=0) om;simp at hg8;subst hg8;have q0:=hat8 0 (.string s) rfl;have q1:=hat8 1 (.int .i64 0) rfl;simp at q0 q1;have HB8w:Hid (Below W6.heap.size W6 w8):=((bl.alloc sI _).trans (HB8.out.mono yaW));have HAb8:Hid (w8.heap[w5.heap.size]? =some (.cells #[.int .i64 0,.int .i64 0,.int .i64 2,.int .i64 0,.string s,.int .i64 0,.int .i64 1,.int .i64 0,.int .i64 0,.int .i64 0,.int .i64 0,.string ⟨#[]⟩,.slice none 0 0,.int .i64 0,.slice none 0 0,.slice none 0 0,.string ⟨#[]⟩,.int .i64 0,.string ⟨#[]⟩,.string ⟨#[]⟩] 39 (0,0))):=(HB8w.out.block _ (lt_of_block HAb.out)).trans HAb.out;have HPb8:Hid (w8.heap[w1.heap.size]? =some (.cells #[.string s,.int .i64 0,.slice (some ⟨w.heap.size,0,none⟩) 1 1,.slice A1 1 1] 42 (0,0))):=(HB8w.out.block _ (lt_of_block HPb6.out)).trans HPb6.out
 have HS48:Hid (Sl fB w8 w8.heap.size A2 n2 [1,2,0,3]):=by
  have h1:=HS4.out;rw [encV03] at h1;exact ((h1.up HB4w6.out nl).more' HB4w6.out.size |>.up HB8w.out nl).more' HB8w.out.size
 have HK:Hid (∀w',Below w8.heap.size w8 w'→(convert 40 9 (.slice A2 n2 c2)).run Tryz.prog w'= .ok (.string ⟨#[1,2,0,3]⟩) w'∧w'.cell? ⟨w5.heap.size,0,none⟩=some (.int .i64 0)∧w'.cell? ⟨w5.heap.size,1,none⟩=some (.int .i64 0)∧w'.cell? ⟨w5.heap.size,2,none⟩=some (.int .i64 2)∧w'.cell? ⟨w5.heap.size,3,none⟩=some (.int .i64 0)∧w'.cell? ⟨w5.heap.size,4,none⟩=some (.string s)∧w'.cell? ⟨w5.heap.size,5,none⟩=some (.int .i64 0)∧w'.cell? ⟨w5.heap.size,6,none⟩=some (.int .i64 1)∧w'.cell? ⟨w5.heap.size,7,none⟩=some (.int .i64 0)∧w'.cell? ⟨w5.heap.size,8,none⟩=some (.int .i64 0)∧w'.cell? ⟨w5.heap.size,9,none⟩=some (.int .i64 0)∧w'.cell? ⟨w5.heap.size,10,none⟩=some (.int .i64 0)∧w'.cell? ⟨w5.heap.size,11,none⟩=some (.string ⟨#[]⟩)∧w'.cell? ⟨w5.heap.size,12,none⟩=some (.slice none 0 0)∧w'.cell? ⟨w5.heap.size,13,none⟩=some (.int .i64 0)∧w'.cell? ⟨w5.heap.size,14,none⟩=some (.slice none 0 0)∧w'.cell? ⟨w5.heap.size,15,none⟩=some (.slice none 0 0)∧w'.cell? ⟨w5.heap.size,16,none⟩=some (.string ⟨#[]⟩)∧w'.cell? ⟨w5.heap.size,17,none⟩=some (.int .i64 0)∧w'.cell? ⟨w5.heap.size,18,none⟩=some (.string ⟨#[]⟩)∧w'.cell? ⟨w5.heap.size,19,none⟩=some (.string ⟨#[]⟩)∧w'.cell? ⟨w1.heap.size,0,none⟩=some (.string s)∧w'.cell? ⟨w1.heap.size,1,none⟩=some (.int .i64 0)∧w'.cell? ⟨w1.heap.size,2,none⟩=some (.slice (some ⟨w.heap.size,0,none⟩) 1 1)∧w'.cell? ⟨w1.heap.size,3,none⟩=some (.slice A1 1 1)∧w'.cell? ⟨b8,o8,none⟩=some (.string s)∧w'.cell? ⟨b8,o8+1,none⟩=some (.int .i64 0)):=fun w' hb=>by
  have hA:=(hb.block _ (lt_of_block HAb8.out)).trans HAb8.out;have hP:=(hb.block _ (lt_of_block HPb8.out)).trans HPb8.out;refine ⟨?_,(cell_of_row w' _ 0 _ _ _ hA).trans rfl,(cell_of_row w' _ 1 _ _ _ hA).trans rfl,(cell_of_row w' _ 2 _ _ _ hA).trans rfl,(cell_of_row w' _ 3 _ _ _ hA).trans rfl,(cell_of_row w' _ 4 _ _ _ hA).trans rfl,(cell_of_row w' _ 5 _ _ _ hA).trans rfl,(cell_of_row w' _ 6 _ _ _ hA).trans rfl,(cell_of_row w' _ 7 _ _ _ hA).trans rfl,(cell_of_row w' _ 8 _ _ _ hA).trans rfl,(cell_of_row w' _ 9 _ _ _ hA).trans rfl,(cell_of_row w' _ 10 _ _ _ hA).trans rfl,(cell_of_row w' _ 11 _ _ _ hA).trans rfl,(cell_of_row w' _ 12 _ _ _ hA).trans rfl,(cell_of_row w' _ 13 _ _ _ hA).trans rfl,(cell_of_row w' _ 14 _ _ _ hA).trans rfl,(cell_of_row w' _ 15 _ _ _ hA).trans rfl,(cell_of_row w' _ 16 _ _ _ hA).trans rfl,(cell_of_row w' _ 17 _ _ _ hA).trans rfl,(cell_of_row w' _ 18 _ _ _ hA).trans rfl,(cell_of_row w' _ 19 _ _ _ hA).trans rfl,(cell_of_row w' _ 0 _ _ _ hP).trans rfl,(cell_of_row w' _ 1 _ _ _ hP).trans rfl,(cell_of_row w' _ 2 _ _ _ hP).trans rfl,(cell_of_row w' _ 3 _ _ _ hP).trans rfl,(hb.cell (p:=⟨b8,o8,none⟩) hb8').trans q0,(hb.cell (p:=⟨b8,o8+1,none⟩) hb8').trans q1⟩;have h2:=ybG (P:=Tryz.prog) 40 5 9 Tryz.underlying40 Tryz.underlying5 Tryz.underlying9 w' w8.heap.size A2 n2 c2 [1,2,0,3] (HS48.out.up hb nl);exact h2
 have HR1:Hid (∀w',Below w8.heap.size w8 w'→w'.rangeAt w5.heap.size 0 [.int .i64 0,.int .i64 0,.int .i64 2,.int .i64 0,.string s,.int .i64 0,.int .i64 1,.int .i64 0,.int .i64 0,.int .i64 0,.int .i64 0,.string ⟨#[]⟩,.slice none 0 0,.int .i64 0,.slice none 0 0,.slice none 0 0,.string ⟨#[]⟩,.int .i64 0,.string ⟨#[]⟩,.string ⟨#[]⟩]):=fun w' hb j v hv=>by
  have hA:=(hb.block _ (lt_of_block HAb8.out)).trans HAb8.out;exact (cell_of_row w' _ (0+j) _ _ _ hA).trans (by rw [Nat.zero_add,List.getElem?_toArray];exact hv)
 have HR2:Hid (∀w',Below w8.heap.size w8 w'→w'.rangeAt w1.heap.size 0 [.string s,.int .i64 0,.slice (some ⟨w.heap.size,0,none⟩) 1 1,.slice A1 1 1]):=fun w' hb j v hv=>by
  have hP:=(hb.block _ (lt_of_block HPb8.out)).trans HPb8.out;exact (cell_of_row w' _ (0+j) _ _ _ hP).trans (by rw [Nat.zero_add,List.getElem?_toArray];exact hv)
 have HI:Hid (∀W,Below w8.heap.size w8 W→Sl I W W.heap.size (some ⟨w8.heap.size,0,none⟩) 2 [0,3]→Calls Tryz.prog 23 #[.slice A5 n5 c5,.slice (some ⟨w8.heap.size,0,none⟩) 2 2] W fun e w'=>e= .returned (.bool true)∧∃r,w'=W.drewN r):=fun W hb hs=>by
  have h5:Sl I W W.heap.size A5 n5 (nrm [0,3]):=(((HS6.out.up HB8w.out nl).more' HB8w.out.size).up hb nl).more' hb.size;have hn5:n5=2:=by rw [←HS5.out.1,nrm03];rfl
  refine (ints_any A5 (some ⟨w8.heap.size,0,none⟩) n5 2 (nrm [0,3]) [0,3] c5 2 W W.heap.size h5 hs om om).mono ?_;rintro e w' ⟨rfl,h⟩;exact ⟨by rw [nrm03];rfl,h⟩
 have HAq:Hid (∀W,Below w8.heap.size w8 W→Calls Tryz.prog 15 #[.agg #[.int .i64 0,.int .i64 0,.int .i64 2,.int .i64 0,.string s,.int .i64 0,.int .i64 1,.int .i64 0,.int .i64 0,.int .i64 0,.int .i64 0,.string ⟨#[]⟩,.slice none 0 0,.int .i64 0,.slice none 0 0,.slice none 0 0,.string ⟨#[]⟩,.int .i64 0,.string ⟨#[]⟩,.string ⟨#[]⟩],.agg #[.string s,.int .i64 0,.slice (some ⟨w.heap.size,0,none⟩) 1 1,.slice A1 1 1]] W fun e w'=>e= .returned (.bool true)∧Below w8.heap.size w8 w'):=fun W hb=>by
  have hw:Below w.heap.size w W:=HB2.out.trans ((HB6.out.mono HB2.out.size).trans ((HB8w.out.mono HBs6.out).trans (hb.mono (Nat.le_trans HBs6.out HB8w.out.size))));have h2w:Below W2.heap.size W2 W:=HB6.out.trans ((HB8w.out.mono HB6.out.size).trans (hb.mono (Nat.le_trans HB6.out.size HB8w.out.size)));have h:=acquits_one 1 1 1 W2.heap.size (some ⟨w.heap.size,0,none⟩) A1 [120] W (HGl.out.on hw) nl ((HX2.out.up h2w (Nat.le_of_lt (Nat.lt_of_le_of_lt HSz1.out HSz2.out))).more' (Nat.le_of_lt (Nat.lt_of_le_of_lt HSz1.out HSz2.out))) (by rw [←HSE.out];exact (HS2.out.up h2w (Nat.le_of_lt HSz2.out)).more' (Nat.le_of_lt HSz2.out)) h2w.size om om HBY.out;rw [←HSE.out] at h;exact h.mono (fun e w' h=>⟨h.1,hb.trans (h.2.mono hb.size)⟩)
 have HBq:Hid (Below w8.heap.size w8 w8):=Below.refl _ _;refine wp_region_held_drew (S:=(fun w'=>Below w8.heap.size w8 w')) (by as_aux_lemma=>kernel_rfl) (by exact yag) (fun hHeld=>?_);refine tkY 0 ?_;refine tkY 1 ?_;refine tkY 2 ?_;refine tkY 3 ?_;refine tkH (i:=4) (v:=?z4v) (y:=(Or.inl ⟨by rfl,?z4y⟩)) (h:=?z4r)
 case z4y=>(intro w hSw;(try dsimp only at hSw);obtain ⟨k0, -, -, -, -, -, -, -, -, -, -, -, -, -, -, -, -, -, -, -, -, -, -, -, -, -, -⟩:=HK.out w hSw;go_simp;try (with_reducible rfl))
 try simp only [pt]
 refine tkY 5 ?_;refine tkY 6 ?_;refine tkY 7 ?_;refine tkY 8 ?_;refine tkY 9 ?_;refine tkY 10 ?_;refine tkY 11 ?_;refine tkY 12 ?_;refine tkY 13 ?_;refine tkY 14 ?_;refine tkY 15 ?_;refine tkY 16 ?_
 as_aux_lemma=>
  refine rd1 17 (fun K hK=>?_)
  go_simp
  refine hK.out _ _ yae (fun hHeldz17=>?_);clear hK K hHeld
  try simp only [pt]
  refine rd1 18 (fun K hK=>?_)
  (go_simp;go_at_call 23;(refine (HI.out _ ?_ ?_).mono ?_);(exact yag);(exact ⟨rfl,SL.of_block (t:=3) (fr:=(0,0)) (heap_alloc_new _ _) sI⟩);rintro e w9 ⟨rfl,r9,hw9⟩;(have HBi:Hid (Below w8.heap.size w8 w9):=(by show Below ..;rw [hw9];exact yag));go_wp2_with fail)
  refine hK.out _ _ yae (fun hHeldz18=>?_);clear hK K hHeldz17
  try simp only [pt]
  refine tkY 19 ?_;refine tkY 20 ?_;refine tkH (i:=21) (v:=_) (y:=(yieldsIf_load_mid (by rfl) 39 (.tmp 7) rfl w5.heap.size 0 (by rfl) [.int .i64 0,.int .i64 0,.int .i64 2,.int .i64 0,.string s,.int .i64 0,.int .i64 1,.int .i64 0,.int .i64 0,.int .i64 0,.int .i64 0,.string ⟨#[]⟩,.slice none 0 0,.int .i64 0,.slice none 0 0,.slice none 0 0,.string ⟨#[]⟩,.int .i64 0,.string ⟨#[]⟩,.string ⟨#[]⟩] _ HR1.out Tryz.underlying39 rfl Tryz.sizeAcc)) (h:=?_)
  try simp only [pt]
  refine tkH (i:=22) (v:=_) (y:=(yieldsIf_load_mid (by rfl) 42 (.tmp 1) rfl w1.heap.size 0 (by rfl) [.string s,.int .i64 0,.slice (some ⟨w.heap.size,0,none⟩) 1 1,.slice A1 1 1] _ HR2.out Tryz.underlying42 rfl Tryz.sizePc)) (h:=?_)
  try simp only [pt]
  refine rd1 23 (fun K hK=>?_)
  (go_simp;go_at_call 15;(refine (HAq.out _ ?_).mono ?_);(exact yag);rintro e w10 ⟨rfl,hb10⟩;go_wp2_with fail)
  refine hK.out _ _ yae (fun hHeldz23=>?_);clear hK K hHeldz18
  try simp only [pt]
  as_aux_lemma=>
   refine tkY 24 ?_;refine tkY 25 ?_;refine tkY 26 ?_;refine tkY 27 ?_;refine tkY 28 ?_;refine tkY 29 ?_;refine tkY 30 ?_;refine tkY 31 ?_;refine tkY 32 ?_;refine tkH (i:=33) (v:=?z33v) (y:=(Or.inl ⟨by rfl,?z33y⟩)) (h:=?z33r)
   case z33y=>(intro w hSw;(try dsimp only at hSw);obtain ⟨-, -, -, -, -, -, -, -, -, -, -, -, -, -, -, -, -, -, -, -, -, -, -, -, -,k25,k26⟩:=HK.out w hSw;go_simp;try (with_reducible rfl))
   try simp only [pt]
   refine tkY 34 ?_;refine tkH (i:=35) (v:=?z35v) (y:=(Or.inl ⟨by rfl,?z35y⟩)) (h:=?z35r)
   case z35y=>(intro w hSw;(try dsimp only at hSw);obtain ⟨-, -, -, -, -, -, -, -, -, -, -, -, -, -, -, -, -, -, -, -, -,k21,k22, -, -, -, -⟩:=HK.out w hSw;go_simp;try (with_reducible rfl))
   try simp only [pt]
   refine tkY 36 ?_;refine tkY 37 ?_;refine tkY 38 ?_;refine wpAnyH_done (by as_aux_lemma=>kernel_rfl) ?_ _
   go_wp2_with fail
   go_ret
   first |exact ⟨rfl,HB2.out.trans ((HB6.out.mono HB2.out.size).trans ((HB8w.out.mono HBs6.out).trans (Below.mono (by assumption) (Nat.le_trans HBs6.out HB8w.out.size))))⟩ |trace_state
