/- The reference's one-time signatures: parameters, bits. -/
import Derived.Test.YtpdledjgbgalcaaGreatDoorN3
namespace Go.Proofs.YtpdledjgbgalcaaGreatDoor
set_option maxRecDepth 100000
set_option maxHeartbeats 4000000
open Go.RowKit Go.Lib
set_option linter.unusedVariables false
set_option linter.unusedSimpArgs false
def bsF (β:Nat):Int:=if β=1 then 2 else if β=2 then 4 else 16
theorem ybZ (b:Int) (β:Nat) (hb:BitN b β) (w:World):Calls Tryz.prog 250 #[.agg (cPm b)] w fun e w'=>e= .returned (.int .i64 (bsF β))∧Below w.heap.size w w':=by
 have HB:Hid (Below w.heap.size w (w.alloc (.cells (cPm b) 233))):=bl;rcases hb with ⟨rfl,rfl⟩ |⟨rfl,rfl⟩ |⟨rfl,rfl⟩
 all_goals
  go_enter Tryz.func250,Tryz.ntmps250;go_wp2;go_ret;exact ⟨rfl,HB.out⟩
theorem yb0 (b:Int) (β:Nat) (hb:BitN b β) (w:World):Calls Tryz.prog 247 #[.agg (cPm b)] w fun e w'=>e= .returned (.int .i64 (mNI β))∧Below w.heap.size w w':=by
 have HB:Hid (Below w.heap.size w (w.alloc (.cells (cPm b) 233))):=bl;rcases hb with ⟨rfl,rfl⟩ |⟨rfl,rfl⟩ |⟨rfl,rfl⟩
 all_goals
  go_enter Tryz.func247,Tryz.ntmps247;go_wp2;go_ret;exact ⟨rfl,HB.out⟩
theorem rcheck_1 (w:World):Calls Tryz.prog 248 #[.agg (cPm 1)] w fun e w'=>e= .returned (.int .i64 9)∧Below w.heap.size w w':=by
 have HB:Hid (Below w.heap.size w (w.alloc (.cells (cPm 1) 233))):=bl;obtain ⟨W1,hW1⟩:∃W1:World,W1=w.alloc (.cells (cPm 1) 233):=⟨_,rfl⟩
 have hsz:W1.heap.size=w.heap.size+1:=by rw [hW1];simp
 have hge:W1.heap[w.heap.size]? =some (.cells (cPm 1) 233 (0,0)):=by rw [hW1];exact heap_alloc_new w _
 have HC:Hid (∀V,Below (w.heap.size+1) W1 V→V.cell? ⟨w.heap.size,0,none⟩=some (.int .i64 1)∧V.cell? ⟨w.heap.size,1,none⟩=some (.int .i64 32)):=fun V hv=>by
  have q:=(hv.block w.heap.size (Nat.lt_succ_self _)).trans hge;refine ⟨?_,?_⟩<;>(rw [cell_of_row V _ _ _ _ _ q];rfl)
 rw [←hW1] at HB;have HS:=lh hsz;have HWE:=lh hW1;have HBc:Hid (Below (w.heap.size+1) W1 W1):=Below.refl _ _;clear hge hsz hW1;have hb:BitN 1 1:=by unfold BitN;omega
 have HL:=lh (fun W=>ybZ 1 1 hb W);have HM:=lh (fun W=>yb0 1 1 hb W);rw [show mNI 1=256 from rfl] at HM;rw [show bsF 1=2 from rfl] at HL;obtain ⟨c0,c1⟩:=HC.out W1 br;go_enter Tryz.func248,Tryz.ntmps248
 go_upto_region 1 with fail
 rw [←HWE.out]
 go_upto_region 2 with (go_at_call 250;(with_reducible refine (HL.out _).mono ?_);rintro e w1 ⟨rfl,hb1⟩;(have HBc:Hid (Below (w.heap.size+1) W1 w1):=HS.out▸hb1);clear hb1)
 go_loopw [3,4] (fun n p wr=>(∃j q:Nat,j≤8∧n= .int .i64 ((j:Int)+1)∧p= .int .i64 (q:Int)∧Hid (2 ^ (j+1)=q))∧Hid (Below (w.heap.size+1) W1 wr)) (fun n _ _=>16 - (intOf n).toNat)
 case atStart=>exact ⟨⟨0,2,by omega,rfl,rfl,rfl⟩,HBc⟩
 case round=>
  clear HBc;obtain ⟨⟨j,q,hj,rfl,rfl,HQ⟩,HBr⟩:=hrel;obtain ⟨c0,c1⟩:=HC.out wr HBr.out;have HBc:=HBr;have hw1:IntKind.i64.wrap 1=1:=by decide
  have hw2:IntKind.i64.wrap 256=256:=by decide
  have HQ2:Hid (2 ^ (j+1+1)=q*2):=by show _=_;rw [Nat.pow_succ,HQ.out]
  by_cases hjc:j < 8
  ·have hq:q≤256:=by
    rw [←HQ.out];exact Nat.le_trans (Nat.pow_le_pow_right de (show j+1≤8 by omega)) de
   have hqI:(q:Int)≤256:=by omega
   have hqm:(q:Int)*2=((q*2:Nat):Int):=by omega
   go_wp2_with fail
   go_region_held3 (fun w'=>w'.cell? ⟨w.heap.size,0,none⟩=some (.int .i64 1)∧w'.cell? ⟨w.heap.size,1,none⟩=some (.int .i64 32)) (first |exact HC.out _ HBc.out |go_keep) (first
    |(go_at_call 250;(with_reducible (refine (HL.out _).mono ?_));rintro e w4 ⟨rfl,hb4⟩;(have HBc:=lh (HBc.out.trans (Below.mono (Below.trans yaG hb4) (HS.out▸HBc.out.size))));clear hb4)
    |(go_at_call 247;(with_reducible (refine (HM.out _).mono ?_));rintro e w4 ⟨rfl,hb4⟩;(have HBc:=lh (HBc.out.trans (Below.mono (Below.trans yaG hb4) (HS.out▸HBc.out.size))));clear hb4))
   obtain ⟨c0,c1⟩:=HC.out w4 HBc.out;have HBq:=HBc;have HQM:=lh hqm;clear hw1 hw2 hqm
   go_wp2_with (go_at_call 250;(with_reducible refine (HL.out _).mono ?_);rintro e w5 ⟨rfl,hb5⟩;(have HB5:Hid (Below (w.heap.size+1) W1 w5):=HBq.out.trans (hb5.mono (HS.out▸HBq.out.size)));clear hb5)
   refine ⟨?rel,?measure⟩
   case rel=>exact ⟨⟨j+1,q*2,by omega,by go_num,by rw [HQM.out],HQ2⟩,HB5⟩
   case measure=>(simp [intOf]<;>omega)
  ·obtain rfl:j=8:=by omega
   have hq:256 < q:=by rw [←HQ.out];decide
   have hqI:¬(q:Int)≤256:=by omega
   go_wp2_with fail
   go_region_held3 (fun w'=>w'.cell? ⟨w.heap.size,0,none⟩=some (.int .i64 1)∧w'.cell? ⟨w.heap.size,1,none⟩=some (.int .i64 32)) (first |exact HC.out _ HBc.out |go_keep) (first
    |(go_at_call 250;(with_reducible (refine (HL.out _).mono ?_));rintro e w4 ⟨rfl,hb4⟩;(have HBc:=lh (HBc.out.trans (Below.mono (Below.trans yaG hb4) (HS.out▸HBc.out.size))));clear hb4)
    |(go_at_call 247;(with_reducible (refine (HM.out _).mono ?_));rintro e w4 ⟨rfl,hb4⟩;(have HBc:=lh (HBc.out.trans (Below.mono (Below.trans yaG hb4) (HS.out▸HBc.out.size))));clear hb4))
   clear hw1 hw2;go_wp2;go_ret;exact ⟨rfl,HB.out.trans (HBc.out.mono (Nat.le_succ _))⟩
theorem rcheck_2 (w:World):Calls Tryz.prog 248 #[.agg (cPm 2)] w fun e w'=>e= .returned (.int .i64 5)∧Below w.heap.size w w':=by
 have HB:Hid (Below w.heap.size w (w.alloc (.cells (cPm 2) 233))):=bl;obtain ⟨W1,hW1⟩:∃W1:World,W1=w.alloc (.cells (cPm 2) 233):=⟨_,rfl⟩
 have hsz:W1.heap.size=w.heap.size+1:=by rw [hW1];simp
 have hge:W1.heap[w.heap.size]? =some (.cells (cPm 2) 233 (0,0)):=by rw [hW1];exact heap_alloc_new w _
 have HC:Hid (∀V,Below (w.heap.size+1) W1 V→V.cell? ⟨w.heap.size,0,none⟩=some (.int .i64 2)∧V.cell? ⟨w.heap.size,1,none⟩=some (.int .i64 32)):=fun V hv=>by
  have q:=(hv.block w.heap.size (Nat.lt_succ_self _)).trans hge;refine ⟨?_,?_⟩<;>(rw [cell_of_row V _ _ _ _ _ q];rfl)
 rw [←hW1] at HB;have HS:=lh hsz;have HWE:=lh hW1;have HBc:Hid (Below (w.heap.size+1) W1 W1):=Below.refl _ _;clear hge hsz hW1;have hb:BitN 2 2:=by unfold BitN;omega
 have HL:=lh (fun W=>ybZ 2 2 hb W);have HM:=lh (fun W=>yb0 2 2 hb W);rw [show mNI 2=128 from rfl] at HM;rw [show bsF 2=4 from rfl] at HL;obtain ⟨c0,c1⟩:=HC.out W1 br;go_enter Tryz.func248,Tryz.ntmps248
 go_upto_region 1 with fail
 rw [←HWE.out]
 go_upto_region 2 with (go_at_call 250;(with_reducible refine (HL.out _).mono ?_);rintro e w1 ⟨rfl,hb1⟩;(have HBc:Hid (Below (w.heap.size+1) W1 w1):=HS.out▸hb1);clear hb1)
 go_loopw [3,4] (fun n p wr=>(∃j q:Nat,j≤4∧n= .int .i64 ((j:Int)+1)∧p= .int .i64 (q:Int)∧Hid (4 ^ (j+1)=q))∧Hid (Below (w.heap.size+1) W1 wr)) (fun n _ _=>16 - (intOf n).toNat)
 case atStart=>exact ⟨⟨0,4,by omega,rfl,rfl,rfl⟩,HBc⟩
 case round=>
  clear HBc;obtain ⟨⟨j,q,hj,rfl,rfl,HQ⟩,HBr⟩:=hrel;obtain ⟨c0,c1⟩:=HC.out wr HBr.out;have HBc:=HBr;have hw1:IntKind.i64.wrap 3=3:=by decide
  have hw2:IntKind.i64.wrap 384=384:=by decide
  have HQ2:Hid (4 ^ (j+1+1)=q*4):=by show _=_;rw [Nat.pow_succ,HQ.out]
  by_cases hjc:j < 4
  ·have hq:q≤384:=by
    rw [←HQ.out];exact Nat.le_trans (Nat.pow_le_pow_right de (show j+1≤4 by omega)) de
   have hqI:(q:Int)≤384:=by omega
   have hqm:(q:Int)*4=((q*4:Nat):Int):=by omega
   go_wp2_with fail
   go_region_held3 (fun w'=>w'.cell? ⟨w.heap.size,0,none⟩=some (.int .i64 2)∧w'.cell? ⟨w.heap.size,1,none⟩=some (.int .i64 32)) (first |exact HC.out _ HBc.out |go_keep) (first
    |(go_at_call 250;(with_reducible (refine (HL.out _).mono ?_));rintro e w4 ⟨rfl,hb4⟩;(have HBc:=lh (HBc.out.trans (Below.mono (Below.trans yaG hb4) (HS.out▸HBc.out.size))));clear hb4)
    |(go_at_call 247;(with_reducible (refine (HM.out _).mono ?_));rintro e w4 ⟨rfl,hb4⟩;(have HBc:=lh (HBc.out.trans (Below.mono (Below.trans yaG hb4) (HS.out▸HBc.out.size))));clear hb4))
   obtain ⟨c0,c1⟩:=HC.out w4 HBc.out;have HBq:=HBc;have HQM:=lh hqm;clear hw1 hw2 hqm
   go_wp2_with (go_at_call 250;(with_reducible refine (HL.out _).mono ?_);rintro e w5 ⟨rfl,hb5⟩;(have HB5:Hid (Below (w.heap.size+1) W1 w5):=HBq.out.trans (hb5.mono (HS.out▸HBq.out.size)));clear hb5)
   refine ⟨?rel,?measure⟩
   case rel=>exact ⟨⟨j+1,q*4,by omega,by go_num,by rw [HQM.out],HQ2⟩,HB5⟩
   case measure=>(simp [intOf]<;>omega)
  ·obtain rfl:j=4:=by omega
   have hq:384 < q:=by rw [←HQ.out];decide
   have hqI:¬(q:Int)≤384:=by omega
   go_wp2_with fail
   go_region_held3 (fun w'=>w'.cell? ⟨w.heap.size,0,none⟩=some (.int .i64 2)∧w'.cell? ⟨w.heap.size,1,none⟩=some (.int .i64 32)) (first |exact HC.out _ HBc.out |go_keep) (first
    |(go_at_call 250;(with_reducible (refine (HL.out _).mono ?_));rintro e w4 ⟨rfl,hb4⟩;(have HBc:=lh (HBc.out.trans (Below.mono (Below.trans yaG hb4) (HS.out▸HBc.out.size))));clear hb4)
    |(go_at_call 247;(with_reducible (refine (HM.out _).mono ?_));rintro e w4 ⟨rfl,hb4⟩;(have HBc:=lh (HBc.out.trans (Below.mono (Below.trans yaG hb4) (HS.out▸HBc.out.size))));clear hb4))
   clear hw1 hw2;go_wp2;go_ret;exact ⟨rfl,HB.out.trans (HBc.out.mono (Nat.le_succ _))⟩
theorem rcheck_4 (w:World):Calls Tryz.prog 248 #[.agg (cPm 4)] w fun e w'=>e= .returned (.int .i64 3)∧Below w.heap.size w w':=by
 have HB:Hid (Below w.heap.size w (w.alloc (.cells (cPm 4) 233))):=bl;obtain ⟨W1,hW1⟩:∃W1:World,W1=w.alloc (.cells (cPm 4) 233):=⟨_,rfl⟩
 have hsz:W1.heap.size=w.heap.size+1:=by rw [hW1];simp
 have hge:W1.heap[w.heap.size]? =some (.cells (cPm 4) 233 (0,0)):=by rw [hW1];exact heap_alloc_new w _
 have HC:Hid (∀V,Below (w.heap.size+1) W1 V→V.cell? ⟨w.heap.size,0,none⟩=some (.int .i64 4)∧V.cell? ⟨w.heap.size,1,none⟩=some (.int .i64 32)):=fun V hv=>by
  have q:=(hv.block w.heap.size (Nat.lt_succ_self _)).trans hge;refine ⟨?_,?_⟩<;>(rw [cell_of_row V _ _ _ _ _ q];rfl)
 rw [←hW1] at HB;have HS:=lh hsz;have HWE:=lh hW1;have HBc:Hid (Below (w.heap.size+1) W1 W1):=Below.refl _ _;clear hge hsz hW1;have hb:BitN 4 4:=by unfold BitN;omega
 have HL:=lh (fun W=>ybZ 4 4 hb W);have HM:=lh (fun W=>yb0 4 4 hb W);rw [show mNI 4=64 from rfl] at HM;rw [show bsF 4=16 from rfl] at HL;obtain ⟨c0,c1⟩:=HC.out W1 br;go_enter Tryz.func248,Tryz.ntmps248
 go_upto_region 1 with fail
 rw [←HWE.out]
 go_upto_region 2 with (go_at_call 250;(with_reducible refine (HL.out _).mono ?_);rintro e w1 ⟨rfl,hb1⟩;(have HBc:Hid (Below (w.heap.size+1) W1 w1):=HS.out▸hb1);clear hb1)
 go_loopw [3,4] (fun n p wr=>(∃j q:Nat,j≤2∧n= .int .i64 ((j:Int)+1)∧p= .int .i64 (q:Int)∧Hid (16 ^ (j+1)=q))∧Hid (Below (w.heap.size+1) W1 wr)) (fun n _ _=>16 - (intOf n).toNat)
 case atStart=>exact ⟨⟨0,16,by omega,rfl,rfl,rfl⟩,HBc⟩
 case round=>
  clear HBc;obtain ⟨⟨j,q,hj,rfl,rfl,HQ⟩,HBr⟩:=hrel;obtain ⟨c0,c1⟩:=HC.out wr HBr.out;have HBc:=HBr;have hw1:IntKind.i64.wrap 15=15:=by decide
  have hw2:IntKind.i64.wrap 960=960:=by decide
  have HQ2:Hid (16 ^ (j+1+1)=q*16):=by show _=_;rw [Nat.pow_succ,HQ.out]
  by_cases hjc:j < 2
  ·have hq:q≤960:=by
    rw [←HQ.out];exact Nat.le_trans (Nat.pow_le_pow_right de (show j+1≤2 by omega)) de
   have hqI:(q:Int)≤960:=by omega
   have hqm:(q:Int)*16=((q*16:Nat):Int):=by omega
   go_wp2_with fail
   go_region_held3 (fun w'=>w'.cell? ⟨w.heap.size,0,none⟩=some (.int .i64 4)∧w'.cell? ⟨w.heap.size,1,none⟩=some (.int .i64 32)) (first |exact HC.out _ HBc.out |go_keep) (first
    |(go_at_call 250;(with_reducible (refine (HL.out _).mono ?_));rintro e w4 ⟨rfl,hb4⟩;(have HBc:=lh (HBc.out.trans (Below.mono (Below.trans yaG hb4) (HS.out▸HBc.out.size))));clear hb4)
    |(go_at_call 247;(with_reducible (refine (HM.out _).mono ?_));rintro e w4 ⟨rfl,hb4⟩;(have HBc:=lh (HBc.out.trans (Below.mono (Below.trans yaG hb4) (HS.out▸HBc.out.size))));clear hb4))
   obtain ⟨c0,c1⟩:=HC.out w4 HBc.out;have HBq:=HBc;have HQM:=lh hqm;clear hw1 hw2 hqm
   go_wp2_with (go_at_call 250;(with_reducible refine (HL.out _).mono ?_);rintro e w5 ⟨rfl,hb5⟩;(have HB5:Hid (Below (w.heap.size+1) W1 w5):=HBq.out.trans (hb5.mono (HS.out▸HBq.out.size)));clear hb5)
   refine ⟨?rel,?measure⟩
   case rel=>exact ⟨⟨j+1,q*16,by omega,by go_num,by rw [HQM.out],HQ2⟩,HB5⟩
   case measure=>(simp [intOf]<;>omega)
  ·obtain rfl:j=2:=by omega
   have hq:960 < q:=by rw [←HQ.out];decide
   have hqI:¬(q:Int)≤960:=by omega
   go_wp2_with fail
   go_region_held3 (fun w'=>w'.cell? ⟨w.heap.size,0,none⟩=some (.int .i64 4)∧w'.cell? ⟨w.heap.size,1,none⟩=some (.int .i64 32)) (first |exact HC.out _ HBc.out |go_keep) (first
    |(go_at_call 250;(with_reducible (refine (HL.out _).mono ?_));rintro e w4 ⟨rfl,hb4⟩;(have HBc:=lh (HBc.out.trans (Below.mono (Below.trans yaG hb4) (HS.out▸HBc.out.size))));clear hb4)
    |(go_at_call 247;(with_reducible (refine (HM.out _).mono ?_));rintro e w4 ⟨rfl,hb4⟩;(have HBc:=lh (HBc.out.trans (Below.mono (Below.trans yaG hb4) (HS.out▸HBc.out.size))));clear hb4))
   clear hw1 hw2;go_wp2;go_ret;exact ⟨rfl,HB.out.trans (HBc.out.mono (Nat.le_succ _))⟩
