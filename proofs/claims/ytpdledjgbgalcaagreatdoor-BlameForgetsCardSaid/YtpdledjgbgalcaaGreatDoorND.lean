/- Signatures: the root that one gives. -/
import Derived.Test.YtpdledjgbgalcaaGreatDoorPi
import Derived.Test.YtpdledjgbgalcaaGreatDoorPj
namespace Go.Proofs.YtpdledjgbgalcaaGreatDoor
set_option maxRecDepth 100000
set_option maxHeartbeats 8000000
open Go.RowKit Go.Lib
set_option linter.unusedVariables false
set_option linter.unusedSimpArgs false
abbrev cSg (ix:Int) (Ap:Option Addr) (np cp:Nat) (Aq:Option Addr) (nq cq:Nat):Array Value:=#[.int .i64 ix,.slice Ap np cp,.slice Aq nq cq]
def sgF (b h:Int) (ix:Nat) (np nq:Nat):Bool:=sgOk b h&&(decide (ix < 2 ^ h.toNat)&&(decide ((nq:Int)=h)&&decide (np=mN b.toNat+cN b.toNat)))
def sgR (b:Int) (dg:ByteArray) (ix:Nat) (ps qs:List ByteArray):ByteArray:=clF (leafS (sB (pubF b.toNat (dgF b.toNat (sB dg)) ps))) ix qs
theorem sgOk_bit {b h:Int} (hv:sgOk b h=true):BitN b b.toNat∧0≤h∧h≤8:=by
 unfold sgOk at hv
 have:=of_decide_eq_true hv
 refine ⟨?_,this.2⟩;unfold BitN;omega
theorem sgis_any (x:ByteArray) (hx:x.size=32) (w:World):Calls Tryz.prog 202 #[.string x] w fun e w'=>e= .returned (.bool true)∧w=w':=by
 have h1:((x.size:Int)==32)=true:=by simp [hx]
 go_enter Tryz.func202,Tryz.ntmps202;go_wp2;go_ret;exact ⟨rfl,rfl⟩
theorem sgpar_any (b h:Int) (w:World):Calls Tryz.prog 204 #[.agg (cSc b h)] w fun e w'=>e= .returned (.agg (cPm b))∧Below w.heap.size w w':=by
 have HB:Hid (Below w.heap.size w (w.alloc (.cells (cSc b h) 26))):=bl;go_enter Tryz.func204,Tryz.ntmps204;go_wp2;exact bodyPost_ret (v:= .agg (cPm b)) (by simp [results,Tryz.results204,go_sem]) rfl ⟨rfl,HB.out.alloc HB.out.size _⟩
theorem sgroot_any (b h:Int) (dg:ByteArray) (hdg:dg.size=32) (ix:Nat) (hix:ix < 256) (Ap Aq:Option Addr) (np nq cp cq B:Nat) (ps qs:List ByteArray) (w:World) (hG:Glob w) (hp:Sl fT w B Ap np ps) (hq:Sl fT w B Aq nq qs) (hB:B≤w.heap.size) (hn:np≤300) (hm:nq≤8) (hps:∀s∈ps,s.size=32) (hqs:∀s∈qs,s.size=32):
 Calls Tryz.prog 152 #[.agg (cSc b h),.string dg,.agg (cSg ix Ap np cp Aq nq cq)] w fun e w'=>∃r er,e= .returned (.tuple #[.string r,.int .i64 er])∧(er=0∧sgF b h ix np nq=true∧r=sgR b dg ix ps qs∨er=1∧sgF b h ix np nq=false)∧Below w.heap.size w w':=by
 have HI:=lh (fun W=>sgis_any dg hdg W);have HV:=lh (fun W=>sgvalid_any b h W);have HF:Hid (sgF b h ix np nq=(sgOk b h&&(decide (ix < 2 ^ h.toNat)&&(decide ((nq:Int)=h)&&decide (np=mN b.toNat+cN b.toNat))))):=rfl;obtain ⟨W1,hW1⟩:∃W1:World,W1=(w.alloc (.cells (cSc b h) 26)).alloc (.cells (cSg (ix:Int) Ap np cp Aq nq cq) 33):=⟨_,rfl⟩
 have hsz:W1.heap.size=w.heap.size+2:=by rw [hW1];simp
 have hge:W1.heap[w.heap.size]? =some (.cells (cSc b h) 26 (0,0)):=by
  rw [hW1];exact (Below.heap_alloc _ _ _ sI).trans (heap_alloc_new w _)
 have hge2:W1.heap[w.heap.size+1]? =some (.cells (cSg (ix:Int) Ap np cp Aq nq cq) 33 (0,0)):=by
  rw [hW1]
  have:=heap_alloc_new (w.alloc (.cells (cSc b h) 26)) (.cells (cSg (ix:Int) Ap np cp Aq nq cq) 33)
  simpa using this
 have HC:Hid (∀V,Below (w.heap.size+2) W1 V→V.cell? ⟨w.heap.size,0,none⟩=some (.int .i64 b)∧V.cell? ⟨w.heap.size,1,none⟩=some (.int .i64 h)∧V.cell? ⟨w.heap.size+1,0,none⟩=some (.int .i64 (ix:Int))∧V.cell? ⟨w.heap.size+1,1,none⟩=some (.slice Ap np cp)∧V.cell? ⟨w.heap.size+1,2,none⟩=some (.slice Aq nq cq)):=fun V hv=>by
  have q:=(hv.block w.heap.size om).trans hge;have q2:=(hv.block (w.heap.size+1) om).trans hge2;refine ⟨?_,?_,?_,?_,?_⟩
  ·rw [cell_of_row V _ _ _ _ _ q];rfl
  ·rw [cell_of_row V _ _ _ _ _ q];rfl
  ·rw [cell_of_row V _ _ _ _ _ q2];rfl
  ·rw [cell_of_row V _ _ _ _ _ q2];rfl
  ·rw [cell_of_row V _ _ _ _ _ q2];rfl
 have HB:Hid (Below w.heap.size w W1):=by
  show Below ..
  rw [hW1];exact bl.alloc sI _
 have HS:=lh hsz;have HWE:=lh hW1;have HB1:Hid (Below (w.heap.size+2) W1 W1):=Below.refl _ _;clear hge hge2 hsz hW1
 cases hok:sgOk b h with
 |false=>
  rw [hok,Bool.false_and] at HF;rw [hok] at HV;obtain ⟨c0,c1,c2,c3,c4⟩:=HC.out W1 HB1.out;clear hp hq hps hqs hok;go_enter Tryz.func152,Tryz.ntmps152
  go_upto_region 1 with fail
  rw [←HWE.out]
  go_wp2_with fail
  refine wp_region_held_drew (S:=(fun w'=>w'.cell? ⟨w.heap.size,0,none⟩=some (.int .i64 b)∧w'.cell? ⟨w.heap.size,1,none⟩=some (.int .i64 h)∧w'.cell? ⟨w.heap.size+1,0,none⟩=some (.int .i64 (ix:Int))∧w'.cell? ⟨w.heap.size+1,1,none⟩=some (.slice Ap np cp)∧w'.cell? ⟨w.heap.size+1,2,none⟩=some (.slice Aq nq cq))) yaV yaf (fun hHeld=>?_);refine tkY 0 ?_;refine rd1 1 (fun K hK=>?_)
  (go_simp;go_at_call 201;(with_reducible refine (HV.out _).mono ?_);rintro e w4 ⟨rfl,hb4⟩;(have HBx:Hid (Below (w.heap.size+2) W1 w4):=Below.trans (B:=w.heap.size+2) yaC (Below.mono hb4 (Nat.le_of_eq HS.out.symm)));clear hb4;go_wp2_with fail)
  refine hK.out _ _ yaf (fun hHeldrA1=>?_);clear hK K hHeld
  try simp only [pt]
  refine tkY 2 ?_;refine tkY 3 ?_;refine tkN 4 ?_;refine tkN 5 ?_;refine tkN 6 ?_;refine tkY 7 ?_;refine tkY 8 ?_;refine tkN 9 ?_;refine tkN 10 ?_;refine tkN 11 ?_;refine tkY 12 ?_;refine tkY 13 ?_;refine tkN 14 ?_;refine tkN 15 ?_;refine tkN 16 ?_;refine tkN 17 ?_;refine tkN 18 ?_;refine tkN 19 ?_;refine tkY 20 ?_;refine tkY 21 ?_;refine tkN 22 ?_;refine tkN 23 ?_;refine tkN 24 ?_;refine tkN 25 ?_;refine tkN 26 ?_;refine tkN 27 ?_;refine tkY 28 ?_;refine wpAnyH_done yaV ?_ _
  go_wp2_with fail
  go_ret2;exact ⟨_,_,rfl,Or.inr ⟨rfl,HF.out⟩,HB.out.trans (HBx.out.mono (Nat.le_add_right _ 2))⟩
 |true=>
  obtain ⟨hbit,hh0,hh8⟩:=sgOk_bit hok;rw [hok,Bool.true_and] at HF;rw [hok] at HV;obtain ⟨H,rfl⟩:∃H:Nat,h=(H:Int):=⟨h.toNat,by omega⟩
  rw [Int.toNat_natCast] at HF;have hH8:H≤8:=by omega
  have hd0:decide ((ix:Int) < 0)=false:=by simp
  obtain ⟨P,hP⟩:∃P,2 ^ H=P:=⟨_,rfl⟩
  have h256:P≤256:=by rw [←hP];exact Nat.le_trans (Nat.pow_le_pow_right de hH8) de
  have hwP:IntKind.i64.wrap ((2:Int) ^ H)=(P:Int):=by
   rw [show ((2:Int) ^ H)=(P:Int) by rw [←hP];simp];exact IntWalk.i64_in _ om
  rw [hP] at HF;have HP2:=lh hP;clear hP
  by_cases hlt:ix < P
  ·have hd1:decide (P≤ix)=false:=by simp;omega
   have hd2:decide ((P:Int)≤(ix:Int))=false:=by simp;omega
   rw [decide_eq_true hlt,Bool.true_and] at HF
   by_cases hnq:nq=H
   ·
    have hnI:((nq:Int) != (H:Int))=false:=by simp [hnq]
    rw [show decide ((nq:Int)=(H:Int))=true by simp [hnq],Bool.true_and] at HF;have HQ:Hid (∀V,Below (w.heap.size+2) W1 V→Sl fT V B Aq nq qs∧Sl fT V B Ap np ps∧B≤V.heap.size):=fun V hv=>⟨(hq.up HB.out hB).up hv (Nat.le_trans hB (Nat.le_add_right _ 2)),(hp.up HB.out hB).up hv (Nat.le_trans hB (Nat.le_add_right _ 2)),Nat.le_trans (Nat.le_trans hB HB.out.size) (HS.out▸hv.size:W1.heap.size≤V.heap.size)⟩
    have HQL:Hid (qs.length=nq):=hq.1;have HQS:=lh hqs;have HPR:=lh (fun W=>sgpar_any b H W);obtain ⟨c0,c1,c2,c3,c4⟩:=HC.out W1 HB1.out;have HNO:Hid (np≠mN b.toNat+cN b.toNat→∀V,Calls Tryz.prog 203 #[.agg (cPm b),.string dg,.slice Ap np cp] V fun e w'=>e= .returned (.tuple #[.string ⟨#[]⟩,.int .i64 1])∧Below V.heap.size V w'):=fun hne V=>recover_no b b.toNat hbit dg hdg Ap np cp V hne
    have HYES:Hid (np=mN b.toNat+cN b.toNat→∀V,Below (w.heap.size+2) W1 V→Calls Tryz.prog 203 #[.agg (cPm b),.string dg,.slice Ap np cp] V fun e w'=>e= .returned (.tuple #[.string (pubF b.toNat (dgF b.toNat (sB dg)) ps),.int .i64 0])∧Below V.heap.size V w'):=fun he V hv=>recover_any b b.toNat hbit dg hdg Ap np cp B ps V (hG.on (HB.out.trans (hv.mono (Nat.le_add_right _ 2)))) (HQ.out V hv).2.1 (HQ.out V hv).2.2 he hps
    have HGV:Hid (∀V,Below (w.heap.size+2) W1 V→Glob V):=fun V hv=>hG.on (HB.out.trans (hv.mono (Nat.le_add_right _ 2)))
    clear hp hq hps hqs hok hG hB hbit hnq;go_enter Tryz.func152,Tryz.ntmps152
    go_upto_region 1 with fail
    rw [←HWE.out]
    go_wp2_with fail
    refine wp_region_held_drew (S:=(fun w'=>w'.cell? ⟨w.heap.size,0,none⟩=some (.int .i64 b)∧w'.cell? ⟨w.heap.size,1,none⟩=some (.int .i64 (H:Int))∧w'.cell? ⟨w.heap.size+1,0,none⟩=some (.int .i64 (ix:Int))∧w'.cell? ⟨w.heap.size+1,1,none⟩=some (.slice Ap np cp)∧w'.cell? ⟨w.heap.size+1,2,none⟩=some (.slice Aq nq cq))) yaV yaf (fun hHeld=>?_);refine tkY 0 ?_;refine rd1 1 (fun K hK=>?_)
    (go_simp;go_at_call 201;(with_reducible refine (HV.out _).mono ?_);rintro e w4 ⟨rfl,hb4⟩;(have HBx:Hid (Below (w.heap.size+2) W1 w4):=Below.trans (B:=w.heap.size+2) yaC (Below.mono hb4 (Nat.le_of_eq HS.out.symm)));clear hb4;go_wp2_with fail)
    refine hK.out _ _ yaf (fun hHeldrC1=>?_);clear hK K hHeld
    try simp only [pt]
    refine tkY 2 ?_;refine tkY 3 ?_;refine tkY 4 ?_;refine rd1 5 (fun K hK=>?_)
    (go_simp;go_at_call 202;(with_reducible refine (HI.out _).mono ?_);rintro e w5 ⟨rfl,rfl⟩;go_wp2_with fail)
    refine hK.out _ _ yaf (fun hHeldrC5=>?_);clear hK K hHeldrC1
    try simp only [pt]
    refine tkY 6 ?_;refine tkY 7 ?_;refine tkY 8 ?_;refine tkY 9 ?_;refine tkY 10 ?_;refine tkY 11 ?_;refine tkY 12 ?_;refine tkY 13 ?_;refine tkY 14 ?_;refine tkY 15 ?_;refine tkY 16 ?_;refine tkY 17 ?_;refine tkY 18 ?_;refine tkY 19 ?_;refine tkY 20 ?_;refine tkY 21 ?_;refine tkY 22 ?_;refine tkY 23 ?_;refine tkY 24 ?_;refine tkY 25 ?_;refine tkY 26 ?_;refine tkY 27 ?_;refine tkY 28 ?_;refine wpAnyH_done yaV ?_ _;clear hd0 hwP hd1 hd2 hnI c0 c1 c2 c3 c4;obtain ⟨c0,c1,c2,c3,c4⟩:=HC.out w4 HBx.out;have HBy:=HBx
    go_upto_region 4 with fail
    go_loopw [47] (fun i wr=>(∃k:Nat,k≤nq∧i= .int .i64 k)∧w4=wr) (fun i _=>nq - (intOf i).toNat)
    case atStart=>exact ⟨⟨0,by omega,rfl⟩,rfl⟩
    case round=>
     obtain ⟨⟨k,hk,rfl⟩,rfl⟩:=hrel
     by_cases hkl:k < nq
     ·have hkI:(k:Int) < (nq:Int):=by omega
      have hk0:(0:Int)≤(k:Int):=by omega
      obtain ⟨bq,oq,x,rfl,_,hgq,hcq⟩:=(HQ.out w4 HBy.out).1.2.at_ (k:=k) (by rw [HQL.out];exact hkl);have HIX:=lh (fun W=>sgis_any x (HQS.out x (List.mem_of_getElem? hgq)) W);clear hgq
      go_wp2_with (go_at_call 202;(with_reducible refine (HIX.out _).mono ?_);rintro e w5 ⟨rfl,rfl⟩)
      refine ⟨?rel,?measure⟩
      case rel=>exact ⟨⟨k+1,by omega,by go_num⟩,by first |rfl |trivial⟩
      case measure=>(simp [intOf]<;>omega)
     ·obtain rfl:k=nq:=by omega
      have hkI:¬(k:Int) < (k:Int):=by omega
      have HBx:=HBy
      by_cases hT:np=mN b.toNat+cN b.toNat
      ·
       have HF2:Hid (sgF b H ix np k=true):=by show _=_;rw [HF.out,decide_eq_true hT]
       have HRY:=lh (HYES.out hT);obtain ⟨pk,hpk⟩:∃z,pubF b.toNat (dgF b.toNat (sB dg)) ps=z:=⟨_,rfl⟩
       have hpk32:pk.size=32:=by rw [←hpk];unfold pubF;rw [←ya9,ybi (ybN _),ybA]
       have HRR:Hid (sgR b dg ix ps qs=clF (leafS (sB pk)) ix qs):=by show _=_;rw [←hpk];rfl
       rw [hpk] at HRY;have HPK:=lh hpk32;clear hT hpk hpk32 HF HNO HYES
       go_wp2_with fail
       refine wp_region_held_drew (S:=(fun w'=>w'.cell? ⟨w.heap.size,0,none⟩=some (.int .i64 b)∧w'.cell? ⟨w.heap.size,1,none⟩=some (.int .i64 (H:Int))∧w'.cell? ⟨w.heap.size+1,0,none⟩=some (.int .i64 (ix:Int))∧w'.cell? ⟨w.heap.size+1,1,none⟩=some (.slice Ap np cp)∧w'.cell? ⟨w.heap.size+1,2,none⟩=some (.slice Aq k cq))) yaV yaf (fun hHeld=>?_);refine tkY 0 ?_;refine tkY 2 ?_;refine tkY 3 ?_;refine tkY 4 ?_;refine rd1 1 (fun K hK=>?_)
       (go_simp;go_at_call 204;(with_reducible refine (HPR.out _).mono ?_);rintro e w6 ⟨rfl,hb6⟩;(have HBx:Hid (Below (w.heap.size+2) W1 w6):=Below.trans (B:=w.heap.size+2) yaD (Below.mono hb6 (HS.out▸HBy.out.size)));clear hb6;go_wp2_with fail)
       refine hK.out _ _ yaf (fun hHeldy4=>?_);clear hK K hHeld
       try simp only [pt]
       refine rd1 5 (fun K hK=>?_)
       (go_simp;go_at_call 203;(with_reducible refine (HRY.out _ HBx.out).mono ?_);rintro e w7 ⟨rfl,hb7⟩;(have HBx:Hid (Below (w.heap.size+2) W1 w7):=HBx.out.trans (Below.mono hb7 (HS.out▸HBx.out.size)));clear hb7;go_wp2_with fail)
       refine hK.out _ _ yaf (fun hHeldy5=>?_);clear hK K hHeldy4
       try simp only [pt]
       refine tkY 6 ?_;refine tkY 7 ?_;refine tkY 8 ?_;refine tkY 9 ?_;refine tkY 10 ?_;refine wpAnyH_done yaV ?_ _;obtain ⟨L,hL⟩:∃L,leafS (sB pk)=L:=⟨_,rfl⟩
       have hL32:L.size=32:=by rw [←hL];exact ycL _
       have HLF:Hid (∀(V:World) A' c',Below (w.heap.size+2) W1 V→Sl fB V V.heap.size A' pk.size (sB pk)→pk.size≤c'→Calls Tryz.prog 151 #[.slice A' pk.size c'] V fun e w'=>e= .returned (.string L)∧Below V.heap.size V w'):=fun V A' c' hv hs hc=>hL▸ycU A' pk.size c' V.heap.size (sB pk) V (HGV.out V hv) hs hc nl (by rw [HPK.out];omega) (ybr pk) (own_hA hs (by rw [HPK.out];omega))
       rw [hL] at HRR;have HL32:=lh hL32;clear hL hL32;obtain ⟨c0,c1,c2,c3,c4⟩:=HC.out w7 HBx.out
       go_upto_region 14 with (first
        |((with_reducible refine ybm (o:=⟨some 68,_,_,_,_,_⟩) rfl (.tmp 67) rfl pk rfl ?_);intro cb W8 hsl hcb hbl;(have HBx:Hid (Below (w.heap.size+2) W1 W8):=HBx.out.trans (Below.mono hbl.out (HS.out▸HBx.out.size)));(have HLC:=lh (HLF.out W8 _ cb HBx.out hsl.out hcb.out));clear hsl hcb hbl)
        |(go_at_call 151;(with_reducible refine HLC.out.mono ?_);rintro e w9 ⟨rfl,hb9⟩;(have HBx:Hid (Below (w.heap.size+2) W1 w9):=HBx.out.trans (Below.mono hb9 (HS.out▸HBx.out.size)));(obtain ⟨c0,c1,c2,c3,c4⟩:=HC.out w9 HBx.out);clear hb9))
       have HCL:Hid (clF L ix qs=clF L (ix / 2 ^ 0) (qs.drop 0)):=by show _=_;rw [Nat.pow_zero,Nat.div_one,List.drop_zero]
       have HBz:=HBx
       go_loopw [12,73] (fun v i wr=>∃(m:Nat) (cur:ByteArray),m≤k∧i= .int .i64 m∧v= .string cur∧Hid (cur.size=32)∧Hid (clF L ix qs=clF cur (ix / 2 ^ m) (qs.drop m))∧Hid (Below (w.heap.size+2) W1 wr)) (fun _ i _=>k - (intOf i).toNat)
       case atStart=>exact ⟨0,L,by omega,rfl,rfl,HL32,HCL,HBz⟩
       case round=>
        clear HBx HBz HCL c0 c1 c2 c3 c4;obtain ⟨m,cur,hm',rfl,rfl,HC32,HCL,HBr⟩:=hrel;obtain ⟨c0,c1,c2,c3,c4⟩:=HC.out wr HBr.out
        by_cases hml:m < k
        ·have hmI:(m:Int) < (k:Int):=by omega
         have hm0:(0:Int)≤(m:Int):=by omega
         obtain ⟨bq,oq,x,hAq,_,hgq,hcq⟩:=(HQ.out wr HBr.out).1.2.at_ (k:=m) (by rw [HQL.out];exact hml);have hx32:=HQS.out x (List.mem_of_getElem? hgq);subst hAq;obtain ⟨t,ht⟩:∃t,ix / 2 ^ m=t:=⟨_,rfl⟩
         have htI:(ix:Int) / 2 ^ m=(t:Int):=by rw [←ht];simp
         have ht256:t < 1024:=by rw [←ht];exact Nat.lt_of_le_of_lt (Nat.div_le_self _ _) om
         have hbd:=band_1 ht256
         have HSTEP:Hid (clF L ix qs=clF (if t % 2=0 then ndS cur x else ndS x cur) (ix / 2 ^ (m+1)) (qs.drop (m+1))):=by
          show _=_
          rw [HCL.out,ht,List.drop_eq_getElem_cons (by rw [HQL.out];exact hml)]
          have hx:qs[m]'(by rw [HQL.out];exact hml)=x:=by
           have:=List.getElem?_eq_getElem (l:=qs) (i:=m) (by rw [HQL.out];exact hml)
           rw [hgq] at this;exact (Option.some.inj this).symm
          rw [hx,clF,Nat.pow_succ,←Nat.div_div_eq_div_mul,ht]
         have HN1:Hid (Calls Tryz.prog 168 #[.string cur,.string x] wr fun e w'=>e= .returned (.string (ndS cur x))∧Below wr.heap.size wr w'):=ycq cur x wr (HGV.out wr HBr.out) (by rw [HC32.out];omega) (by rw [hx32];omega);have HN2:Hid (Calls Tryz.prog 168 #[.string x,.string cur] wr fun e w'=>e= .returned (.string (ndS x cur))∧Below wr.heap.size wr w'):=ycq x cur wr (HGV.out wr HBr.out) (by rw [hx32];omega) (by rw [HC32.out];omega);have hpar:t % 2=0∨t % 2=1:=by omega
         have HM1:Hid (m+1≤k):=hml;clear hgq hx32 ht ht256;rcases hpar with hp |hp
         ·rw [hp] at hbd
          rw [hp,if_pos rfl] at HSTEP;clear hp
          go_wp2_with (go_at_call 168;(with_reducible refine HN1.out.mono ?_);rintro e w10 ⟨rfl,hb10⟩;(have HB10:Hid (Below (w.heap.size+2) W1 w10):=HBr.out.trans (Below.mono hb10 (HS.out▸HBr.out.size)));clear hb10)
          refine ⟨?rel,?measure⟩
          case rel=>exact ⟨m+1,_,HM1.out,by go_num,rfl,ydI _ _,HSTEP,HB10⟩
          case measure=>(have:=HM1.out;clear htI;simp [intOf]<;>omega)
         ·rw [hp] at hbd
          rw [hp,if_neg de] at HSTEP;clear hp
          go_wp2_with (go_at_call 168;(with_reducible refine HN2.out.mono ?_);rintro e w10 ⟨rfl,hb10⟩;(have HB10:Hid (Below (w.heap.size+2) W1 w10):=HBr.out.trans (Below.mono hb10 (HS.out▸HBr.out.size)));clear hb10)
          refine ⟨?rel,?measure⟩
          case rel=>exact ⟨m+1,_,HM1.out,by go_num,rfl,ydI _ _,HSTEP,HB10⟩
          case measure=>(have:=HM1.out;clear htI;simp [intOf]<;>omega)
        ·obtain rfl:m=k:=by omega
         have HE:Hid (clF L ix qs=cur):=by show _=_;rw [HCL.out,List.drop_eq_nil_of_le (by rw [HQL.out];exact Nat.le_refl _)];rfl
         go_wp2;go_ret2;exact ⟨_,_,rfl,Or.inl ⟨rfl,HF2.out,by rw [HRR.out,HE.out]⟩,HB.out.trans (HBr.out.mono (Nat.le_add_right _ 2))⟩
      ·
       have HF2:Hid (sgF b H ix np k=false):=by show _=_;rw [HF.out,decide_eq_false hT]
       have HRN:=lh (HNO.out hT);clear hT HF HNO HYES
       go_wp2_with fail
       refine wp_region_held_drew (S:=(fun w'=>w'.cell? ⟨w.heap.size,0,none⟩=some (.int .i64 b)∧w'.cell? ⟨w.heap.size,1,none⟩=some (.int .i64 (H:Int))∧w'.cell? ⟨w.heap.size+1,0,none⟩=some (.int .i64 (ix:Int))∧w'.cell? ⟨w.heap.size+1,1,none⟩=some (.slice Ap np cp)∧w'.cell? ⟨w.heap.size+1,2,none⟩=some (.slice Aq k cq))) yaV yaf (fun hHeld=>?_);refine tkY 0 ?_;refine tkY 2 ?_;refine tkY 3 ?_;refine tkY 4 ?_;refine rd1 1 (fun K hK=>?_)
       (go_simp;go_at_call 204;(with_reducible refine (HPR.out _).mono ?_);rintro e w6 ⟨rfl,hb6⟩;(have HBx:Hid (Below (w.heap.size+2) W1 w6):=Below.trans (B:=w.heap.size+2) yaD (Below.mono hb6 (HS.out▸HBy.out.size)));clear hb6;go_wp2_with fail)
       refine hK.out _ _ yaf (fun hHeldn4=>?_);clear hK K hHeld
       try simp only [pt]
       refine rd1 5 (fun K hK=>?_)
       (go_simp;go_at_call 203;(with_reducible refine (HRN.out _).mono ?_);rintro e w7 ⟨rfl,hb7⟩;(have HBx:Hid (Below (w.heap.size+2) W1 w7):=HBx.out.trans (Below.mono hb7 (HS.out▸HBx.out.size)));clear hb7;go_wp2_with fail)
       refine hK.out _ _ yaf (fun hHeldn5=>?_);clear hK K hHeldn4
       try simp only [pt]
       refine tkY 6 ?_;refine tkY 7 ?_;refine tkY 8 ?_;refine tkY 9 ?_;refine tkY 10 ?_;refine wpAnyH_done yaV ?_ _
       go_wp2_with fail
       go_ret2;exact ⟨_,_,rfl,Or.inr ⟨rfl,HF2.out⟩,HB.out.trans (HBx.out.mono (Nat.le_add_right _ 2))⟩
   ·
    have HF2:Hid (sgF b H ix np nq=false):=by show _=_;rw [HF.out,show decide ((nq:Int)=(H:Int))=false by simp;omega];rfl
    have hnI:((nq:Int) != (H:Int))=true:=by simp;omega
    obtain ⟨c0,c1,c2,c3,c4⟩:=HC.out W1 HB1.out;clear hp hq hps hqs hok HF hlt hnq;go_enter Tryz.func152,Tryz.ntmps152
    go_upto_region 1 with fail
    rw [←HWE.out]
    go_wp2_with fail
    refine wp_region_held_drew (S:=(fun w'=>w'.cell? ⟨w.heap.size,0,none⟩=some (.int .i64 b)∧w'.cell? ⟨w.heap.size,1,none⟩=some (.int .i64 (H:Int))∧w'.cell? ⟨w.heap.size+1,0,none⟩=some (.int .i64 (ix:Int))∧w'.cell? ⟨w.heap.size+1,1,none⟩=some (.slice Ap np cp)∧w'.cell? ⟨w.heap.size+1,2,none⟩=some (.slice Aq nq cq))) yaV yaf (fun hHeld=>?_);refine tkY 0 ?_;refine rd1 1 (fun K hK=>?_)
    (go_simp;go_at_call 201;(with_reducible refine (HV.out _).mono ?_);rintro e w4 ⟨rfl,hb4⟩;(have HBx:Hid (Below (w.heap.size+2) W1 w4):=Below.trans (B:=w.heap.size+2) yaC (Below.mono hb4 (Nat.le_of_eq HS.out.symm)));clear hb4;go_wp2_with fail)
    refine hK.out _ _ yaf (fun hHeldhC1=>?_);clear hK K hHeld
    try simp only [pt]
    refine tkY 2 ?_;refine tkY 3 ?_;refine tkY 4 ?_;refine rd1 5 (fun K hK=>?_)
    (go_simp;go_at_call 202;(with_reducible refine (HI.out _).mono ?_);rintro e w5 ⟨rfl,rfl⟩;go_wp2_with fail)
    refine hK.out _ _ yaf (fun hHeldhC5=>?_);clear hK K hHeldhC1
    try simp only [pt]
    refine tkY 6 ?_;refine tkY 7 ?_;refine tkY 8 ?_;refine tkY 9 ?_;refine tkY 10 ?_;refine tkY 11 ?_;refine tkY 12 ?_;refine tkY 13 ?_;refine tkY 14 ?_;refine tkY 15 ?_;refine tkY 16 ?_;refine tkY 17 ?_;refine tkY 18 ?_;refine tkY 19 ?_;refine tkY 20 ?_;refine tkY 21 ?_;refine tkY 22 ?_;refine tkY 23 ?_;refine tkY 24 ?_;refine tkY 25 ?_;refine tkY 26 ?_;refine tkY 27 ?_;refine tkY 28 ?_;refine wpAnyH_done yaV ?_ _
    go_wp2_with fail
    go_ret2;exact ⟨_,_,rfl,Or.inr ⟨rfl,HF2.out⟩,HB.out.trans (HBx.out.mono (Nat.le_add_right _ 2))⟩
  ·
   have HF2:Hid (sgF b H ix np nq=false):=by show _=_;rw [HF.out,decide_eq_false hlt];rfl
   obtain ⟨c0,c1,c2,c3,c4⟩:=HC.out W1 HB1.out;have hd1:decide (P≤ix)=true:=by simp;omega
   have hd2:decide ((P:Int)≤(ix:Int))=true:=by simp;omega
   clear hp hq hps hqs hok HF hlt;go_enter Tryz.func152,Tryz.ntmps152
   go_upto_region 1 with fail
   rw [←HWE.out]
   go_wp2_with fail
   refine wp_region_held_drew (S:=(fun w'=>w'.cell? ⟨w.heap.size,0,none⟩=some (.int .i64 b)∧w'.cell? ⟨w.heap.size,1,none⟩=some (.int .i64 (H:Int))∧w'.cell? ⟨w.heap.size+1,0,none⟩=some (.int .i64 (ix:Int))∧w'.cell? ⟨w.heap.size+1,1,none⟩=some (.slice Ap np cp)∧w'.cell? ⟨w.heap.size+1,2,none⟩=some (.slice Aq nq cq))) yaV yaf (fun hHeld=>?_);refine tkY 0 ?_;refine rd1 1 (fun K hK=>?_)
   (go_simp;go_at_call 201;(with_reducible refine (HV.out _).mono ?_);rintro e w4 ⟨rfl,hb4⟩;(have HBx:Hid (Below (w.heap.size+2) W1 w4):=Below.trans (B:=w.heap.size+2) yaC (Below.mono hb4 (Nat.le_of_eq HS.out.symm)));clear hb4;go_wp2_with fail)
   refine hK.out _ _ yaf (fun hHeldrB1=>?_);clear hK K hHeld
   try simp only [pt]
   refine tkY 2 ?_;refine tkY 3 ?_;refine tkY 4 ?_;refine rd1 5 (fun K hK=>?_)
   (go_simp;go_at_call 202;(with_reducible refine (HI.out _).mono ?_);rintro e w5 ⟨rfl,rfl⟩;go_wp2_with fail)
   refine hK.out _ _ yaf (fun hHeldrB5=>?_);clear hK K hHeldrB1
   try simp only [pt]
   refine tkY 6 ?_;refine tkY 7 ?_;refine tkY 8 ?_;refine tkY 9 ?_;refine tkY 10 ?_;refine tkY 11 ?_;refine tkY 12 ?_;refine tkY 13 ?_;refine tkY 14 ?_;refine tkY 15 ?_;refine tkY 16 ?_;refine tkY 17 ?_;refine tkY 18 ?_;refine tkY 19 ?_;refine tkY 20 ?_;refine tkY 21 ?_;refine tkN 22 ?_;refine tkN 23 ?_;refine tkN 24 ?_;refine tkN 25 ?_;refine tkN 26 ?_;refine tkN 27 ?_;refine tkY 28 ?_;refine wpAnyH_done yaV ?_ _
   go_wp2_with fail
   go_ret2;exact ⟨_,_,rfl,Or.inr ⟨rfl,HF2.out⟩,HB.out.trans (HBx.out.mono (Nat.le_add_right _ 2))⟩
