/- The reference's bits and digits of a digest. -/
import Derived.Test.YtpdledjgbgalcaaGreatDoorN4
namespace Go.Proofs.YtpdledjgbgalcaaGreatDoor
set_option maxRecDepth 100000
set_option maxHeartbeats 8000000
open Go.RowKit Go.Lib
set_option linter.unusedVariables false
set_option linter.unusedSimpArgs false
theorem rbit_any (s:ByteArray) (hs:s.size=32) (i:Nat) (hi:i < 256) (w:World):Calls Tryz.prog 251 #[.string s,.int .i64 i] w fun e w'=>e= .returned (.int .i64 (bitN (sB s) i))∧w=w':=by
 obtain ⟨q,hq⟩:∃q:Nat,i / 8=q:=⟨_,rfl⟩
 obtain ⟨r,hr⟩:∃r:Nat,i % 8=r:=⟨_,rfl⟩
 obtain ⟨t,ht⟩:∃t:Nat,7 - r=t:=⟨_,rfl⟩
 have hr8:r < 8:=by omega
 have hq32:q < 32:=by omega
 have h1:(i:Int) / 8=(q:Int):=by omega
 have h2:(i:Int) % 8=(r:Int):=by omega
 have h3:7 - (r:Int)=(t:Int):=by omega
 have hqs:q < s.size:=by omega
 have hqs2:(q:Int) < (s.size:Int):=by omega
 obtain ⟨x,hx⟩:∃x:Nat,s[q].toNat=x:=⟨_,rfl⟩
 have hx255:x≤255:=by have:=s[q].toNat_lt;omega
 have hb:bitN (sB s) i=x / 2 ^ t % 2:=by
  unfold bitN;rw [hq,hr,ht,sB_getD hqs,hx]
  rfl
 obtain ⟨y,hy⟩:∃y:Nat,x / 2 ^ t=y:=⟨_,rfl⟩
 have hy255:y≤255:=by rw [←hy];exact Nat.le_trans (Nat.div_le_self _ _) hx255
 have hyI:(x:Int) / 2 ^ t=(y:Int):=by rw [←hy];simp
 rw [hy] at hb;have hbd:bits .and .i64 (y:Int) 1=(bitN (sB s) i:Int):=by rw [hb];exact band_1 om
 obtain ⟨d,hd⟩:∃d:Nat,bitN (sB s) i=d:=⟨_,rfl⟩
 rw [hd] at hbd ⊢;clear hb hd hq hr ht hy;go_enter Tryz.func251,Tryz.ntmps251;go_wp2;go_ret;exact ⟨rfl,rfl⟩
theorem bitN_le (xs:List Int) (i:Nat):bitN xs i≤1:=by unfold bitN;omega
theorem rdg_le (β:Nat) (xs:List Int) (i:Nat):∀k,rdg β xs i k+1≤2 ^ k
 |0=>by simp [rdg]
 |k+1=>by
  have h1:=rdg_le β xs i k;have h2:=bitN_le xs (i*β+k);rw [rdg,Nat.pow_succ];omega
theorem rdigits_1 (s:ByteArray) (hs:s.size=32) (w:World):
 Calls Tryz.prog 208 #[.agg (cPm 1),.string s] w fun e w'=>∃v,e= .returned v∧Own I 3 w' w.heap.size v (dgF 1 (sB s))∧Below w.heap.size w w':=by
 obtain ⟨i0,hi,hz0,hz1,hz2⟩:=info_parts Tryz.info3;have HI:=lh hi;have HZ0:=lh hz0;have HZ1:=lh hz1;have HZ2:=lh hz2;have hsb:∀x∈sB s,0≤x∧x < 256:=fun x hx=>ybr s x hx
 have HRE:Hid (∀i,rdg 1 (sB s) i 1=dig 1 (sB s) i):=fun i=>rdg_eq 1 (sB s) i om hsb
 have HB:Hid (Below w.heap.size w (w.alloc (.cells (cPm 1) 233))):=bl;obtain ⟨W1,hW1⟩:∃W1:World,W1=w.alloc (.cells (cPm 1) 233):=⟨_,rfl⟩
 have hsz:W1.heap.size=w.heap.size+1:=by rw [hW1];simp
 have hge:W1.heap[w.heap.size]? =some (.cells (cPm 1) 233 (0,0)):=by rw [hW1];exact heap_alloc_new w _
 have HC:Hid (∀V,Below (w.heap.size+1) W1 V→V.cell? ⟨w.heap.size,0,none⟩=some (.int .i64 1)∧V.cell? ⟨w.heap.size,1,none⟩=some (.int .i64 32)):=fun V hv=>by
  have q:=(hv.block w.heap.size (Nat.lt_succ_self _)).trans hge;refine ⟨?_,?_⟩<;>(rw [cell_of_row V _ _ _ _ _ q];rfl)
 rw [←hW1] at HB;have HS:=lh hsz;have HWE:=lh hW1;have HBc:Hid (Below (w.heap.size+1) W1 W1):=Below.refl _ _;clear hge hsz hW1;have hb:BitN 1 1:=by unfold BitN;omega
 have HL:=lh (fun W=>ybZ 1 1 hb W);have HM:=lh (fun W=>yb0 1 1 hb W);rw [show mNI 1=256 from rfl] at HM;rw [show bsF 1=2 from rfl] at HL;obtain ⟨c0,c1⟩:=HC.out W1 br;have HCK:=lh (fun W=>rcheck_1 W);have HBI:=lh (fun i (hi:i < 256) W=>rbit_any s hs i hi W);clear hi hz0 hz1 hz2 hs hsb;go_enter Tryz.func208,Tryz.ntmps208
 go_upto_region 1 with fail
 rw [←HWE.out]
 go_upto_region 4 with fail
 have HO0:Hid (Own I 3 W1 (w.heap.size+1) (.slice none 0 0) (digs 1 (sB s) 0)):=Own.nil
 go_loopw [5,6,7] (fun v c i wr=>∃n c':Nat,n≤256∧i= .int .i64 n∧c= .int .i64 c'∧c'≤960∧Hid (cks 1 (sB s) n=c')∧Hid (Own I 3 wr (w.heap.size+1) v (digs 1 (sB s) n))∧Hid (Below (w.heap.size+1) W1 wr)) (fun _ _ i _=>256 - (intOf i).toNat)
 case atStart=>exact ⟨0,0,by omega,rfl,rfl,by omega,rfl,HO0,HBc⟩
 case round=>
  clear HBc c0 c1 HO0;obtain ⟨n,c,hn,rfl,rfl,hcc,HK,HO,HBr⟩:=hrel;obtain ⟨c0,c1⟩:=HC.out wr HBr.out
  by_cases hlt:n < 256
  ·
   have hltI:(n:Int) < 256:=by omega
   go_upto_region 8 with (go_at_call 247;(with_reducible refine (HM.out _).mono ?_);rintro e w2 ⟨rfl,hb2⟩;(have HB2:Hid (Below (w.heap.size+1) W1 w2):=HBr.out.trans (hb2.mono (HS.out▸HBr.out.size)));(have HO2:Hid (Own I 3 w2 (w.heap.size+1) u5 (digs 1 (sB s) n)):=HO.out.on hb2);clear hb2)
   clear c0 c1
   go_loopw [8,9] (fun d k wq=>(∃j y:Nat,j≤1∧k= .int .i64 j∧d= .int .i64 y∧Hid (rdg 1 (sB s) n j=y))∧w2=wq) (fun _ k _=>1 - (intOf k).toNat)
   case atStart=>exact ⟨⟨0,0,by omega,rfl,rfl,rfl⟩,rfl⟩
   case round=>
    obtain ⟨⟨j,y,hj,rfl,rfl,HY⟩,rfl⟩:=hrel;obtain ⟨c0,c1⟩:=HC.out w2 HB2.out
    by_cases hjb:j < 1
    ·have hjI:(j:Int) < 1:=by omega
     have hp:n*1+j < 256:=by omega
     have hpI:(n:Int)+(j:Int)=((n*1+j:Nat):Int):=by omega
     have HBT:=lh (HBI.out (n*1+j) hp w2);have hb1:=bitN_le (sB s) (n*1+j);have HY2:Hid (rdg 1 (sB s) n (j+1)=2*y+bitN (sB s) (n*1+j)):=by show _=_;rw [rdg,HY.out]
     have hy15:y≤15:=by
      have h:=rdg_le 1 (sB s) n j;rw [HY.out] at h
      have:2 ^ j≤2 ^ 1:=Nat.pow_le_pow_right de hj
      omega
     obtain ⟨d1,hd1⟩:∃d:Nat,bitN (sB s) (n*1+j)=d:=⟨_,rfl⟩
     rw [hd1] at HBT HY2 hb1;obtain ⟨p1,hp1⟩:∃p:Nat,n*1+j=p:=⟨_,rfl⟩
     rw [hp1] at HBT hpI;clear hd1 hp1
     go_wp2_with (go_at_call 251;(with_reducible refine HBT.out.mono ?_);rintro e w3 ⟨rfl,rfl⟩)
     refine ⟨?rel,?measure⟩
     case rel=>exact ⟨⟨j+1,2*y+d1,by omega,by go_num,by go_num,HY2⟩,by first |rfl |trivial⟩
     case measure=>(simp [intOf]<;>omega)
    ·obtain rfl:j=1:=by omega
     have hjI:¬((1:Nat):Int) < 1:=by omega
     rw [HRE.out n] at HY;have HDS:Hid (digs 1 (sB s) (n+1)=digs 1 (sB s) n++[(y:Int)]):=by show _=_;rw [yb9,HY.out]
     have hym:y≤1:=by rw [←HY.out];have:=dig_lt 1 (sB s) n;omega
     have HCS:Hid (cks 1 (sB s) (n+1)=c+(1 - y)):=by show _=_;rw [cks,HK.out,HY.out]
     have hc9:c+(1 - y)≤960:=by
      have h1:=cks_le 1 (sB s) (n+1);rw [HCS.out] at h1;simp at h1;omega
     have HK1:Hid (((digs 1 (sB s) n).length+1)*8≤140737488355328):=by show _≤_;rw [ybj];omega
     have HK2:Hid ((digs 1 (sB s) n).length+1≤maxLen):=by show _≤_;rw [ybj];unfold maxLen;omega
     have HSr:Hid (w.heap.size+1≤w2.heap.size):=HS.out▸HB2.out.size;have hcd:((c:Int)+2 - 1) - (y:Int)=((c+(1 - y):Nat):Int):=by omega
     have HCD:=lh hcd;clear hcd
     go_upto_region 12 with (at_builtin;(with_reducible refine ya4 (o:=⟨some 39,_,_,_,_,_⟩) rfl (.tmp 36) (.tmp 38) 27 rfl 3 i0 (.int .i64 0) 8 Tryz.underlying27 HI.out HZ0.out HZ1.out HZ2.out rfl _ (digs 1 (sB s) n) (w.heap.size+1) rfl HO2.out (y:Int) 1 rfl I1 HK1.out HK2.out HSr.out ?_);intro v5 w5 HO5 HG5 HV5;(have HB5:Hid (Below (w.heap.size+1) W1 w5):=HB2.out.trans (yaY HG5.out (fun j hj=>(World.ownsRow.lt HO2.out j hj).1) HSr.out)))
     obtain ⟨c0,c1⟩:=HC.out w5 HB5.out
     go_wp2_with (go_at_call 250;(with_reducible refine (HL.out _).mono ?_);rintro e w6 ⟨rfl,hb6⟩;(have HB6:Hid (Below (w.heap.size+1) W1 w6):=HB5.out.trans (hb6.mono (HS.out▸HB5.out.size)));(have HO6:Hid (Own I 3 w6 (w.heap.size+1) v5 (digs 1 (sB s) (n+1))):=HDS.out▸(HO5.out.on hb6));clear hb6)
     refine ⟨?rel,?measure⟩
     case rel=>exact ⟨n+1,c+(1 - y),by omega,by go_num,by rw [←HCD.out],hc9,HCS,HO6,HB6⟩
     case measure=>(simp [intOf]<;>omega)
  ·
   obtain rfl:n=256:=by omega
   have HO8:Hid (Own I 3 wr (w.heap.size+1) u5 (digs 1 (sB s) 256)):=HO;have HK8:Hid (cks 1 (sB s) 256=c):=HK;clear HO HK;have hltI:¬((256:Nat):Int) < 256:=by omega
   go_upto_region 14 with (first
    |(go_at_call 247;(with_reducible refine (HM.out _).mono ?_);rintro e w2 ⟨rfl,hb2⟩;(have HB2:Hid (Below (w.heap.size+1) W1 w2):=HBr.out.trans (hb2.mono (HS.out▸HBr.out.size)));(have HO2:Hid (Own I 3 w2 (w.heap.size+1) u5 (digs 1 (sB s) 256)):=HO8.out.on hb2);(obtain ⟨c0,c1⟩:=HC.out w2 HB2.out);clear hb2)
    |(go_at_call 248;(with_reducible refine (HCK.out _).mono ?_);rintro e w3 ⟨rfl,hb3⟩;(have HB3:Hid (Below (w.heap.size+1) W1 w3):=HB2.out.trans (hb3.mono (HS.out▸HB2.out.size)));(have HO3:Hid (Own I 3 w3 (w.heap.size+1) u5 (digs 1 (sB s) 256)):=HO2.out.on hb3);clear hb3))
   have HO9:Hid (Own I 3 w3 (w.heap.size+1) u5 (digs 1 (sB s) 256++cdigs 1 9 c 0)):=by show Own ..;rw [show cdigs 1 9 c 0=[] from rfl,List.append_nil];exact HO3.out
   clear c0 c1
   go_loopw [5,10] (fun v i wr=>∃j:Nat,j≤9∧i= .int .i64 ((9:Int) - 1 - (j:Int))∧Hid (Own I 3 wr (w.heap.size+1) v (digs 1 (sB s) 256++cdigs 1 9 c j))∧Hid (Below (w.heap.size+1) W1 wr)) (fun _ i _=>(intOf i+1).toNat)
   case atStart=>exact ⟨0,by omega,rfl,HO9,HB3⟩
   case round=>
    clear HO9 HB3 HO8 HO3 HO2 HB2 HBr;obtain ⟨j,hj,rfl,HO,HBr⟩:=hrel
    by_cases hjc:j < 9
    ·
     obtain ⟨pl,hpl⟩:∃pl:Nat,pl=9 - 1 - j:=⟨_,rfl⟩
     have hplI:((9:Int) - 1 - (j:Int))=(pl:Int):=by omega
     have HPL:=lh hpl;have hpl8:pl≤8:=by omega
     rw [hplI];clear hpl hplI
     go_upto_region 18 with fail
     obtain ⟨wo,rfl⟩:∃wo:World,wo=wr:=⟨_,rfl⟩
     go_loopw [11,12] (fun p k wr=>(∃m q:Nat,m≤pl∧k= .int .i64 m∧p= .int .i64 q∧Hid (2 ^ m=q))∧Hid (Own I 3 wr (w.heap.size+1) u5 (digs 1 (sB s) 256++cdigs 1 9 c j))∧Hid (Below (w.heap.size+1) W1 wr)) (fun _ k _=>pl - (intOf k).toNat)
     case atStart=>exact ⟨⟨0,1,by omega,rfl,rfl,rfl⟩,HO,HBr⟩
     case round=>
      clear HO HBr;obtain ⟨⟨m,q,hm,rfl,rfl,HQ⟩,HO,HBr⟩:=hrel;obtain ⟨c0,c1⟩:=HC.out _ HBr.out
      have hq256:q≤256:=by
       rw [←HQ.out];exact Nat.le_trans (Nat.pow_le_pow_right de (show m≤8 by omega)) de
      by_cases hmp:m < pl
      ·have hqm:(q:Int)*2=((q*2:Nat):Int):=by omega
       have HQM:=lh hqm;have HQ2:Hid (2 ^ (m+1)=q*2):=by show _=_;rw [Nat.pow_succ,HQ.out]
       clear hqm
       go_wp2_with (go_at_call 250;(with_reducible refine (HL.out _).mono ?_);rintro e w6 ⟨rfl,hb6⟩;(have HB6:Hid (Below (w.heap.size+1) W1 w6):=HBr.out.trans (hb6.mono (HS.out▸HBr.out.size)));(have HO6:Hid (Own I 3 w6 (w.heap.size+1) u5 (digs 1 (sB s) 256++cdigs 1 9 c j)):=HO.out.on hb6);clear hb6)
       refine ⟨?rel,?measure⟩
       case rel=>exact ⟨⟨m+1,q*2,by omega,by go_num,by rw [HQM.out],HQ2⟩,HO6,HB6⟩
       case measure=>(simp [intOf]<;>omega)
      ·obtain rfl:m=pl:=by omega
       have hq0:0 < q:=by rw [←HQ.out];exact Nat.pos_of_ne_zero sI
       obtain ⟨t1,ht1⟩:∃t,c / q=t:=⟨_,rfl⟩
       obtain ⟨d,hd⟩:∃d:Nat,cdig 1 9 c j=d:=⟨_,rfl⟩
       have hdx:d=t1 % 2:=by
        rw [←hd,←ht1,←HQ.out,HPL.out]
        show c / 2 ^ (1*(9 - 1 - j)) % 2 ^ 1=c / 2 ^ (9 - 1 - j) % 2
        rw [Nat.pow_mul]
       have hqI:(c:Int).tdiv (q:Int)=(t1:Int):=by rw [←ht1];rfl
       have hqII:(c:Int) / (q:Int)=(t1:Int):=by rw [←ht1];simp
       have htb:t1≤960:=by rw [←ht1];exact Nat.le_trans (Nat.div_le_self _ _) hcc
       have hdI:(t1:Int).tmod 2=(d:Int):=by rw [hdx];rfl
       have hdII:(t1:Int) % 2=(d:Int):=by rw [hdx];simp
       have hwt:IntKind.i64.wrap (t1:Int)=t1:=IntWalk.i64_in _ om;have hqne:¬(q:Int)=0:=by omega
       have hqn:¬q=0:=by omega
       have HDS:Hid (digs 1 (sB s) 256++cdigs 1 9 c (j+1)=(digs 1 (sB s) 256++cdigs 1 9 c j)++[(d:Int)]):=by
        show _=_
        rw [ybV,hd,List.append_assoc]
       obtain ⟨ls,hls⟩:∃ls,digs 1 (sB s) 256++cdigs 1 9 c j=ls:=⟨_,rfl⟩
       have HLL:Hid (ls.length=256+j):=by show _=_;rw [←hls,List.length_append,ybj,ybY]
       rw [hls] at HO HDS;have HK1:Hid ((ls.length+1)*8≤140737488355328):=by show _≤_;rw [HLL.out];omega
       have HK2:Hid (ls.length+1≤maxLen):=by show _≤_;rw [HLL.out];unfold maxLen;omega
       have HBc:=HBr;have HSr:Hid (w.heap.size+1≤wr.heap.size):=HS.out▸HBr.out.size;have HDX:=lh hdx;have HPM:=HPL;clear ht1 hd hdx hls HQ
       go_upto_region 21 with fail
       refine wp_region_held_drew (S:=(fun w'=>w'.cell? ⟨w.heap.size,0,none⟩=some (.int .i64 1)∧w'.cell? ⟨w.heap.size,1,none⟩=some (.int .i64 32))) yaV yad (fun hHeld=>?_);refine tkY 0 ?_;refine tkY 1 ?_;refine tkY 2 ?_;refine tkY 3 ?_;refine tkY 4 ?_;refine rd1 5 (fun K hK=>?_)
       (go_simp;go_at_call 250;(with_reducible refine (HL.out _).mono ?_);rintro e w4 ⟨rfl,hb4⟩;(have HBc:Hid (Below (w.heap.size+1) W1 w4):=HBr.out.trans (Below.mono (Below.trans (B:=wr.heap.size) yaA hb4) HSr.out));(have HS4:Hid (w.heap.size+1≤w4.heap.size):=Nat.le_trans HSr.out hb4.size);(have HO4:Hid (Own I 3 w4 (w.heap.size+1) u5 (ls)):=HO.out.on (Below.trans (B:=wr.heap.size) yaA hb4));clear hb4;go_wp2_with fail)
       refine hK.out _ _ yad (fun hHeldq15=>?_);clear hK K hHeld
       try simp only [pt]
       refine tkY 6 ?_;refine rd1 7 (fun K hK=>?_)
       go_simp
       refine hK.out _ _ yad (fun hHeldq17=>?_);clear hK K hHeldq15
       try simp only [pt]
       refine rd1 8 (fun K hK=>?_)
       ((refine ybv (f:=I) (.tmp 63) (.tmp 70) 27 rfl rfl 3 i0 (.int .i64 0) 8 Tryz.underlying27 HI.out HZ0.out HZ1.out HZ2.out rfl ls (w.heap.size+1) ?hown [(d:Int)] ?hrow I1 HK1.out HK2.out ?hbase ?_);(case hown=>exact HO4.out.alloc _);(case hrow=>exact ⟨_,_,1,1,rfl,rfl,SL.of_block (t:=3) (fr:=(0,0)) (heap_alloc_new _ _) (Nat.lt_succ_self _)⟩);(case hbase=>have:=HS4.out;simp;omega);(intro v7 w7 HT7 HG7 HV7 HB7);(have HBd:Hid (Below (w.heap.size+1) W1 w7):=HB7.out (w.heap.size+1) W1 (HBc.out.alloc HS4.out _) nl))
       refine hK.out _ _ yad (fun hHeldq18=>?_);clear hK K hHeldq17
       try simp only [pt]
       refine tkY 9 ?_;refine wpAnyH_done yaV ?_ _;clear hqI hqII hdI hdII hwt;obtain ⟨c0,c1⟩:=HC.out w7 HBd.out;have HO7:Hid (Own I 3 w7 (w.heap.size+1) v7 (digs 1 (sB s) 256++cdigs 1 9 c (j+1))):=HDS.out▸HT7.out;go_wp2;refine ⟨?rel,?measure⟩
       case rel=>exact ⟨j+1,by omega,yaJ,HO7,HBd⟩
       case measure=>(have:=HPM.out;simp [intOf]<;>omega)
    ·obtain rfl:j=9:=by omega
     have HO7:Hid (Own I 3 wr (w.heap.size+1) u5 (dgF 1 (sB s))):=by
      show Own ..
      have h:dgF 1 (sB s)=digs 1 (sB s) 256++cdigs 1 9 c 9:=by
       rw [←HK8.out];rfl
      rw [h];exact HO.out
     have hng:¬(0:Int)≤(9:Int) - 1 - ((9:Nat):Int):=by omega
     go_wp2;go_ret;exact ⟨_,rfl,ybx HO7.out (Nat.le_succ _),HB.out.trans (HBr.out.mono (Nat.le_succ _))⟩
theorem rdigits_2 (s:ByteArray) (hs:s.size=32) (w:World):
 Calls Tryz.prog 208 #[.agg (cPm 2),.string s] w fun e w'=>∃v,e= .returned v∧Own I 3 w' w.heap.size v (dgF 2 (sB s))∧Below w.heap.size w w':=by
 obtain ⟨i0,hi,hz0,hz1,hz2⟩:=info_parts Tryz.info3;have HI:=lh hi;have HZ0:=lh hz0;have HZ1:=lh hz1;have HZ2:=lh hz2;have hsb:∀x∈sB s,0≤x∧x < 256:=fun x hx=>ybr s x hx
 have HRE:Hid (∀i,rdg 2 (sB s) i 2=dig 2 (sB s) i):=fun i=>rdg_eq 2 (sB s) i om hsb
 have HB:Hid (Below w.heap.size w (w.alloc (.cells (cPm 2) 233))):=bl;obtain ⟨W1,hW1⟩:∃W1:World,W1=w.alloc (.cells (cPm 2) 233):=⟨_,rfl⟩
 have hsz:W1.heap.size=w.heap.size+1:=by rw [hW1];simp
 have hge:W1.heap[w.heap.size]? =some (.cells (cPm 2) 233 (0,0)):=by rw [hW1];exact heap_alloc_new w _
 have HC:Hid (∀V,Below (w.heap.size+1) W1 V→V.cell? ⟨w.heap.size,0,none⟩=some (.int .i64 2)∧V.cell? ⟨w.heap.size,1,none⟩=some (.int .i64 32)):=fun V hv=>by
  have q:=(hv.block w.heap.size (Nat.lt_succ_self _)).trans hge;refine ⟨?_,?_⟩<;>(rw [cell_of_row V _ _ _ _ _ q];rfl)
 rw [←hW1] at HB;have HS:=lh hsz;have HWE:=lh hW1;have HBc:Hid (Below (w.heap.size+1) W1 W1):=Below.refl _ _;clear hge hsz hW1;have hb:BitN 2 2:=by unfold BitN;omega
 have HL:=lh (fun W=>ybZ 2 2 hb W);have HM:=lh (fun W=>yb0 2 2 hb W);rw [show mNI 2=128 from rfl] at HM;rw [show bsF 2=4 from rfl] at HL;obtain ⟨c0,c1⟩:=HC.out W1 br;have HCK:=lh (fun W=>rcheck_2 W);have HBI:=lh (fun i (hi:i < 256) W=>rbit_any s hs i hi W);clear hi hz0 hz1 hz2 hs hsb;go_enter Tryz.func208,Tryz.ntmps208
 go_upto_region 1 with fail
 rw [←HWE.out]
 go_upto_region 4 with fail
 have HO0:Hid (Own I 3 W1 (w.heap.size+1) (.slice none 0 0) (digs 2 (sB s) 0)):=Own.nil
 go_loopw [5,6,7] (fun v c i wr=>∃n c':Nat,n≤128∧i= .int .i64 n∧c= .int .i64 c'∧c'≤960∧Hid (cks 2 (sB s) n=c')∧Hid (Own I 3 wr (w.heap.size+1) v (digs 2 (sB s) n))∧Hid (Below (w.heap.size+1) W1 wr)) (fun _ _ i _=>128 - (intOf i).toNat)
 case atStart=>exact ⟨0,0,by omega,rfl,rfl,by omega,rfl,HO0,HBc⟩
 case round=>
  clear HBc c0 c1 HO0;obtain ⟨n,c,hn,rfl,rfl,hcc,HK,HO,HBr⟩:=hrel;obtain ⟨c0,c1⟩:=HC.out wr HBr.out
  by_cases hlt:n < 128
  ·
   have hltI:(n:Int) < 128:=by omega
   go_upto_region 8 with (go_at_call 247;(with_reducible refine (HM.out _).mono ?_);rintro e w2 ⟨rfl,hb2⟩;(have HB2:Hid (Below (w.heap.size+1) W1 w2):=HBr.out.trans (hb2.mono (HS.out▸HBr.out.size)));(have HO2:Hid (Own I 3 w2 (w.heap.size+1) u5 (digs 2 (sB s) n)):=HO.out.on hb2);clear hb2)
   clear c0 c1
   go_loopw [8,9] (fun d k wq=>(∃j y:Nat,j≤2∧k= .int .i64 j∧d= .int .i64 y∧Hid (rdg 2 (sB s) n j=y))∧w2=wq) (fun _ k _=>2 - (intOf k).toNat)
   case atStart=>exact ⟨⟨0,0,by omega,rfl,rfl,rfl⟩,rfl⟩
   case round=>
    obtain ⟨⟨j,y,hj,rfl,rfl,HY⟩,rfl⟩:=hrel;obtain ⟨c0,c1⟩:=HC.out w2 HB2.out
    by_cases hjb:j < 2
    ·have hjI:(j:Int) < 2:=by omega
     have hp:n*2+j < 256:=by omega
     have hpI:(n:Int)*2+(j:Int)=((n*2+j:Nat):Int):=by omega
     have HBT:=lh (HBI.out (n*2+j) hp w2);have hb1:=bitN_le (sB s) (n*2+j);have HY2:Hid (rdg 2 (sB s) n (j+1)=2*y+bitN (sB s) (n*2+j)):=by show _=_;rw [rdg,HY.out]
     have hy15:y≤15:=by
      have h:=rdg_le 2 (sB s) n j;rw [HY.out] at h
      have:2 ^ j≤2 ^ 2:=Nat.pow_le_pow_right de hj
      omega
     obtain ⟨d1,hd1⟩:∃d:Nat,bitN (sB s) (n*2+j)=d:=⟨_,rfl⟩
     rw [hd1] at HBT HY2 hb1;obtain ⟨p1,hp1⟩:∃p:Nat,n*2+j=p:=⟨_,rfl⟩
     rw [hp1] at HBT hpI;clear hd1 hp1
     go_wp2_with (go_at_call 251;(with_reducible refine HBT.out.mono ?_);rintro e w3 ⟨rfl,rfl⟩)
     refine ⟨?rel,?measure⟩
     case rel=>exact ⟨⟨j+1,2*y+d1,by omega,by go_num,by go_num,HY2⟩,by first |rfl |trivial⟩
     case measure=>(simp [intOf]<;>omega)
    ·obtain rfl:j=2:=by omega
     have hjI:¬((2:Nat):Int) < 2:=by omega
     rw [HRE.out n] at HY;have HDS:Hid (digs 2 (sB s) (n+1)=digs 2 (sB s) n++[(y:Int)]):=by show _=_;rw [yb9,HY.out]
     have hym:y≤3:=by rw [←HY.out];have:=dig_lt 2 (sB s) n;omega
     have HCS:Hid (cks 2 (sB s) (n+1)=c+(3 - y)):=by show _=_;rw [cks,HK.out,HY.out]
     have hc9:c+(3 - y)≤960:=by
      have h1:=cks_le 2 (sB s) (n+1);rw [HCS.out] at h1;simp at h1;omega
     have HK1:Hid (((digs 2 (sB s) n).length+1)*8≤140737488355328):=by show _≤_;rw [ybj];omega
     have HK2:Hid ((digs 2 (sB s) n).length+1≤maxLen):=by show _≤_;rw [ybj];unfold maxLen;omega
     have HSr:Hid (w.heap.size+1≤w2.heap.size):=HS.out▸HB2.out.size;have hcd:((c:Int)+4 - 1) - (y:Int)=((c+(3 - y):Nat):Int):=by omega
     have HCD:=lh hcd;clear hcd
     go_upto_region 12 with (at_builtin;(with_reducible refine ya4 (o:=⟨some 39,_,_,_,_,_⟩) rfl (.tmp 36) (.tmp 38) 27 rfl 3 i0 (.int .i64 0) 8 Tryz.underlying27 HI.out HZ0.out HZ1.out HZ2.out rfl _ (digs 2 (sB s) n) (w.heap.size+1) rfl HO2.out (y:Int) 1 rfl I1 HK1.out HK2.out HSr.out ?_);intro v5 w5 HO5 HG5 HV5;(have HB5:Hid (Below (w.heap.size+1) W1 w5):=HB2.out.trans (yaY HG5.out (fun j hj=>(World.ownsRow.lt HO2.out j hj).1) HSr.out)))
     obtain ⟨c0,c1⟩:=HC.out w5 HB5.out
     go_wp2_with (go_at_call 250;(with_reducible refine (HL.out _).mono ?_);rintro e w6 ⟨rfl,hb6⟩;(have HB6:Hid (Below (w.heap.size+1) W1 w6):=HB5.out.trans (hb6.mono (HS.out▸HB5.out.size)));(have HO6:Hid (Own I 3 w6 (w.heap.size+1) v5 (digs 2 (sB s) (n+1))):=HDS.out▸(HO5.out.on hb6));clear hb6)
     refine ⟨?rel,?measure⟩
     case rel=>exact ⟨n+1,c+(3 - y),by omega,by go_num,by rw [←HCD.out],hc9,HCS,HO6,HB6⟩
     case measure=>(simp [intOf]<;>omega)
  ·
   obtain rfl:n=128:=by omega
   have HO8:Hid (Own I 3 wr (w.heap.size+1) u5 (digs 2 (sB s) 128)):=HO;have HK8:Hid (cks 2 (sB s) 128=c):=HK;clear HO HK;have hltI:¬((128:Nat):Int) < 128:=by omega
   go_upto_region 14 with (first
    |(go_at_call 247;(with_reducible refine (HM.out _).mono ?_);rintro e w2 ⟨rfl,hb2⟩;(have HB2:Hid (Below (w.heap.size+1) W1 w2):=HBr.out.trans (hb2.mono (HS.out▸HBr.out.size)));(have HO2:Hid (Own I 3 w2 (w.heap.size+1) u5 (digs 2 (sB s) 128)):=HO8.out.on hb2);(obtain ⟨c0,c1⟩:=HC.out w2 HB2.out);clear hb2)
    |(go_at_call 248;(with_reducible refine (HCK.out _).mono ?_);rintro e w3 ⟨rfl,hb3⟩;(have HB3:Hid (Below (w.heap.size+1) W1 w3):=HB2.out.trans (hb3.mono (HS.out▸HB2.out.size)));(have HO3:Hid (Own I 3 w3 (w.heap.size+1) u5 (digs 2 (sB s) 128)):=HO2.out.on hb3);clear hb3))
   have HO9:Hid (Own I 3 w3 (w.heap.size+1) u5 (digs 2 (sB s) 128++cdigs 2 5 c 0)):=by show Own ..;rw [show cdigs 2 5 c 0=[] from rfl,List.append_nil];exact HO3.out
   clear c0 c1
   go_loopw [5,10] (fun v i wr=>∃j:Nat,j≤5∧i= .int .i64 ((5:Int) - 1 - (j:Int))∧Hid (Own I 3 wr (w.heap.size+1) v (digs 2 (sB s) 128++cdigs 2 5 c j))∧Hid (Below (w.heap.size+1) W1 wr)) (fun _ i _=>(intOf i+1).toNat)
   case atStart=>exact ⟨0,by omega,rfl,HO9,HB3⟩
   case round=>
    clear HO9 HB3 HO8 HO3 HO2 HB2 HBr;obtain ⟨j,hj,rfl,HO,HBr⟩:=hrel
    by_cases hjc:j < 5
    ·
     obtain ⟨pl,hpl⟩:∃pl:Nat,pl=5 - 1 - j:=⟨_,rfl⟩
     have hplI:((5:Int) - 1 - (j:Int))=(pl:Int):=by omega
     have HPL:=lh hpl;have hpl8:pl≤4:=by omega
     rw [hplI];clear hpl hplI
     go_upto_region 18 with fail
     obtain ⟨wo,rfl⟩:∃wo:World,wo=wr:=⟨_,rfl⟩
     go_loopw [11,12] (fun p k wr=>(∃m q:Nat,m≤pl∧k= .int .i64 m∧p= .int .i64 q∧Hid (4 ^ m=q))∧Hid (Own I 3 wr (w.heap.size+1) u5 (digs 2 (sB s) 128++cdigs 2 5 c j))∧Hid (Below (w.heap.size+1) W1 wr)) (fun _ k _=>pl - (intOf k).toNat)
     case atStart=>exact ⟨⟨0,1,by omega,rfl,rfl,rfl⟩,HO,HBr⟩
     case round=>
      clear HO HBr;obtain ⟨⟨m,q,hm,rfl,rfl,HQ⟩,HO,HBr⟩:=hrel;obtain ⟨c0,c1⟩:=HC.out _ HBr.out
      have hq256:q≤256:=by
       rw [←HQ.out];exact Nat.le_trans (Nat.pow_le_pow_right de (show m≤4 by omega)) de
      by_cases hmp:m < pl
      ·have hqm:(q:Int)*4=((q*4:Nat):Int):=by omega
       have HQM:=lh hqm;have HQ2:Hid (4 ^ (m+1)=q*4):=by show _=_;rw [Nat.pow_succ,HQ.out]
       clear hqm
       go_wp2_with (go_at_call 250;(with_reducible refine (HL.out _).mono ?_);rintro e w6 ⟨rfl,hb6⟩;(have HB6:Hid (Below (w.heap.size+1) W1 w6):=HBr.out.trans (hb6.mono (HS.out▸HBr.out.size)));(have HO6:Hid (Own I 3 w6 (w.heap.size+1) u5 (digs 2 (sB s) 128++cdigs 2 5 c j)):=HO.out.on hb6);clear hb6)
       refine ⟨?rel,?measure⟩
       case rel=>exact ⟨⟨m+1,q*4,by omega,by go_num,by rw [HQM.out],HQ2⟩,HO6,HB6⟩
       case measure=>(simp [intOf]<;>omega)
      ·obtain rfl:m=pl:=by omega
       have hq0:0 < q:=by rw [←HQ.out];exact Nat.pos_of_ne_zero sI
       obtain ⟨t1,ht1⟩:∃t,c / q=t:=⟨_,rfl⟩
       obtain ⟨d,hd⟩:∃d:Nat,cdig 2 5 c j=d:=⟨_,rfl⟩
       have hdx:d=t1 % 4:=by
        rw [←hd,←ht1,←HQ.out,HPL.out]
        show c / 2 ^ (2*(5 - 1 - j)) % 2 ^ 2=c / 4 ^ (5 - 1 - j) % 4
        rw [Nat.pow_mul]
       have hqI:(c:Int).tdiv (q:Int)=(t1:Int):=by rw [←ht1];rfl
       have hqII:(c:Int) / (q:Int)=(t1:Int):=by rw [←ht1];simp
       have htb:t1≤960:=by rw [←ht1];exact Nat.le_trans (Nat.div_le_self _ _) hcc
       have hdI:(t1:Int).tmod 4=(d:Int):=by rw [hdx];rfl
       have hdII:(t1:Int) % 4=(d:Int):=by rw [hdx];simp
       have hwt:IntKind.i64.wrap (t1:Int)=t1:=IntWalk.i64_in _ om;have hqne:¬(q:Int)=0:=by omega
       have hqn:¬q=0:=by omega
       have HDS:Hid (digs 2 (sB s) 128++cdigs 2 5 c (j+1)=(digs 2 (sB s) 128++cdigs 2 5 c j)++[(d:Int)]):=by
        show _=_
        rw [ybV,hd,List.append_assoc]
       obtain ⟨ls,hls⟩:∃ls,digs 2 (sB s) 128++cdigs 2 5 c j=ls:=⟨_,rfl⟩
       have HLL:Hid (ls.length=128+j):=by show _=_;rw [←hls,List.length_append,ybj,ybY]
       rw [hls] at HO HDS;have HK1:Hid ((ls.length+1)*8≤140737488355328):=by show _≤_;rw [HLL.out];omega
       have HK2:Hid (ls.length+1≤maxLen):=by show _≤_;rw [HLL.out];unfold maxLen;omega
       have HBc:=HBr;have HSr:Hid (w.heap.size+1≤wr.heap.size):=HS.out▸HBr.out.size;have HDX:=lh hdx;have HPM:=HPL;clear ht1 hd hdx hls HQ
       go_upto_region 21 with fail
       refine wp_region_held_drew (S:=(fun w'=>w'.cell? ⟨w.heap.size,0,none⟩=some (.int .i64 2)∧w'.cell? ⟨w.heap.size,1,none⟩=some (.int .i64 32))) yaV yad (fun hHeld=>?_);refine tkY 0 ?_;refine tkY 1 ?_;refine tkY 2 ?_;refine tkY 3 ?_;refine tkY 4 ?_;refine rd1 5 (fun K hK=>?_)
       (go_simp;go_at_call 250;(with_reducible refine (HL.out _).mono ?_);rintro e w4 ⟨rfl,hb4⟩;(have HBc:Hid (Below (w.heap.size+1) W1 w4):=HBr.out.trans (Below.mono (Below.trans (B:=wr.heap.size) yaA hb4) HSr.out));(have HS4:Hid (w.heap.size+1≤w4.heap.size):=Nat.le_trans HSr.out hb4.size);(have HO4:Hid (Own I 3 w4 (w.heap.size+1) u5 (ls)):=HO.out.on (Below.trans (B:=wr.heap.size) yaA hb4));clear hb4;go_wp2_with fail)
       refine hK.out _ _ yad (fun hHeldq25=>?_);clear hK K hHeld
       try simp only [pt]
       refine tkY 6 ?_;refine rd1 7 (fun K hK=>?_)
       go_simp
       refine hK.out _ _ yad (fun hHeldq27=>?_);clear hK K hHeldq25
       try simp only [pt]
       refine rd1 8 (fun K hK=>?_)
       ((refine ybv (f:=I) (.tmp 63) (.tmp 70) 27 rfl rfl 3 i0 (.int .i64 0) 8 Tryz.underlying27 HI.out HZ0.out HZ1.out HZ2.out rfl ls (w.heap.size+1) ?hown [(d:Int)] ?hrow I1 HK1.out HK2.out ?hbase ?_);(case hown=>exact HO4.out.alloc _);(case hrow=>exact ⟨_,_,1,1,rfl,rfl,SL.of_block (t:=3) (fr:=(0,0)) (heap_alloc_new _ _) (Nat.lt_succ_self _)⟩);(case hbase=>have:=HS4.out;simp;omega);(intro v7 w7 HT7 HG7 HV7 HB7);(have HBd:Hid (Below (w.heap.size+1) W1 w7):=HB7.out (w.heap.size+1) W1 (HBc.out.alloc HS4.out _) nl))
       refine hK.out _ _ yad (fun hHeldq28=>?_);clear hK K hHeldq27
       try simp only [pt]
       refine tkY 9 ?_;refine wpAnyH_done yaV ?_ _;clear hqI hqII hdI hdII hwt;obtain ⟨c0,c1⟩:=HC.out w7 HBd.out;have HO7:Hid (Own I 3 w7 (w.heap.size+1) v7 (digs 2 (sB s) 128++cdigs 2 5 c (j+1))):=HDS.out▸HT7.out;go_wp2;refine ⟨?rel,?measure⟩
       case rel=>exact ⟨j+1,by omega,yaJ,HO7,HBd⟩
       case measure=>(have:=HPM.out;simp [intOf]<;>omega)
    ·obtain rfl:j=5:=by omega
     have HO7:Hid (Own I 3 wr (w.heap.size+1) u5 (dgF 2 (sB s))):=by
      show Own ..
      have h:dgF 2 (sB s)=digs 2 (sB s) 128++cdigs 2 5 c 5:=by
       rw [←HK8.out];rfl
      rw [h];exact HO.out
     have hng:¬(0:Int)≤(5:Int) - 1 - ((5:Nat):Int):=by omega
     go_wp2;go_ret;exact ⟨_,rfl,ybx HO7.out (Nat.le_succ _),HB.out.trans (HBr.out.mono (Nat.le_succ _))⟩
theorem rdigits_4 (s:ByteArray) (hs:s.size=32) (w:World):
 Calls Tryz.prog 208 #[.agg (cPm 4),.string s] w fun e w'=>∃v,e= .returned v∧Own I 3 w' w.heap.size v (dgF 4 (sB s))∧Below w.heap.size w w':=by
 obtain ⟨i0,hi,hz0,hz1,hz2⟩:=info_parts Tryz.info3;have HI:=lh hi;have HZ0:=lh hz0;have HZ1:=lh hz1;have HZ2:=lh hz2;have hsb:∀x∈sB s,0≤x∧x < 256:=fun x hx=>ybr s x hx
 have HRE:Hid (∀i,rdg 4 (sB s) i 4=dig 4 (sB s) i):=fun i=>rdg_eq 4 (sB s) i om hsb
 have HB:Hid (Below w.heap.size w (w.alloc (.cells (cPm 4) 233))):=bl;obtain ⟨W1,hW1⟩:∃W1:World,W1=w.alloc (.cells (cPm 4) 233):=⟨_,rfl⟩
 have hsz:W1.heap.size=w.heap.size+1:=by rw [hW1];simp
 have hge:W1.heap[w.heap.size]? =some (.cells (cPm 4) 233 (0,0)):=by rw [hW1];exact heap_alloc_new w _
 have HC:Hid (∀V,Below (w.heap.size+1) W1 V→V.cell? ⟨w.heap.size,0,none⟩=some (.int .i64 4)∧V.cell? ⟨w.heap.size,1,none⟩=some (.int .i64 32)):=fun V hv=>by
  have q:=(hv.block w.heap.size (Nat.lt_succ_self _)).trans hge;refine ⟨?_,?_⟩<;>(rw [cell_of_row V _ _ _ _ _ q];rfl)
 rw [←hW1] at HB;have HS:=lh hsz;have HWE:=lh hW1;have HBc:Hid (Below (w.heap.size+1) W1 W1):=Below.refl _ _;clear hge hsz hW1;have hb:BitN 4 4:=by unfold BitN;omega
 have HL:=lh (fun W=>ybZ 4 4 hb W);have HM:=lh (fun W=>yb0 4 4 hb W);rw [show mNI 4=64 from rfl] at HM;rw [show bsF 4=16 from rfl] at HL;obtain ⟨c0,c1⟩:=HC.out W1 br;have HCK:=lh (fun W=>rcheck_4 W);have HBI:=lh (fun i (hi:i < 256) W=>rbit_any s hs i hi W);clear hi hz0 hz1 hz2 hs hsb;go_enter Tryz.func208,Tryz.ntmps208
 go_upto_region 1 with fail
 rw [←HWE.out]
 go_upto_region 4 with fail
 have HO0:Hid (Own I 3 W1 (w.heap.size+1) (.slice none 0 0) (digs 4 (sB s) 0)):=Own.nil
 go_loopw [5,6,7] (fun v c i wr=>∃n c':Nat,n≤64∧i= .int .i64 n∧c= .int .i64 c'∧c'≤960∧Hid (cks 4 (sB s) n=c')∧Hid (Own I 3 wr (w.heap.size+1) v (digs 4 (sB s) n))∧Hid (Below (w.heap.size+1) W1 wr)) (fun _ _ i _=>64 - (intOf i).toNat)
 case atStart=>exact ⟨0,0,by omega,rfl,rfl,by omega,rfl,HO0,HBc⟩
 case round=>
  clear HBc c0 c1 HO0;obtain ⟨n,c,hn,rfl,rfl,hcc,HK,HO,HBr⟩:=hrel;obtain ⟨c0,c1⟩:=HC.out wr HBr.out
  by_cases hlt:n < 64
  ·
   have hltI:(n:Int) < 64:=by omega
   go_upto_region 8 with (go_at_call 247;(with_reducible refine (HM.out _).mono ?_);rintro e w2 ⟨rfl,hb2⟩;(have HB2:Hid (Below (w.heap.size+1) W1 w2):=HBr.out.trans (hb2.mono (HS.out▸HBr.out.size)));(have HO2:Hid (Own I 3 w2 (w.heap.size+1) u5 (digs 4 (sB s) n)):=HO.out.on hb2);clear hb2)
   clear c0 c1
   go_loopw [8,9] (fun d k wq=>(∃j y:Nat,j≤4∧k= .int .i64 j∧d= .int .i64 y∧Hid (rdg 4 (sB s) n j=y))∧w2=wq) (fun _ k _=>4 - (intOf k).toNat)
   case atStart=>exact ⟨⟨0,0,by omega,rfl,rfl,rfl⟩,rfl⟩
   case round=>
    obtain ⟨⟨j,y,hj,rfl,rfl,HY⟩,rfl⟩:=hrel;obtain ⟨c0,c1⟩:=HC.out w2 HB2.out
    by_cases hjb:j < 4
    ·have hjI:(j:Int) < 4:=by omega
     have hp:n*4+j < 256:=by omega
     have hpI:(n:Int)*4+(j:Int)=((n*4+j:Nat):Int):=by omega
     have HBT:=lh (HBI.out (n*4+j) hp w2);have hb1:=bitN_le (sB s) (n*4+j);have HY2:Hid (rdg 4 (sB s) n (j+1)=2*y+bitN (sB s) (n*4+j)):=by show _=_;rw [rdg,HY.out]
     have hy15:y≤15:=by
      have h:=rdg_le 4 (sB s) n j;rw [HY.out] at h
      have:2 ^ j≤2 ^ 4:=Nat.pow_le_pow_right de hj
      omega
     obtain ⟨d1,hd1⟩:∃d:Nat,bitN (sB s) (n*4+j)=d:=⟨_,rfl⟩
     rw [hd1] at HBT HY2 hb1;obtain ⟨p1,hp1⟩:∃p:Nat,n*4+j=p:=⟨_,rfl⟩
     rw [hp1] at HBT hpI;clear hd1 hp1
     go_wp2_with (go_at_call 251;(with_reducible refine HBT.out.mono ?_);rintro e w3 ⟨rfl,rfl⟩)
     refine ⟨?rel,?measure⟩
     case rel=>exact ⟨⟨j+1,2*y+d1,by omega,by go_num,by go_num,HY2⟩,by first |rfl |trivial⟩
     case measure=>(simp [intOf]<;>omega)
    ·obtain rfl:j=4:=by omega
     have hjI:¬((4:Nat):Int) < 4:=by omega
     rw [HRE.out n] at HY;have HDS:Hid (digs 4 (sB s) (n+1)=digs 4 (sB s) n++[(y:Int)]):=by show _=_;rw [yb9,HY.out]
     have hym:y≤15:=by rw [←HY.out];have:=dig_lt 4 (sB s) n;omega
     have HCS:Hid (cks 4 (sB s) (n+1)=c+(15 - y)):=by show _=_;rw [cks,HK.out,HY.out]
     have hc9:c+(15 - y)≤960:=by
      have h1:=cks_le 4 (sB s) (n+1);rw [HCS.out] at h1;simp at h1;omega
     have HK1:Hid (((digs 4 (sB s) n).length+1)*8≤140737488355328):=by show _≤_;rw [ybj];omega
     have HK2:Hid ((digs 4 (sB s) n).length+1≤maxLen):=by show _≤_;rw [ybj];unfold maxLen;omega
     have HSr:Hid (w.heap.size+1≤w2.heap.size):=HS.out▸HB2.out.size;have hcd:((c:Int)+16 - 1) - (y:Int)=((c+(15 - y):Nat):Int):=by omega
     have HCD:=lh hcd;clear hcd
     go_upto_region 12 with (at_builtin;(with_reducible refine ya4 (o:=⟨some 39,_,_,_,_,_⟩) rfl (.tmp 36) (.tmp 38) 27 rfl 3 i0 (.int .i64 0) 8 Tryz.underlying27 HI.out HZ0.out HZ1.out HZ2.out rfl _ (digs 4 (sB s) n) (w.heap.size+1) rfl HO2.out (y:Int) 1 rfl I1 HK1.out HK2.out HSr.out ?_);intro v5 w5 HO5 HG5 HV5;(have HB5:Hid (Below (w.heap.size+1) W1 w5):=HB2.out.trans (yaY HG5.out (fun j hj=>(World.ownsRow.lt HO2.out j hj).1) HSr.out)))
     obtain ⟨c0,c1⟩:=HC.out w5 HB5.out
     go_wp2_with (go_at_call 250;(with_reducible refine (HL.out _).mono ?_);rintro e w6 ⟨rfl,hb6⟩;(have HB6:Hid (Below (w.heap.size+1) W1 w6):=HB5.out.trans (hb6.mono (HS.out▸HB5.out.size)));(have HO6:Hid (Own I 3 w6 (w.heap.size+1) v5 (digs 4 (sB s) (n+1))):=HDS.out▸(HO5.out.on hb6));clear hb6)
     refine ⟨?rel,?measure⟩
     case rel=>exact ⟨n+1,c+(15 - y),by omega,by go_num,by rw [←HCD.out],hc9,HCS,HO6,HB6⟩
     case measure=>(simp [intOf]<;>omega)
  ·
   obtain rfl:n=64:=by omega
   have HO8:Hid (Own I 3 wr (w.heap.size+1) u5 (digs 4 (sB s) 64)):=HO;have HK8:Hid (cks 4 (sB s) 64=c):=HK;clear HO HK;have hltI:¬((64:Nat):Int) < 64:=by omega
   go_upto_region 14 with (first
    |(go_at_call 247;(with_reducible refine (HM.out _).mono ?_);rintro e w2 ⟨rfl,hb2⟩;(have HB2:Hid (Below (w.heap.size+1) W1 w2):=HBr.out.trans (hb2.mono (HS.out▸HBr.out.size)));(have HO2:Hid (Own I 3 w2 (w.heap.size+1) u5 (digs 4 (sB s) 64)):=HO8.out.on hb2);(obtain ⟨c0,c1⟩:=HC.out w2 HB2.out);clear hb2)
    |(go_at_call 248;(with_reducible refine (HCK.out _).mono ?_);rintro e w3 ⟨rfl,hb3⟩;(have HB3:Hid (Below (w.heap.size+1) W1 w3):=HB2.out.trans (hb3.mono (HS.out▸HB2.out.size)));(have HO3:Hid (Own I 3 w3 (w.heap.size+1) u5 (digs 4 (sB s) 64)):=HO2.out.on hb3);clear hb3))
   have HO9:Hid (Own I 3 w3 (w.heap.size+1) u5 (digs 4 (sB s) 64++cdigs 4 3 c 0)):=by show Own ..;rw [show cdigs 4 3 c 0=[] from rfl,List.append_nil];exact HO3.out
   clear c0 c1
   go_loopw [5,10] (fun v i wr=>∃j:Nat,j≤3∧i= .int .i64 ((3:Int) - 1 - (j:Int))∧Hid (Own I 3 wr (w.heap.size+1) v (digs 4 (sB s) 64++cdigs 4 3 c j))∧Hid (Below (w.heap.size+1) W1 wr)) (fun _ i _=>(intOf i+1).toNat)
   case atStart=>exact ⟨0,by omega,rfl,HO9,HB3⟩
   case round=>
    clear HO9 HB3 HO8 HO3 HO2 HB2 HBr;obtain ⟨j,hj,rfl,HO,HBr⟩:=hrel
    by_cases hjc:j < 3
    ·
     obtain ⟨pl,hpl⟩:∃pl:Nat,pl=3 - 1 - j:=⟨_,rfl⟩
     have hplI:((3:Int) - 1 - (j:Int))=(pl:Int):=by omega
     have HPL:=lh hpl;have hpl8:pl≤2:=by omega
     rw [hplI];clear hpl hplI
     go_upto_region 18 with fail
     obtain ⟨wo,rfl⟩:∃wo:World,wo=wr:=⟨_,rfl⟩
     go_loopw [11,12] (fun p k wr=>(∃m q:Nat,m≤pl∧k= .int .i64 m∧p= .int .i64 q∧Hid (16 ^ m=q))∧Hid (Own I 3 wr (w.heap.size+1) u5 (digs 4 (sB s) 64++cdigs 4 3 c j))∧Hid (Below (w.heap.size+1) W1 wr)) (fun _ k _=>pl - (intOf k).toNat)
     case atStart=>exact ⟨⟨0,1,by omega,rfl,rfl,rfl⟩,HO,HBr⟩
     case round=>
      clear HO HBr;obtain ⟨⟨m,q,hm,rfl,rfl,HQ⟩,HO,HBr⟩:=hrel;obtain ⟨c0,c1⟩:=HC.out _ HBr.out
      have hq256:q≤256:=by
       rw [←HQ.out];exact Nat.le_trans (Nat.pow_le_pow_right de (show m≤2 by omega)) de
      by_cases hmp:m < pl
      ·have hqm:(q:Int)*16=((q*16:Nat):Int):=by omega
       have HQM:=lh hqm;have HQ2:Hid (16 ^ (m+1)=q*16):=by show _=_;rw [Nat.pow_succ,HQ.out]
       clear hqm
       go_wp2_with (go_at_call 250;(with_reducible refine (HL.out _).mono ?_);rintro e w6 ⟨rfl,hb6⟩;(have HB6:Hid (Below (w.heap.size+1) W1 w6):=HBr.out.trans (hb6.mono (HS.out▸HBr.out.size)));(have HO6:Hid (Own I 3 w6 (w.heap.size+1) u5 (digs 4 (sB s) 64++cdigs 4 3 c j)):=HO.out.on hb6);clear hb6)
       refine ⟨?rel,?measure⟩
       case rel=>exact ⟨⟨m+1,q*16,by omega,by go_num,by rw [HQM.out],HQ2⟩,HO6,HB6⟩
       case measure=>(simp [intOf]<;>omega)
      ·obtain rfl:m=pl:=by omega
       have hq0:0 < q:=by rw [←HQ.out];exact Nat.pos_of_ne_zero sI
       obtain ⟨t1,ht1⟩:∃t,c / q=t:=⟨_,rfl⟩
       obtain ⟨d,hd⟩:∃d:Nat,cdig 4 3 c j=d:=⟨_,rfl⟩
       have hdx:d=t1 % 16:=by
        rw [←hd,←ht1,←HQ.out,HPL.out]
        show c / 2 ^ (4*(3 - 1 - j)) % 2 ^ 4=c / 16 ^ (3 - 1 - j) % 16
        rw [Nat.pow_mul]
       have hqI:(c:Int).tdiv (q:Int)=(t1:Int):=by rw [←ht1];rfl
       have hqII:(c:Int) / (q:Int)=(t1:Int):=by rw [←ht1];simp
       have htb:t1≤960:=by rw [←ht1];exact Nat.le_trans (Nat.div_le_self _ _) hcc
       have hdI:(t1:Int).tmod 16=(d:Int):=by rw [hdx];rfl
       have hdII:(t1:Int) % 16=(d:Int):=by rw [hdx];simp
       have hwt:IntKind.i64.wrap (t1:Int)=t1:=IntWalk.i64_in _ om;have hqne:¬(q:Int)=0:=by omega
       have hqn:¬q=0:=by omega
       have HDS:Hid (digs 4 (sB s) 64++cdigs 4 3 c (j+1)=(digs 4 (sB s) 64++cdigs 4 3 c j)++[(d:Int)]):=by
        show _=_
        rw [ybV,hd,List.append_assoc]
       obtain ⟨ls,hls⟩:∃ls,digs 4 (sB s) 64++cdigs 4 3 c j=ls:=⟨_,rfl⟩
       have HLL:Hid (ls.length=64+j):=by show _=_;rw [←hls,List.length_append,ybj,ybY]
       rw [hls] at HO HDS;have HK1:Hid ((ls.length+1)*8≤140737488355328):=by show _≤_;rw [HLL.out];omega
       have HK2:Hid (ls.length+1≤maxLen):=by show _≤_;rw [HLL.out];unfold maxLen;omega
       have HBc:=HBr;have HSr:Hid (w.heap.size+1≤wr.heap.size):=HS.out▸HBr.out.size;have HDX:=lh hdx;have HPM:=HPL;clear ht1 hd hdx hls HQ
       go_upto_region 21 with fail
       refine wp_region_held_drew (S:=(fun w'=>w'.cell? ⟨w.heap.size,0,none⟩=some (.int .i64 4)∧w'.cell? ⟨w.heap.size,1,none⟩=some (.int .i64 32))) yaV yad (fun hHeld=>?_);refine tkY 0 ?_;refine tkY 1 ?_;refine tkY 2 ?_;refine tkY 3 ?_;refine tkY 4 ?_;refine rd1 5 (fun K hK=>?_)
       (go_simp;go_at_call 250;(with_reducible refine (HL.out _).mono ?_);rintro e w4 ⟨rfl,hb4⟩;(have HBc:Hid (Below (w.heap.size+1) W1 w4):=HBr.out.trans (Below.mono (Below.trans (B:=wr.heap.size) yaA hb4) HSr.out));(have HS4:Hid (w.heap.size+1≤w4.heap.size):=Nat.le_trans HSr.out hb4.size);(have HO4:Hid (Own I 3 w4 (w.heap.size+1) u5 (ls)):=HO.out.on (Below.trans (B:=wr.heap.size) yaA hb4));clear hb4;go_wp2_with fail)
       refine hK.out _ _ yad (fun hHeldq45=>?_);clear hK K hHeld
       try simp only [pt]
       refine tkY 6 ?_;refine rd1 7 (fun K hK=>?_)
       go_simp
       refine hK.out _ _ yad (fun hHeldq47=>?_);clear hK K hHeldq45
       try simp only [pt]
       refine rd1 8 (fun K hK=>?_)
       ((refine ybv (f:=I) (.tmp 63) (.tmp 70) 27 rfl rfl 3 i0 (.int .i64 0) 8 Tryz.underlying27 HI.out HZ0.out HZ1.out HZ2.out rfl ls (w.heap.size+1) ?hown [(d:Int)] ?hrow I1 HK1.out HK2.out ?hbase ?_);(case hown=>exact HO4.out.alloc _);(case hrow=>exact ⟨_,_,1,1,rfl,rfl,SL.of_block (t:=3) (fr:=(0,0)) (heap_alloc_new _ _) (Nat.lt_succ_self _)⟩);(case hbase=>have:=HS4.out;simp;omega);(intro v7 w7 HT7 HG7 HV7 HB7);(have HBd:Hid (Below (w.heap.size+1) W1 w7):=HB7.out (w.heap.size+1) W1 (HBc.out.alloc HS4.out _) nl))
       refine hK.out _ _ yad (fun hHeldq48=>?_);clear hK K hHeldq47
       try simp only [pt]
       refine tkY 9 ?_;refine wpAnyH_done yaV ?_ _;clear hqI hqII hdI hdII hwt;obtain ⟨c0,c1⟩:=HC.out w7 HBd.out;have HO7:Hid (Own I 3 w7 (w.heap.size+1) v7 (digs 4 (sB s) 64++cdigs 4 3 c (j+1))):=HDS.out▸HT7.out;go_wp2;refine ⟨?rel,?measure⟩
       case rel=>exact ⟨j+1,by omega,yaJ,HO7,HBd⟩
       case measure=>(have:=HPM.out;simp [intOf]<;>omega)
    ·obtain rfl:j=3:=by omega
     have HO7:Hid (Own I 3 wr (w.heap.size+1) u5 (dgF 4 (sB s))):=by
      show Own ..
      have h:dgF 4 (sB s)=digs 4 (sB s) 64++cdigs 4 3 c 3:=by
       rw [←HK8.out];rfl
      rw [h];exact HO.out
     have hng:¬(0:Int)≤(3:Int) - 1 - ((3:Nat):Int):=by omega
     go_wp2;go_ret;exact ⟨_,rfl,ybx HO7.out (Nat.le_succ _),HB.out.trans (HBr.out.mono (Nat.le_succ _))⟩
theorem rdigits_any (b:Int) (β:Nat) (hb:BitN b β) (s:ByteArray) (hs:s.size=32) (w:World):
 Calls Tryz.prog 208 #[.agg (cPm b),.string s] w fun e w'=>∃v,e= .returned v∧Own I 3 w' w.heap.size v (dgF β (sB s))∧Below w.heap.size w w':=by
 rcases hb with ⟨rfl,rfl⟩ |⟨rfl,rfl⟩ |⟨rfl,rfl⟩
 ·exact rdigits_1 s hs w
 ·exact rdigits_2 s hs w
 ·exact rdigits_4 s hs w
