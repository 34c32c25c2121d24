/- One-time signatures: the digits of a digest. -/
import Derived.Test.YtpdledjgbgalcaaGreatDoorPe
import Derived.Deep.RegionHeld3
import Derived.StillTailTactics
namespace Go.Proofs.YtpdledjgbgalcaaGreatDoor
set_option maxRecDepth 100000
set_option maxHeartbeats 8000000
open Go.RowKit Go.Lib
set_option linter.unusedVariables false
set_option linter.unusedSimpArgs false
theorem ybx {w:World} {base base':Nat} {e:TypeId} {size:Nat} {v:Value} {n:Nat} {xs:List Value} (h:w.ownsRow base e size v n xs) (hb:base'≤base):w.ownsRow base' e size v n xs:=by
 refine ⟨h.1,?_⟩;rcases h.2 with hn |⟨g,cap,cur,hv,hbg,rest⟩
 ·exact .inl hn
 ·exact .inr ⟨g,cap,cur,hv,Nat.le_trans hb hbg,rest⟩
theorem sB_getD {s:ByteArray} {i:Nat} (h:i < s.size):(sB s).getD i 0=(s[i].toNat:Int):=by
 unfold sB;rw [List.getD_eq_getElem?_getD,List.getElem?_map,Array.getElem?_toList,Array.getElem?_eq_getElem (by exact h)]
 rfl
theorem dig_at {s:ByteArray} {n j:Nat} (β per:Nat) (hp:perB β=per) (h:n < s.size) (hj:j < per):dig β (sB s) (n*per+j)=s[n].toNat / 2 ^ (8 - β*(j+1)) % 2 ^ β:=by
 unfold dig;rw [hp]
 have e1:(n*per+j) / per=n:=by
  rw [Nat.mul_comm,Nat.mul_add_div om,Nat.div_eq_of_lt hj,Nat.add_zero]
 have e2:(n*per+j) % per=j:=by
  rw [Nat.mul_comm,Nat.mul_add_mod,Nat.mod_eq_of_lt hj]
 rw [e1,e2,sB_getD h]
 rfl
theorem band_1 {a:Nat} (h:a < 1024):bits .and .i64 (a:Int) 1=((a % 2:Nat):Int):=by
 have hall:∀a:Fin 1024,bits .and .i64 (a.val:Int) 1=((a.val % 2:Nat):Int):=by decide+kernel
 exact hall ⟨a,h⟩
theorem band_2 {a:Nat} (h:a < 1024):bits .and .i64 (a:Int) 3=((a % 4:Nat):Int):=by
 have hall:∀a:Fin 1024,bits .and .i64 (a.val:Int) 3=((a.val % 4:Nat):Int):=by decide+kernel
 exact hall ⟨a,h⟩
theorem band_4 {a:Nat} (h:a < 1024):bits .and .i64 (a:Int) 15=((a % 16:Nat):Int):=by
 have hall:∀a:Fin 1024,bits .and .i64 (a.val:Int) 15=((a.val % 16:Nat):Int):=by decide+kernel
 exact hall ⟨a,h⟩
theorem digits_1 (s:ByteArray) (hs:s.size=32) (w:World):
 Calls Tryz.prog 243 #[.agg (cPm 1),.string s] w fun e w'=>∃v,e= .returned (.tuple #[v,.int .i64 0])∧Own I 3 w' w.heap.size v (dgF 1 (sB s))∧Below w.heap.size w w':=by
 have hb:BitN 1 1:=by unfold BitN;omega
 obtain ⟨i0,hi,hz0,hz1,hz2⟩:=info_parts Tryz.info3;have HI:=lh hi;have HZ0:=lh hz0;have HZ1:=lh hz1;have HZ2:=lh hz2;have HB:Hid (Below w.heap.size w (w.alloc (.cells (cPm 1) 268))):=bl;have HL:=lh (fun W=>yct 1 1 hb W);have HVL:=lh (fun W=>ydf 1 1 hb W);have HCT:=lh (fun W=>ydg 1 1 hb W);obtain ⟨W1,hW1⟩:∃W1:World,W1=w.alloc (.cells (cPm 1) 268):=⟨_,rfl⟩
 have hsz:W1.heap.size=w.heap.size+1:=by rw [hW1];simp
 have hge:W1.heap[w.heap.size]? =some (.cells (cPm 1) 268 (0,0)):=by rw [hW1];exact heap_alloc_new w _
 have HC:Hid (∀V,Below (w.heap.size+1) W1 V→V.cell? ⟨w.heap.size,0,none⟩=some (.int .i64 1)∧V.cell? ⟨w.heap.size,1,none⟩=some (.int .i64 32)):=fun V hv=>by
  have q:=(hv.block w.heap.size (Nat.lt_succ_self _)).trans hge;refine ⟨?_,?_⟩<;>(rw [cell_of_row V _ _ _ _ _ q];rfl)
 rw [←hW1] at HB;have HS:=lh hsz;have HWE:=lh hW1;have hsI:(s.size:Int)=32:=by omega
 have hsI2:((s.size:Int) != 32)=false:=by simp [hs]
 have HSS:=lh hs;clear hge hsz hi hz0 hz1 hz2 hW1 hs;rw [show lsF 1=1 from rfl] at HL;rw [show mNI 1=256 from rfl,show cNI 1=9 from rfl] at HCT;obtain ⟨c0,c1⟩:=HC.out W1 br;have HM:Hid ((265:Int)=((265:Nat):Int)):=by show _=_;rfl
 have HM2:Hid (i0.bytes*265≤281474976710656):=by show _≤_;rw [HZ2.out];omega
 have HM3:Hid (265≤maxLen):=by show _≤_;unfold maxLen;omega
 go_enter Tryz.func243,Tryz.ntmps243
 go_upto_region 1 with fail
 rw [←HWE.out]
 go_upto_region 7 with (first
  |(go_at_call 263;(with_reducible refine (HVL.out _).mono ?_);rintro e w1 ⟨rfl,hb1⟩;(have HB1:Hid (Below (w.heap.size+1) W1 w1):=HS.out▸hb1);(obtain ⟨c0,c1⟩:=HC.out w1 HB1.out);clear hb1)
  |(go_at_call 264;(with_reducible refine (HCT.out _).mono ?_);rintro e w2 ⟨rfl,hb2⟩;(have HB2:Hid (Below (w.heap.size+1) W1 w2):=HB1.out.trans (hb2.mono (HS.out▸HB1.out.size)));(obtain ⟨c0,c1⟩:=HC.out w2 HB2.out);clear hb2)
  |(at_make;(refine wpList_make_own w2 (o:=⟨some 32,_,_,_,_,_⟩) rfl _ _ 27 rfl (w.heap.size+1) 3 i0 (.int .i64 0) 1 Tryz.underlying27 HI.out HZ0.out HZ1.out _ _ _ 265 rfl rfl HM.out HM2.out HM3.out (HS.out▸HB2.out.size) ?_);intro w3 hO3 hG3;(have HO3:Hid (Own I 3 w3 (w.heap.size+1) (.slice (some ⟨w2.heap.size,0,none⟩) 0 265) []):=hO3)))
 have HB3:Hid (Below (w.heap.size+1) W1 w3):=HB2.out.trans (yaY hG3 (fun k hk=>by cases hk) (HS.out▸HB2.out.size));clear hO3 hG3 HM HM2 HM3
 go_loopw [8,9,35] (fun v k i wr=>∃n:Nat,n≤32∧i= .int .i64 n∧(∃c:Nat,k= .int .i64 c∧c≤960∧Hid (cks 1 (sB s) (n*8)=c))∧Hid (Own I 3 wr (w.heap.size+1) v (digs 1 (sB s) (n*8)))∧Hid (Below (w.heap.size+1) W1 wr)) (fun _ _ i _=>32 - (intOf i).toNat)
 case atStart=>exact ⟨0,by omega,rfl,⟨0,rfl,by omega,rfl⟩,HO3,HB3⟩
 case round=>
  obtain ⟨n,hn,rfl,⟨c,rfl,hcc,HK⟩,HO,HBr⟩:=hrel
  by_cases hlt:n < 32
  ·
   have hltI:(n:Int) < 32:=by omega
   obtain ⟨c0,c1⟩:=HC.out wr HBr.out
   go_upto_region 10 with fail
   have HO0:Hid (Own I 3 wr (w.heap.size+1) u8 (digs 1 (sB s) (n*8+0))):=HO;have HK0:Hid (cks 1 (sB s) (n*8+0)=c):=HK;obtain ⟨wo,rfl⟩:∃wo:World,wo=wr:=⟨_,rfl⟩
   go_loopw [8,9,11] (fun v k i wr=>∃j:Nat,j≤8∧i= .int .i64 (8 - 1*((j:Int)+1))∧(∃c:Nat,k= .int .i64 c∧c≤960∧Hid (cks 1 (sB s) (n*8+j)=c))∧Hid (Own I 3 wr (w.heap.size+1) v (digs 1 (sB s) (n*8+j)))∧Hid (Below (w.heap.size+1) W1 wr)) (fun _ _ i _=>(intOf i+1).toNat)
   case atStart=>exact ⟨0,by omega,rfl,⟨c,rfl,hcc,HK0⟩,HO0,HBr⟩
   case round=>
    clear HO0 HK0 HO HK HBr hcc;obtain ⟨j,hj,rfl,⟨c,rfl,hcc,HK⟩,HO,HBr⟩:=hrel;obtain ⟨c0,c1⟩:=HC.out wr HBr.out
    by_cases hj8:j < 8
    ·
     obtain ⟨sh,hsh⟩:∃sh:Nat,sh=8 - 1*(j+1):=⟨_,rfl⟩
     have hshI:(8 - 1*((j:Int)+1))=(sh:Int):=by omega
     have HSH:=lh hsh;rw [hshI];have hsh7:sh≤7:=by omega
     have hns:n < s.size:=by rw [HSS.out];exact hlt
     obtain ⟨x,hx⟩:∃x:Nat,s[n].toNat=x:=⟨_,rfl⟩
     have hx255:x≤255:=by have:=s[n].toNat_lt;omega
     have hwx:IntKind.i64.wrap (x:Int)=x:=IntWalk.i64_in _ om;obtain ⟨d,hd⟩:∃d:Nat,dig 1 (sB s) (n*8+j)=d:=⟨_,rfl⟩
     have hdx:d=x / 2 ^ sh % 2 ^ 1:=by rw [←hd,dig_at 1 8 rfl hns hj8,hx,hsh]
     have hdm:d≤1:=by rw [hdx];have:=Nat.mod_lt (x / 2 ^ sh) (Nat.two_pow_pos 1);omega
     have hbd:bits .and .i64 ((x:Int) / 2 ^ sh) 1=(d:Int):=by
      have h1:x / 2 ^ sh < 1024:=Nat.lt_of_le_of_lt (Nat.div_le_self _ _) om;have h2:=band_1 h1;rw [hdx];simpa using h2
     have HD:=lh hd
     have HCK:Hid (cks 1 (sB s) (n*8+(j+1))=c+(1 - d)):=by
      show _=_
      rw [←Nat.add_assoc,cks,HK.out,hd]
     have hc9:c+(1 - d)≤960:=by
      have h1:=cks_le 1 (sB s) (n*8+(j+1));rw [HCK.out] at h1;simp at h1;omega
     have HDS:Hid (digs 1 (sB s) (n*8+(j+1))=digs 1 (sB s) (n*8+j)++[(d:Int)]):=by
      show _=_
      rw [←Nat.add_assoc,yb9,hd]
     have HK1:Hid (((digs 1 (sB s) (n*8+j)).length+1)*8≤140737488355328):=by show _≤_;rw [ybj];omega
     have HK2:Hid ((digs 1 (sB s) (n*8+j)).length+1≤maxLen):=by show _≤_;rw [ybj];unfold maxLen;omega
     have HBc:=HBr;have HSr:Hid (w.heap.size+1≤wr.heap.size):=HS.out▸HBr.out.size;clear hsh hshI hdx hd HK
     go_upto_region 12 with fail
     refine wp_region_held_drew (S:=(fun w'=>w'.cell? ⟨w.heap.size,0,none⟩=some (.int .i64 1)∧w'.cell? ⟨w.heap.size,1,none⟩=some (.int .i64 32))) yaV yaj (fun hHeld=>?_);refine tkY 0 ?_;refine tkY 1 ?_;refine tkY 2 ?_;refine tkY 3 ?_;refine tkY 4 ?_;refine tkY 5 ?_;refine tkY 6 ?_;refine rd1 7 (fun K hK=>?_)
     (go_simp;go_at_call 245;(with_reducible refine (HL.out _).mono ?_);rintro e w4 ⟨rfl,hb4⟩;(have HBc:Hid (Below (w.heap.size+1) W1 w4):=HBr.out.trans (Below.mono (Below.trans (B:=wr.heap.size) yaA hb4) HSr.out));(have HS4:Hid (w.heap.size+1≤w4.heap.size):=Nat.le_trans HSr.out hb4.size);(have HO4:Hid (Own I 3 w4 (w.heap.size+1) u8 (digs 1 (sB s) (n*8+j))):=HO.out.on (Below.trans (B:=wr.heap.size) yaA hb4));clear hb4;go_wp2_with fail)
     refine hK.out _ _ yaj (fun hHeldp17=>?_);clear hK K hHeld
     try simp only [pt]
     refine tkY 8 ?_;refine tkY 9 ?_;refine wpAnyH_done yaV ?_ _;clear hbd hwx;obtain ⟨c0,c1⟩:=HC.out w4 HBc.out
     go_upto_region 14 with (at_builtin;(with_reducible refine ya4 (o:=⟨some 59,_,_,_,_,_⟩) rfl (.tmp 56) (.tmp 58) 27 rfl 3 i0 (.int .i64 0) 8 Tryz.underlying27 HI.out HZ0.out HZ1.out HZ2.out rfl _ (digs 1 (sB s) (n*8+j)) (w.heap.size+1) rfl HO4.out (d:Int) 1 rfl I1 HK1.out HK2.out HS4.out ?_);intro v5 w5 HO5 HG5 HV5;(have HB5:Hid (Below (w.heap.size+1) W1 w5):=HBc.out.trans (yaY HG5.out (fun j hj=>(World.ownsRow.lt HO4.out j hj).1) HS4.out)))
     obtain ⟨c0,c1⟩:=HC.out w5 HB5.out;have hcd:(c:Int)+(1 - (d:Int))=((c+(1 - d):Nat):Int):=by omega
     have hcd2:(1 - (d:Int))≤15:=by omega
     have hcd3:0≤(1 - (d:Int)):=by omega
     have HCD:=lh hcd;clear hcd
     go_wp2_with (go_at_call 245;(with_reducible refine (HL.out _).mono ?_);rintro e w6 ⟨rfl,hb6⟩;(have HB6:Hid (Below (w.heap.size+1) W1 w6):=HB5.out.trans (hb6.mono (HS.out▸HB5.out.size)));(have HO6:Hid (Own I 3 w6 (w.heap.size+1) v5 (digs 1 (sB s) (n*8+(j+1)))):=HDS.out▸(HO5.out.on hb6));(obtain ⟨c0,c1⟩:=HC.out w6 HB6.out);clear hb6)
     refine ⟨?rel,?measure⟩
     case rel=>exact ⟨j+1,by omega,by (have:=HSH.out;refine congrArg (Value.int .i64) ?_;omega),⟨c+(1 - d),by rw [HCD.out],hc9,HCK⟩,HO6,HB6⟩
     case measure=>(have:=HSH.out;simp [intOf]<;>omega)
    ·obtain rfl:j=8:=by omega
     have HO7:Hid (Own I 3 wr (w.heap.size+1) u8 (digs 1 (sB s) ((n+1)*8))):=by show Own ..;rw [Nat.succ_mul];exact HO.out
     have HK7:Hid (cks 1 (sB s) ((n+1)*8)=c):=by show _=_;rw [Nat.succ_mul];exact HK.out
     have hng:¬(0:Int)≤8 - 1*(((8:Nat):Int)+1):=by omega
     go_wp2;refine ⟨?rel,?measure⟩
     case rel=>exact ⟨n+1,by omega,by go_num,⟨c,rfl,hcc,HK7⟩,HO7,HBr⟩
     case measure=>(simp [intOf]<;>omega)
  ·
   obtain rfl:n=32:=by omega
   have HO8:Hid (Own I 3 wr (w.heap.size+1) u8 (digs 1 (sB s) 256)):=HO;have HK8:Hid (cks 1 (sB s) 256=c):=HK;clear HO HK;have hltI:¬((32:Nat):Int) < 32:=by omega
   obtain ⟨c0,c1⟩:=HC.out wr HBr.out
   go_upto_region 17 with fail
   have HO9:Hid (Own I 3 wr (w.heap.size+1) u8 (digs 1 (sB s) 256++cdigs 1 9 c 0)):=by show Own ..;rw [show cdigs 1 9 c 0=[] from rfl,List.append_nil];exact HO8.out
   obtain ⟨wo,rfl⟩:∃wo:World,wo=wr:=⟨_,rfl⟩
   go_loopw [8,13] (fun v i wr=>∃j:Nat,j≤9∧i= .int .i64 ((9:Int) - 1 - (j:Int))∧Hid (Own I 3 wr (w.heap.size+1) v (digs 1 (sB s) 256++cdigs 1 9 c j))∧Hid (Below (w.heap.size+1) W1 wr)) (fun _ i _=>(intOf i+1).toNat)
   case atStart=>exact ⟨0,by omega,rfl,HO9,HBr⟩
   case round=>
    clear HO9 HBr HO8 c0 c1;obtain ⟨j,hj,rfl,HO,HBr⟩:=hrel;obtain ⟨c0,c1⟩:=HC.out wr HBr.out
    by_cases hjc:j < 9
    ·
     obtain ⟨pl,hpl⟩:∃pl:Nat,pl=9 - 1 - j:=⟨_,rfl⟩
     have hplI:((9:Int) - 1 - (j:Int))=(pl:Int):=by omega
     have HPL:=lh hpl;have hpl8:pl≤8:=by omega
     obtain ⟨sh,hsh⟩:∃sh:Nat,sh=1*pl:=⟨_,rfl⟩
     have hshI:(pl:Int)*1=(sh:Int):=by omega
     have hsh63:sh≤32:=by omega
     have hws:IntKind.i64.wrap (sh:Int)=sh:=IntWalk.i64_in _ om;rw [hplI];obtain ⟨d,hd⟩:∃d:Nat,cdig 1 9 c j=d:=⟨_,rfl⟩
     have hdx:d=c / 2 ^ sh % 2 ^ 1:=by rw [←hd,hsh,hpl];rfl
     have hdm:d≤1:=by rw [hdx];have:=Nat.mod_lt (c / 2 ^ sh) (Nat.two_pow_pos 1);omega
     have hbd:bits .and .i64 ((c:Int) / 2 ^ sh) 1=(d:Int):=by
      have h1:c / 2 ^ sh < 1024:=Nat.lt_of_le_of_lt (Nat.div_le_self _ _) om;have h2:=band_1 h1;rw [hdx];simpa using h2
     have HDS:Hid (digs 1 (sB s) 256++cdigs 1 9 c (j+1)=(digs 1 (sB s) 256++cdigs 1 9 c j)++[(d:Int)]):=by
      show _=_
      rw [ybV,hd,List.append_assoc]
     obtain ⟨ls,hls⟩:∃ls,digs 1 (sB s) 256++cdigs 1 9 c j=ls:=⟨_,rfl⟩
     have HLL:Hid (ls.length=256+j):=by show _=_;rw [←hls,List.length_append,ybj,ybY]
     rw [hls] at HO HDS;have HK1:Hid ((ls.length+1)*8≤140737488355328):=by show _≤_;rw [HLL.out];omega
     have HK2:Hid (ls.length+1≤maxLen):=by show _≤_;rw [HLL.out];unfold maxLen;omega
     have HBc:=HBr;have HSr:Hid (w.heap.size+1≤wr.heap.size):=HS.out▸HBr.out.size;clear hsh hdx hd hpl hplI hls
     go_upto_region 19 with fail
     refine wp_region_held_drew (S:=(fun w'=>w'.cell? ⟨w.heap.size,0,none⟩=some (.int .i64 1)∧w'.cell? ⟨w.heap.size,1,none⟩=some (.int .i64 32))) yaV yac (fun hHeld=>?_);refine tkY 0 ?_;refine tkY 1 ?_;refine tkY 2 ?_;refine tkY 3 ?_;refine tkY 4 ?_;refine tkY 5 ?_;refine tkY 6 ?_;refine tkY 7 ?_;refine rd1 8 (fun K hK=>?_)
     (go_simp;go_at_call 245;(with_reducible refine (HL.out _).mono ?_);rintro e w4 ⟨rfl,hb4⟩;(have HBc:Hid (Below (w.heap.size+1) W1 w4):=HBr.out.trans (Below.mono (Below.trans (B:=wr.heap.size) yaA hb4) HSr.out));(have HS4:Hid (w.heap.size+1≤w4.heap.size):=Nat.le_trans HSr.out hb4.size);(have HO4:Hid (Own I 3 w4 (w.heap.size+1) u8 (ls)):=HO.out.on (Below.trans (B:=wr.heap.size) yaA hb4));clear hb4;go_wp2_with fail)
     refine hK.out _ _ yac (fun hHeldq18=>?_);clear hK K hHeld
     try simp only [pt]
     refine tkY 9 ?_;refine rd1 10 (fun K hK=>?_)
     go_simp
     refine hK.out _ _ yac (fun hHeldq110=>?_);clear hK K hHeldq18
     try simp only [pt]
     refine rd1 11 (fun K hK=>?_)
     ((refine ybv (f:=I) (.tmp 73) (.tmp 83) 27 rfl rfl 3 i0 (.int .i64 0) 8 Tryz.underlying27 HI.out HZ0.out HZ1.out HZ2.out rfl ls (w.heap.size+1) ?hown [(d:Int)] ?hrow I1 HK1.out HK2.out ?hbase ?_);(case hown=>exact HO4.out.alloc _);(case hrow=>exact ⟨_,_,1,1,rfl,rfl,SL.of_block (t:=3) (fr:=(0,0)) (heap_alloc_new _ _) (Nat.lt_succ_self _)⟩);(case hbase=>have:=HS4.out;simp;omega);(intro v7 w7 HT7 HG7 HV7 HB7);(have HBd:Hid (Below (w.heap.size+1) W1 w7):=HB7.out (w.heap.size+1) W1 (HBc.out.alloc HS4.out _) nl))
     refine hK.out _ _ yac (fun hHeldq111=>?_);clear hK K hHeldq110
     try simp only [pt]
     refine tkY 12 ?_;refine wpAnyH_done yaV ?_ _;clear hbd hshI hws;obtain ⟨c0,c1⟩:=HC.out w7 HBd.out;have HO7:Hid (Own I 3 w7 (w.heap.size+1) v7 (digs 1 (sB s) 256++cdigs 1 9 c (j+1))):=HDS.out▸HT7.out;go_wp2;refine ⟨?rel,?measure⟩
     case rel=>exact ⟨j+1,by omega,yaI,HO7,HBd⟩
     case measure=>(have:=HPL.out;simp [intOf]<;>omega)
    ·obtain rfl:j=9:=by omega
     have HO7:Hid (Own I 3 wr (w.heap.size+1) u8 (dgF 1 (sB s))):=by
      show Own ..
      have h:dgF 1 (sB s)=digs 1 (sB s) 256++cdigs 1 9 c 9:=by
       rw [←HK8.out];rfl
      rw [h];exact HO.out
     have hng:¬(0:Int)≤(9:Int) - 1 - ((9:Nat):Int):=by omega
     go_wp2;go_ret2;exact ⟨_,rfl,ybx HO7.out (Nat.le_succ _),HB.out.trans (HBr.out.mono (Nat.le_succ _))⟩
theorem digits_2 (s:ByteArray) (hs:s.size=32) (w:World):
 Calls Tryz.prog 243 #[.agg (cPm 2),.string s] w fun e w'=>∃v,e= .returned (.tuple #[v,.int .i64 0])∧Own I 3 w' w.heap.size v (dgF 2 (sB s))∧Below w.heap.size w w':=by
 have hb:BitN 2 2:=by unfold BitN;omega
 obtain ⟨i0,hi,hz0,hz1,hz2⟩:=info_parts Tryz.info3;have HI:=lh hi;have HZ0:=lh hz0;have HZ1:=lh hz1;have HZ2:=lh hz2;have HB:Hid (Below w.heap.size w (w.alloc (.cells (cPm 2) 268))):=bl;have HL:=lh (fun W=>yct 2 2 hb W);have HVL:=lh (fun W=>ydf 2 2 hb W);have HCT:=lh (fun W=>ydg 2 2 hb W);obtain ⟨W1,hW1⟩:∃W1:World,W1=w.alloc (.cells (cPm 2) 268):=⟨_,rfl⟩
 have hsz:W1.heap.size=w.heap.size+1:=by rw [hW1];simp
 have hge:W1.heap[w.heap.size]? =some (.cells (cPm 2) 268 (0,0)):=by rw [hW1];exact heap_alloc_new w _
 have HC:Hid (∀V,Below (w.heap.size+1) W1 V→V.cell? ⟨w.heap.size,0,none⟩=some (.int .i64 2)∧V.cell? ⟨w.heap.size,1,none⟩=some (.int .i64 32)):=fun V hv=>by
  have q:=(hv.block w.heap.size (Nat.lt_succ_self _)).trans hge;refine ⟨?_,?_⟩<;>(rw [cell_of_row V _ _ _ _ _ q];rfl)
 rw [←hW1] at HB;have HS:=lh hsz;have HWE:=lh hW1;have hsI:(s.size:Int)=32:=by omega
 have hsI2:((s.size:Int) != 32)=false:=by simp [hs]
 have HSS:=lh hs;clear hge hsz hi hz0 hz1 hz2 hW1 hs;rw [show lsF 2=3 from rfl] at HL;rw [show mNI 2=128 from rfl,show cNI 2=5 from rfl] at HCT;obtain ⟨c0,c1⟩:=HC.out W1 br;have HM:Hid ((133:Int)=((133:Nat):Int)):=by show _=_;rfl
 have HM2:Hid (i0.bytes*133≤281474976710656):=by show _≤_;rw [HZ2.out];omega
 have HM3:Hid (133≤maxLen):=by show _≤_;unfold maxLen;omega
 go_enter Tryz.func243,Tryz.ntmps243
 go_upto_region 1 with fail
 rw [←HWE.out]
 go_upto_region 7 with (first
  |(go_at_call 263;(with_reducible refine (HVL.out _).mono ?_);rintro e w1 ⟨rfl,hb1⟩;(have HB1:Hid (Below (w.heap.size+1) W1 w1):=HS.out▸hb1);(obtain ⟨c0,c1⟩:=HC.out w1 HB1.out);clear hb1)
  |(go_at_call 264;(with_reducible refine (HCT.out _).mono ?_);rintro e w2 ⟨rfl,hb2⟩;(have HB2:Hid (Below (w.heap.size+1) W1 w2):=HB1.out.trans (hb2.mono (HS.out▸HB1.out.size)));(obtain ⟨c0,c1⟩:=HC.out w2 HB2.out);clear hb2)
  |(at_make;(refine wpList_make_own w2 (o:=⟨some 32,_,_,_,_,_⟩) rfl _ _ 27 rfl (w.heap.size+1) 3 i0 (.int .i64 0) 1 Tryz.underlying27 HI.out HZ0.out HZ1.out _ _ _ 133 rfl rfl HM.out HM2.out HM3.out (HS.out▸HB2.out.size) ?_);intro w3 hO3 hG3;(have HO3:Hid (Own I 3 w3 (w.heap.size+1) (.slice (some ⟨w2.heap.size,0,none⟩) 0 133) []):=hO3)))
 have HB3:Hid (Below (w.heap.size+1) W1 w3):=HB2.out.trans (yaY hG3 (fun k hk=>by cases hk) (HS.out▸HB2.out.size));clear hO3 hG3 HM HM2 HM3
 go_loopw [8,9,35] (fun v k i wr=>∃n:Nat,n≤32∧i= .int .i64 n∧(∃c:Nat,k= .int .i64 c∧c≤960∧Hid (cks 2 (sB s) (n*4)=c))∧Hid (Own I 3 wr (w.heap.size+1) v (digs 2 (sB s) (n*4)))∧Hid (Below (w.heap.size+1) W1 wr)) (fun _ _ i _=>32 - (intOf i).toNat)
 case atStart=>exact ⟨0,by omega,rfl,⟨0,rfl,by omega,rfl⟩,HO3,HB3⟩
 case round=>
  obtain ⟨n,hn,rfl,⟨c,rfl,hcc,HK⟩,HO,HBr⟩:=hrel
  by_cases hlt:n < 32
  ·
   have hltI:(n:Int) < 32:=by omega
   obtain ⟨c0,c1⟩:=HC.out wr HBr.out
   go_upto_region 10 with fail
   have HO0:Hid (Own I 3 wr (w.heap.size+1) u8 (digs 2 (sB s) (n*4+0))):=HO;have HK0:Hid (cks 2 (sB s) (n*4+0)=c):=HK;obtain ⟨wo,rfl⟩:∃wo:World,wo=wr:=⟨_,rfl⟩
   go_loopw [8,9,11] (fun v k i wr=>∃j:Nat,j≤4∧i= .int .i64 (8 - 2*((j:Int)+1))∧(∃c:Nat,k= .int .i64 c∧c≤960∧Hid (cks 2 (sB s) (n*4+j)=c))∧Hid (Own I 3 wr (w.heap.size+1) v (digs 2 (sB s) (n*4+j)))∧Hid (Below (w.heap.size+1) W1 wr)) (fun _ _ i _=>(intOf i+1).toNat)
   case atStart=>exact ⟨0,by omega,rfl,⟨c,rfl,hcc,HK0⟩,HO0,HBr⟩
   case round=>
    clear HO0 HK0 HO HK HBr hcc;obtain ⟨j,hj,rfl,⟨c,rfl,hcc,HK⟩,HO,HBr⟩:=hrel;obtain ⟨c0,c1⟩:=HC.out wr HBr.out
    by_cases hj8:j < 4
    ·
     obtain ⟨sh,hsh⟩:∃sh:Nat,sh=8 - 2*(j+1):=⟨_,rfl⟩
     have hshI:(8 - 2*((j:Int)+1))=(sh:Int):=by omega
     have HSH:=lh hsh;rw [hshI];have hsh7:sh≤7:=by omega
     have hns:n < s.size:=by rw [HSS.out];exact hlt
     obtain ⟨x,hx⟩:∃x:Nat,s[n].toNat=x:=⟨_,rfl⟩
     have hx255:x≤255:=by have:=s[n].toNat_lt;omega
     have hwx:IntKind.i64.wrap (x:Int)=x:=IntWalk.i64_in _ om;obtain ⟨d,hd⟩:∃d:Nat,dig 2 (sB s) (n*4+j)=d:=⟨_,rfl⟩
     have hdx:d=x / 2 ^ sh % 2 ^ 2:=by rw [←hd,dig_at 2 4 rfl hns hj8,hx,hsh]
     have hdm:d≤3:=by rw [hdx];have:=Nat.mod_lt (x / 2 ^ sh) (Nat.two_pow_pos 2);omega
     have hbd:bits .and .i64 ((x:Int) / 2 ^ sh) 3=(d:Int):=by
      have h1:x / 2 ^ sh < 1024:=Nat.lt_of_le_of_lt (Nat.div_le_self _ _) om;have h2:=band_2 h1;rw [hdx];simpa using h2
     have HD:=lh hd
     have HCK:Hid (cks 2 (sB s) (n*4+(j+1))=c+(3 - d)):=by
      show _=_
      rw [←Nat.add_assoc,cks,HK.out,hd]
     have hc9:c+(3 - d)≤960:=by
      have h1:=cks_le 2 (sB s) (n*4+(j+1));rw [HCK.out] at h1;simp at h1;omega
     have HDS:Hid (digs 2 (sB s) (n*4+(j+1))=digs 2 (sB s) (n*4+j)++[(d:Int)]):=by
      show _=_
      rw [←Nat.add_assoc,yb9,hd]
     have HK1:Hid (((digs 2 (sB s) (n*4+j)).length+1)*8≤140737488355328):=by show _≤_;rw [ybj];omega
     have HK2:Hid ((digs 2 (sB s) (n*4+j)).length+1≤maxLen):=by show _≤_;rw [ybj];unfold maxLen;omega
     have HBc:=HBr;have HSr:Hid (w.heap.size+1≤wr.heap.size):=HS.out▸HBr.out.size;clear hsh hshI hdx hd HK
     go_upto_region 12 with fail
     refine wp_region_held_drew (S:=(fun w'=>w'.cell? ⟨w.heap.size,0,none⟩=some (.int .i64 2)∧w'.cell? ⟨w.heap.size,1,none⟩=some (.int .i64 32))) yaV yaj (fun hHeld=>?_);refine tkY 0 ?_;refine tkY 1 ?_;refine tkY 2 ?_;refine tkY 3 ?_;refine tkY 4 ?_;refine tkY 5 ?_;refine tkY 6 ?_;refine rd1 7 (fun K hK=>?_)
     (go_simp;go_at_call 245;(with_reducible refine (HL.out _).mono ?_);rintro e w4 ⟨rfl,hb4⟩;(have HBc:Hid (Below (w.heap.size+1) W1 w4):=HBr.out.trans (Below.mono (Below.trans (B:=wr.heap.size) yaA hb4) HSr.out));(have HS4:Hid (w.heap.size+1≤w4.heap.size):=Nat.le_trans HSr.out hb4.size);(have HO4:Hid (Own I 3 w4 (w.heap.size+1) u8 (digs 2 (sB s) (n*4+j))):=HO.out.on (Below.trans (B:=wr.heap.size) yaA hb4));clear hb4;go_wp2_with fail)
     refine hK.out _ _ yaj (fun hHeldp27=>?_);clear hK K hHeld
     try simp only [pt]
     refine tkY 8 ?_;refine tkY 9 ?_;refine wpAnyH_done yaV ?_ _;clear hbd hwx;obtain ⟨c0,c1⟩:=HC.out w4 HBc.out
     go_upto_region 14 with (at_builtin;(with_reducible refine ya4 (o:=⟨some 59,_,_,_,_,_⟩) rfl (.tmp 56) (.tmp 58) 27 rfl 3 i0 (.int .i64 0) 8 Tryz.underlying27 HI.out HZ0.out HZ1.out HZ2.out rfl _ (digs 2 (sB s) (n*4+j)) (w.heap.size+1) rfl HO4.out (d:Int) 1 rfl I1 HK1.out HK2.out HS4.out ?_);intro v5 w5 HO5 HG5 HV5;(have HB5:Hid (Below (w.heap.size+1) W1 w5):=HBc.out.trans (yaY HG5.out (fun j hj=>(World.ownsRow.lt HO4.out j hj).1) HS4.out)))
     obtain ⟨c0,c1⟩:=HC.out w5 HB5.out;have hcd:(c:Int)+(3 - (d:Int))=((c+(3 - d):Nat):Int):=by omega
     have hcd2:(3 - (d:Int))≤15:=by omega
     have hcd3:0≤(3 - (d:Int)):=by omega
     have HCD:=lh hcd;clear hcd
     go_wp2_with (go_at_call 245;(with_reducible refine (HL.out _).mono ?_);rintro e w6 ⟨rfl,hb6⟩;(have HB6:Hid (Below (w.heap.size+1) W1 w6):=HB5.out.trans (hb6.mono (HS.out▸HB5.out.size)));(have HO6:Hid (Own I 3 w6 (w.heap.size+1) v5 (digs 2 (sB s) (n*4+(j+1)))):=HDS.out▸(HO5.out.on hb6));(obtain ⟨c0,c1⟩:=HC.out w6 HB6.out);clear hb6)
     refine ⟨?rel,?measure⟩
     case rel=>exact ⟨j+1,by omega,by (have:=HSH.out;refine congrArg (Value.int .i64) ?_;omega),⟨c+(3 - d),by rw [HCD.out],hc9,HCK⟩,HO6,HB6⟩
     case measure=>(have:=HSH.out;simp [intOf]<;>omega)
    ·obtain rfl:j=4:=by omega
     have HO7:Hid (Own I 3 wr (w.heap.size+1) u8 (digs 2 (sB s) ((n+1)*4))):=by show Own ..;rw [Nat.succ_mul];exact HO.out
     have HK7:Hid (cks 2 (sB s) ((n+1)*4)=c):=by show _=_;rw [Nat.succ_mul];exact HK.out
     have hng:¬(0:Int)≤8 - 2*(((4:Nat):Int)+1):=by omega
     go_wp2;refine ⟨?rel,?measure⟩
     case rel=>exact ⟨n+1,by omega,by go_num,⟨c,rfl,hcc,HK7⟩,HO7,HBr⟩
     case measure=>(simp [intOf]<;>omega)
  ·
   obtain rfl:n=32:=by omega
   have HO8:Hid (Own I 3 wr (w.heap.size+1) u8 (digs 2 (sB s) 128)):=HO;have HK8:Hid (cks 2 (sB s) 128=c):=HK;clear HO HK;have hltI:¬((32:Nat):Int) < 32:=by omega
   obtain ⟨c0,c1⟩:=HC.out wr HBr.out
   go_upto_region 17 with fail
   have HO9:Hid (Own I 3 wr (w.heap.size+1) u8 (digs 2 (sB s) 128++cdigs 2 5 c 0)):=by show Own ..;rw [show cdigs 2 5 c 0=[] from rfl,List.append_nil];exact HO8.out
   obtain ⟨wo,rfl⟩:∃wo:World,wo=wr:=⟨_,rfl⟩
   go_loopw [8,13] (fun v i wr=>∃j:Nat,j≤5∧i= .int .i64 ((5:Int) - 1 - (j:Int))∧Hid (Own I 3 wr (w.heap.size+1) v (digs 2 (sB s) 128++cdigs 2 5 c j))∧Hid (Below (w.heap.size+1) W1 wr)) (fun _ i _=>(intOf i+1).toNat)
   case atStart=>exact ⟨0,by omega,rfl,HO9,HBr⟩
   case round=>
    clear HO9 HBr HO8 c0 c1;obtain ⟨j,hj,rfl,HO,HBr⟩:=hrel;obtain ⟨c0,c1⟩:=HC.out wr HBr.out
    by_cases hjc:j < 5
    ·
     obtain ⟨pl,hpl⟩:∃pl:Nat,pl=5 - 1 - j:=⟨_,rfl⟩
     have hplI:((5:Int) - 1 - (j:Int))=(pl:Int):=by omega
     have HPL:=lh hpl;have hpl8:pl≤8:=by omega
     obtain ⟨sh,hsh⟩:∃sh:Nat,sh=2*pl:=⟨_,rfl⟩
     have hshI:(pl:Int)*2=(sh:Int):=by omega
     have hsh63:sh≤32:=by omega
     have hws:IntKind.i64.wrap (sh:Int)=sh:=IntWalk.i64_in _ om;rw [hplI];obtain ⟨d,hd⟩:∃d:Nat,cdig 2 5 c j=d:=⟨_,rfl⟩
     have hdx:d=c / 2 ^ sh % 2 ^ 2:=by rw [←hd,hsh,hpl];rfl
     have hdm:d≤3:=by rw [hdx];have:=Nat.mod_lt (c / 2 ^ sh) (Nat.two_pow_pos 2);omega
     have hbd:bits .and .i64 ((c:Int) / 2 ^ sh) 3=(d:Int):=by
      have h1:c / 2 ^ sh < 1024:=Nat.lt_of_le_of_lt (Nat.div_le_self _ _) om;have h2:=band_2 h1;rw [hdx];simpa using h2
     have HDS:Hid (digs 2 (sB s) 128++cdigs 2 5 c (j+1)=(digs 2 (sB s) 128++cdigs 2 5 c j)++[(d:Int)]):=by
      show _=_
      rw [ybV,hd,List.append_assoc]
     obtain ⟨ls,hls⟩:∃ls,digs 2 (sB s) 128++cdigs 2 5 c j=ls:=⟨_,rfl⟩
     have HLL:Hid (ls.length=128+j):=by show _=_;rw [←hls,List.length_append,ybj,ybY]
     rw [hls] at HO HDS;have HK1:Hid ((ls.length+1)*8≤140737488355328):=by show _≤_;rw [HLL.out];omega
     have HK2:Hid (ls.length+1≤maxLen):=by show _≤_;rw [HLL.out];unfold maxLen;omega
     have HBc:=HBr;have HSr:Hid (w.heap.size+1≤wr.heap.size):=HS.out▸HBr.out.size;clear hsh hdx hd hpl hplI hls
     go_upto_region 19 with fail
     refine wp_region_held_drew (S:=(fun w'=>w'.cell? ⟨w.heap.size,0,none⟩=some (.int .i64 2)∧w'.cell? ⟨w.heap.size,1,none⟩=some (.int .i64 32))) yaV yac (fun hHeld=>?_);refine tkY 0 ?_;refine tkY 1 ?_;refine tkY 2 ?_;refine tkY 3 ?_;refine tkY 4 ?_;refine tkY 5 ?_;refine tkY 6 ?_;refine tkY 7 ?_;refine rd1 8 (fun K hK=>?_)
     (go_simp;go_at_call 245;(with_reducible refine (HL.out _).mono ?_);rintro e w4 ⟨rfl,hb4⟩;(have HBc:Hid (Below (w.heap.size+1) W1 w4):=HBr.out.trans (Below.mono (Below.trans (B:=wr.heap.size) yaA hb4) HSr.out));(have HS4:Hid (w.heap.size+1≤w4.heap.size):=Nat.le_trans HSr.out hb4.size);(have HO4:Hid (Own I 3 w4 (w.heap.size+1) u8 (ls)):=HO.out.on (Below.trans (B:=wr.heap.size) yaA hb4));clear hb4;go_wp2_with fail)
     refine hK.out _ _ yac (fun hHeldq28=>?_);clear hK K hHeld
     try simp only [pt]
     refine tkY 9 ?_;refine rd1 10 (fun K hK=>?_)
     go_simp
     refine hK.out _ _ yac (fun hHeldq210=>?_);clear hK K hHeldq28
     try simp only [pt]
     refine rd1 11 (fun K hK=>?_)
     ((refine ybv (f:=I) (.tmp 73) (.tmp 83) 27 rfl rfl 3 i0 (.int .i64 0) 8 Tryz.underlying27 HI.out HZ0.out HZ1.out HZ2.out rfl ls (w.heap.size+1) ?hown [(d:Int)] ?hrow I1 HK1.out HK2.out ?hbase ?_);(case hown=>exact HO4.out.alloc _);(case hrow=>exact ⟨_,_,1,1,rfl,rfl,SL.of_block (t:=3) (fr:=(0,0)) (heap_alloc_new _ _) (Nat.lt_succ_self _)⟩);(case hbase=>have:=HS4.out;simp;omega);(intro v7 w7 HT7 HG7 HV7 HB7);(have HBd:Hid (Below (w.heap.size+1) W1 w7):=HB7.out (w.heap.size+1) W1 (HBc.out.alloc HS4.out _) nl))
     refine hK.out _ _ yac (fun hHeldq211=>?_);clear hK K hHeldq210
     try simp only [pt]
     refine tkY 12 ?_;refine wpAnyH_done yaV ?_ _;clear hbd hshI hws;obtain ⟨c0,c1⟩:=HC.out w7 HBd.out;have HO7:Hid (Own I 3 w7 (w.heap.size+1) v7 (digs 2 (sB s) 128++cdigs 2 5 c (j+1))):=HDS.out▸HT7.out;go_wp2;refine ⟨?rel,?measure⟩
     case rel=>exact ⟨j+1,by omega,yaI,HO7,HBd⟩
     case measure=>(have:=HPL.out;simp [intOf]<;>omega)
    ·obtain rfl:j=5:=by omega
     have HO7:Hid (Own I 3 wr (w.heap.size+1) u8 (dgF 2 (sB s))):=by
      show Own ..
      have h:dgF 2 (sB s)=digs 2 (sB s) 128++cdigs 2 5 c 5:=by
       rw [←HK8.out];rfl
      rw [h];exact HO.out
     have hng:¬(0:Int)≤(5:Int) - 1 - ((5:Nat):Int):=by omega
     go_wp2;go_ret2;exact ⟨_,rfl,ybx HO7.out (Nat.le_succ _),HB.out.trans (HBr.out.mono (Nat.le_succ _))⟩
theorem digits_4 (s:ByteArray) (hs:s.size=32) (w:World):
 Calls Tryz.prog 243 #[.agg (cPm 4),.string s] w fun e w'=>∃v,e= .returned (.tuple #[v,.int .i64 0])∧Own I 3 w' w.heap.size v (dgF 4 (sB s))∧Below w.heap.size w w':=by
 have hb:BitN 4 4:=by unfold BitN;omega
 obtain ⟨i0,hi,hz0,hz1,hz2⟩:=info_parts Tryz.info3;have HI:=lh hi;have HZ0:=lh hz0;have HZ1:=lh hz1;have HZ2:=lh hz2;have HB:Hid (Below w.heap.size w (w.alloc (.cells (cPm 4) 268))):=bl;have HL:=lh (fun W=>yct 4 4 hb W);have HVL:=lh (fun W=>ydf 4 4 hb W);have HCT:=lh (fun W=>ydg 4 4 hb W);obtain ⟨W1,hW1⟩:∃W1:World,W1=w.alloc (.cells (cPm 4) 268):=⟨_,rfl⟩
 have hsz:W1.heap.size=w.heap.size+1:=by rw [hW1];simp
 have hge:W1.heap[w.heap.size]? =some (.cells (cPm 4) 268 (0,0)):=by rw [hW1];exact heap_alloc_new w _
 have HC:Hid (∀V,Below (w.heap.size+1) W1 V→V.cell? ⟨w.heap.size,0,none⟩=some (.int .i64 4)∧V.cell? ⟨w.heap.size,1,none⟩=some (.int .i64 32)):=fun V hv=>by
  have q:=(hv.block w.heap.size (Nat.lt_succ_self _)).trans hge;refine ⟨?_,?_⟩<;>(rw [cell_of_row V _ _ _ _ _ q];rfl)
 rw [←hW1] at HB;have HS:=lh hsz;have HWE:=lh hW1;have hsI:(s.size:Int)=32:=by omega
 have hsI2:((s.size:Int) != 32)=false:=by simp [hs]
 have HSS:=lh hs;clear hge hsz hi hz0 hz1 hz2 hW1 hs;rw [show lsF 4=15 from rfl] at HL;rw [show mNI 4=64 from rfl,show cNI 4=3 from rfl] at HCT;obtain ⟨c0,c1⟩:=HC.out W1 br;have HM:Hid ((67:Int)=((67:Nat):Int)):=by show _=_;rfl
 have HM2:Hid (i0.bytes*67≤281474976710656):=by show _≤_;rw [HZ2.out];omega
 have HM3:Hid (67≤maxLen):=by show _≤_;unfold maxLen;omega
 go_enter Tryz.func243,Tryz.ntmps243
 go_upto_region 1 with fail
 rw [←HWE.out]
 go_upto_region 7 with (first
  |(go_at_call 263;(with_reducible refine (HVL.out _).mono ?_);rintro e w1 ⟨rfl,hb1⟩;(have HB1:Hid (Below (w.heap.size+1) W1 w1):=HS.out▸hb1);(obtain ⟨c0,c1⟩:=HC.out w1 HB1.out);clear hb1)
  |(go_at_call 264;(with_reducible refine (HCT.out _).mono ?_);rintro e w2 ⟨rfl,hb2⟩;(have HB2:Hid (Below (w.heap.size+1) W1 w2):=HB1.out.trans (hb2.mono (HS.out▸HB1.out.size)));(obtain ⟨c0,c1⟩:=HC.out w2 HB2.out);clear hb2)
  |(at_make;(refine wpList_make_own w2 (o:=⟨some 32,_,_,_,_,_⟩) rfl _ _ 27 rfl (w.heap.size+1) 3 i0 (.int .i64 0) 1 Tryz.underlying27 HI.out HZ0.out HZ1.out _ _ _ 67 rfl rfl HM.out HM2.out HM3.out (HS.out▸HB2.out.size) ?_);intro w3 hO3 hG3;(have HO3:Hid (Own I 3 w3 (w.heap.size+1) (.slice (some ⟨w2.heap.size,0,none⟩) 0 67) []):=hO3)))
 have HB3:Hid (Below (w.heap.size+1) W1 w3):=HB2.out.trans (yaY hG3 (fun k hk=>by cases hk) (HS.out▸HB2.out.size));clear hO3 hG3 HM HM2 HM3
 go_loopw [8,9,35] (fun v k i wr=>∃n:Nat,n≤32∧i= .int .i64 n∧(∃c:Nat,k= .int .i64 c∧c≤960∧Hid (cks 4 (sB s) (n*2)=c))∧Hid (Own I 3 wr (w.heap.size+1) v (digs 4 (sB s) (n*2)))∧Hid (Below (w.heap.size+1) W1 wr)) (fun _ _ i _=>32 - (intOf i).toNat)
 case atStart=>exact ⟨0,by omega,rfl,⟨0,rfl,by omega,rfl⟩,HO3,HB3⟩
 case round=>
  obtain ⟨n,hn,rfl,⟨c,rfl,hcc,HK⟩,HO,HBr⟩:=hrel
  by_cases hlt:n < 32
  ·
   have hltI:(n:Int) < 32:=by omega
   obtain ⟨c0,c1⟩:=HC.out wr HBr.out
   go_upto_region 10 with fail
   have HO0:Hid (Own I 3 wr (w.heap.size+1) u8 (digs 4 (sB s) (n*2+0))):=HO;have HK0:Hid (cks 4 (sB s) (n*2+0)=c):=HK;obtain ⟨wo,rfl⟩:∃wo:World,wo=wr:=⟨_,rfl⟩
   go_loopw [8,9,11] (fun v k i wr=>∃j:Nat,j≤2∧i= .int .i64 (8 - 4*((j:Int)+1))∧(∃c:Nat,k= .int .i64 c∧c≤960∧Hid (cks 4 (sB s) (n*2+j)=c))∧Hid (Own I 3 wr (w.heap.size+1) v (digs 4 (sB s) (n*2+j)))∧Hid (Below (w.heap.size+1) W1 wr)) (fun _ _ i _=>(intOf i+1).toNat)
   case atStart=>exact ⟨0,by omega,rfl,⟨c,rfl,hcc,HK0⟩,HO0,HBr⟩
   case round=>
    clear HO0 HK0 HO HK HBr hcc;obtain ⟨j,hj,rfl,⟨c,rfl,hcc,HK⟩,HO,HBr⟩:=hrel;obtain ⟨c0,c1⟩:=HC.out wr HBr.out
    by_cases hj8:j < 2
    ·
     obtain ⟨sh,hsh⟩:∃sh:Nat,sh=8 - 4*(j+1):=⟨_,rfl⟩
     have hshI:(8 - 4*((j:Int)+1))=(sh:Int):=by omega
     have HSH:=lh hsh;rw [hshI];have hsh7:sh≤7:=by omega
     have hns:n < s.size:=by rw [HSS.out];exact hlt
     obtain ⟨x,hx⟩:∃x:Nat,s[n].toNat=x:=⟨_,rfl⟩
     have hx255:x≤255:=by have:=s[n].toNat_lt;omega
     have hwx:IntKind.i64.wrap (x:Int)=x:=IntWalk.i64_in _ om;obtain ⟨d,hd⟩:∃d:Nat,dig 4 (sB s) (n*2+j)=d:=⟨_,rfl⟩
     have hdx:d=x / 2 ^ sh % 2 ^ 4:=by rw [←hd,dig_at 4 2 rfl hns hj8,hx,hsh]
     have hdm:d≤15:=by rw [hdx];have:=Nat.mod_lt (x / 2 ^ sh) (Nat.two_pow_pos 4);omega
     have hbd:bits .and .i64 ((x:Int) / 2 ^ sh) 15=(d:Int):=by
      have h1:x / 2 ^ sh < 1024:=Nat.lt_of_le_of_lt (Nat.div_le_self _ _) om;have h2:=band_4 h1;rw [hdx];simpa using h2
     have HD:=lh hd
     have HCK:Hid (cks 4 (sB s) (n*2+(j+1))=c+(15 - d)):=by
      show _=_
      rw [←Nat.add_assoc,cks,HK.out,hd]
     have hc9:c+(15 - d)≤960:=by
      have h1:=cks_le 4 (sB s) (n*2+(j+1));rw [HCK.out] at h1;simp at h1;omega
     have HDS:Hid (digs 4 (sB s) (n*2+(j+1))=digs 4 (sB s) (n*2+j)++[(d:Int)]):=by
      show _=_
      rw [←Nat.add_assoc,yb9,hd]
     have HK1:Hid (((digs 4 (sB s) (n*2+j)).length+1)*8≤140737488355328):=by show _≤_;rw [ybj];omega
     have HK2:Hid ((digs 4 (sB s) (n*2+j)).length+1≤maxLen):=by show _≤_;rw [ybj];unfold maxLen;omega
     have HBc:=HBr;have HSr:Hid (w.heap.size+1≤wr.heap.size):=HS.out▸HBr.out.size;clear hsh hshI hdx hd HK
     go_upto_region 12 with fail
     refine wp_region_held_drew (S:=(fun w'=>w'.cell? ⟨w.heap.size,0,none⟩=some (.int .i64 4)∧w'.cell? ⟨w.heap.size,1,none⟩=some (.int .i64 32))) yaV yaj (fun hHeld=>?_);refine tkY 0 ?_;refine tkY 1 ?_;refine tkY 2 ?_;refine tkY 3 ?_;refine tkY 4 ?_;refine tkY 5 ?_;refine tkY 6 ?_;refine rd1 7 (fun K hK=>?_)
     (go_simp;go_at_call 245;(with_reducible refine (HL.out _).mono ?_);rintro e w4 ⟨rfl,hb4⟩;(have HBc:Hid (Below (w.heap.size+1) W1 w4):=HBr.out.trans (Below.mono (Below.trans (B:=wr.heap.size) yaA hb4) HSr.out));(have HS4:Hid (w.heap.size+1≤w4.heap.size):=Nat.le_trans HSr.out hb4.size);(have HO4:Hid (Own I 3 w4 (w.heap.size+1) u8 (digs 4 (sB s) (n*2+j))):=HO.out.on (Below.trans (B:=wr.heap.size) yaA hb4));clear hb4;go_wp2_with fail)
     refine hK.out _ _ yaj (fun hHeldp47=>?_);clear hK K hHeld
     try simp only [pt]
     refine tkY 8 ?_;refine tkY 9 ?_;refine wpAnyH_done yaV ?_ _;clear hbd hwx;obtain ⟨c0,c1⟩:=HC.out w4 HBc.out
     go_upto_region 14 with (at_builtin;(with_reducible refine ya4 (o:=⟨some 59,_,_,_,_,_⟩) rfl (.tmp 56) (.tmp 58) 27 rfl 3 i0 (.int .i64 0) 8 Tryz.underlying27 HI.out HZ0.out HZ1.out HZ2.out rfl _ (digs 4 (sB s) (n*2+j)) (w.heap.size+1) rfl HO4.out (d:Int) 1 rfl I1 HK1.out HK2.out HS4.out ?_);intro v5 w5 HO5 HG5 HV5;(have HB5:Hid (Below (w.heap.size+1) W1 w5):=HBc.out.trans (yaY HG5.out (fun j hj=>(World.ownsRow.lt HO4.out j hj).1) HS4.out)))
     obtain ⟨c0,c1⟩:=HC.out w5 HB5.out;have hcd:(c:Int)+(15 - (d:Int))=((c+(15 - d):Nat):Int):=by omega
     have hcd2:(15 - (d:Int))≤15:=by omega
     have hcd3:0≤(15 - (d:Int)):=by omega
     have HCD:=lh hcd;clear hcd
     go_wp2_with (go_at_call 245;(with_reducible refine (HL.out _).mono ?_);rintro e w6 ⟨rfl,hb6⟩;(have HB6:Hid (Below (w.heap.size+1) W1 w6):=HB5.out.trans (hb6.mono (HS.out▸HB5.out.size)));(have HO6:Hid (Own I 3 w6 (w.heap.size+1) v5 (digs 4 (sB s) (n*2+(j+1)))):=HDS.out▸(HO5.out.on hb6));(obtain ⟨c0,c1⟩:=HC.out w6 HB6.out);clear hb6)
     refine ⟨?rel,?measure⟩
     case rel=>exact ⟨j+1,by omega,by (have:=HSH.out;refine congrArg (Value.int .i64) ?_;omega),⟨c+(15 - d),by rw [HCD.out],hc9,HCK⟩,HO6,HB6⟩
     case measure=>(have:=HSH.out;simp [intOf]<;>omega)
    ·obtain rfl:j=2:=by omega
     have HO7:Hid (Own I 3 wr (w.heap.size+1) u8 (digs 4 (sB s) ((n+1)*2))):=by show Own ..;rw [Nat.succ_mul];exact HO.out
     have HK7:Hid (cks 4 (sB s) ((n+1)*2)=c):=by show _=_;rw [Nat.succ_mul];exact HK.out
     have hng:¬(0:Int)≤8 - 4*(((2:Nat):Int)+1):=by omega
     go_wp2;refine ⟨?rel,?measure⟩
     case rel=>exact ⟨n+1,by omega,by go_num,⟨c,rfl,hcc,HK7⟩,HO7,HBr⟩
     case measure=>(simp [intOf]<;>omega)
  ·
   obtain rfl:n=32:=by omega
   have HO8:Hid (Own I 3 wr (w.heap.size+1) u8 (digs 4 (sB s) 64)):=HO;have HK8:Hid (cks 4 (sB s) 64=c):=HK;clear HO HK;have hltI:¬((32:Nat):Int) < 32:=by omega
   obtain ⟨c0,c1⟩:=HC.out wr HBr.out
   go_upto_region 17 with fail
   have HO9:Hid (Own I 3 wr (w.heap.size+1) u8 (digs 4 (sB s) 64++cdigs 4 3 c 0)):=by show Own ..;rw [show cdigs 4 3 c 0=[] from rfl,List.append_nil];exact HO8.out
   obtain ⟨wo,rfl⟩:∃wo:World,wo=wr:=⟨_,rfl⟩
   go_loopw [8,13] (fun v i wr=>∃j:Nat,j≤3∧i= .int .i64 ((3:Int) - 1 - (j:Int))∧Hid (Own I 3 wr (w.heap.size+1) v (digs 4 (sB s) 64++cdigs 4 3 c j))∧Hid (Below (w.heap.size+1) W1 wr)) (fun _ i _=>(intOf i+1).toNat)
   case atStart=>exact ⟨0,by omega,rfl,HO9,HBr⟩
   case round=>
    clear HO9 HBr HO8 c0 c1;obtain ⟨j,hj,rfl,HO,HBr⟩:=hrel;obtain ⟨c0,c1⟩:=HC.out wr HBr.out
    by_cases hjc:j < 3
    ·
     obtain ⟨pl,hpl⟩:∃pl:Nat,pl=3 - 1 - j:=⟨_,rfl⟩
     have hplI:((3:Int) - 1 - (j:Int))=(pl:Int):=by omega
     have HPL:=lh hpl;have hpl8:pl≤8:=by omega
     obtain ⟨sh,hsh⟩:∃sh:Nat,sh=4*pl:=⟨_,rfl⟩
     have hshI:(pl:Int)*4=(sh:Int):=by omega
     have hsh63:sh≤32:=by omega
     have hws:IntKind.i64.wrap (sh:Int)=sh:=IntWalk.i64_in _ om;rw [hplI];obtain ⟨d,hd⟩:∃d:Nat,cdig 4 3 c j=d:=⟨_,rfl⟩
     have hdx:d=c / 2 ^ sh % 2 ^ 4:=by rw [←hd,hsh,hpl];rfl
     have hdm:d≤15:=by rw [hdx];have:=Nat.mod_lt (c / 2 ^ sh) (Nat.two_pow_pos 4);omega
     have hbd:bits .and .i64 ((c:Int) / 2 ^ sh) 15=(d:Int):=by
      have h1:c / 2 ^ sh < 1024:=Nat.lt_of_le_of_lt (Nat.div_le_self _ _) om;have h2:=band_4 h1;rw [hdx];simpa using h2
     have HDS:Hid (digs 4 (sB s) 64++cdigs 4 3 c (j+1)=(digs 4 (sB s) 64++cdigs 4 3 c j)++[(d:Int)]):=by
      show _=_
      rw [ybV,hd,List.append_assoc]
     obtain ⟨ls,hls⟩:∃ls,digs 4 (sB s) 64++cdigs 4 3 c j=ls:=⟨_,rfl⟩
     have HLL:Hid (ls.length=64+j):=by show _=_;rw [←hls,List.length_append,ybj,ybY]
     rw [hls] at HO HDS;have HK1:Hid ((ls.length+1)*8≤140737488355328):=by show _≤_;rw [HLL.out];omega
     have HK2:Hid (ls.length+1≤maxLen):=by show _≤_;rw [HLL.out];unfold maxLen;omega
     have HBc:=HBr;have HSr:Hid (w.heap.size+1≤wr.heap.size):=HS.out▸HBr.out.size;clear hsh hdx hd hpl hplI hls
     go_upto_region 19 with fail
     refine wp_region_held_drew (S:=(fun w'=>w'.cell? ⟨w.heap.size,0,none⟩=some (.int .i64 4)∧w'.cell? ⟨w.heap.size,1,none⟩=some (.int .i64 32))) yaV yac (fun hHeld=>?_);refine tkY 0 ?_;refine tkY 1 ?_;refine tkY 2 ?_;refine tkY 3 ?_;refine tkY 4 ?_;refine tkY 5 ?_;refine tkY 6 ?_;refine tkY 7 ?_;refine rd1 8 (fun K hK=>?_)
     (go_simp;go_at_call 245;(with_reducible refine (HL.out _).mono ?_);rintro e w4 ⟨rfl,hb4⟩;(have HBc:Hid (Below (w.heap.size+1) W1 w4):=HBr.out.trans (Below.mono (Below.trans (B:=wr.heap.size) yaA hb4) HSr.out));(have HS4:Hid (w.heap.size+1≤w4.heap.size):=Nat.le_trans HSr.out hb4.size);(have HO4:Hid (Own I 3 w4 (w.heap.size+1) u8 (ls)):=HO.out.on (Below.trans (B:=wr.heap.size) yaA hb4));clear hb4;go_wp2_with fail)
     refine hK.out _ _ yac (fun hHeldq48=>?_);clear hK K hHeld
     try simp only [pt]
     refine tkY 9 ?_;refine rd1 10 (fun K hK=>?_)
     go_simp
     refine hK.out _ _ yac (fun hHeldq410=>?_);clear hK K hHeldq48
     try simp only [pt]
     refine rd1 11 (fun K hK=>?_)
     ((refine ybv (f:=I) (.tmp 73) (.tmp 83) 27 rfl rfl 3 i0 (.int .i64 0) 8 Tryz.underlying27 HI.out HZ0.out HZ1.out HZ2.out rfl ls (w.heap.size+1) ?hown [(d:Int)] ?hrow I1 HK1.out HK2.out ?hbase ?_);(case hown=>exact HO4.out.alloc _);(case hrow=>exact ⟨_,_,1,1,rfl,rfl,SL.of_block (t:=3) (fr:=(0,0)) (heap_alloc_new _ _) (Nat.lt_succ_self _)⟩);(case hbase=>have:=HS4.out;simp;omega);(intro v7 w7 HT7 HG7 HV7 HB7);(have HBd:Hid (Below (w.heap.size+1) W1 w7):=HB7.out (w.heap.size+1) W1 (HBc.out.alloc HS4.out _) nl))
     refine hK.out _ _ yac (fun hHeldq411=>?_);clear hK K hHeldq410
     try simp only [pt]
     refine tkY 12 ?_;refine wpAnyH_done yaV ?_ _;clear hbd hshI hws;obtain ⟨c0,c1⟩:=HC.out w7 HBd.out;have HO7:Hid (Own I 3 w7 (w.heap.size+1) v7 (digs 4 (sB s) 64++cdigs 4 3 c (j+1))):=HDS.out▸HT7.out;go_wp2;refine ⟨?rel,?measure⟩
     case rel=>exact ⟨j+1,by omega,yaI,HO7,HBd⟩
     case measure=>(have:=HPL.out;simp [intOf]<;>omega)
    ·obtain rfl:j=3:=by omega
     have HO7:Hid (Own I 3 wr (w.heap.size+1) u8 (dgF 4 (sB s))):=by
      show Own ..
      have h:dgF 4 (sB s)=digs 4 (sB s) 64++cdigs 4 3 c 3:=by
       rw [←HK8.out];rfl
      rw [h];exact HO.out
     have hng:¬(0:Int)≤(3:Int) - 1 - ((3:Nat):Int):=by omega
     go_wp2;go_ret2;exact ⟨_,rfl,ybx HO7.out (Nat.le_succ _),HB.out.trans (HBr.out.mono (Nat.le_succ _))⟩
theorem digits_any (b:Int) (β:Nat) (hb:BitN b β) (s:ByteArray) (hs:s.size=32) (w:World):
 Calls Tryz.prog 243 #[.agg (cPm b),.string s] w fun e w'=>∃v,e= .returned (.tuple #[v,.int .i64 0])∧Own I 3 w' w.heap.size v (dgF β (sB s))∧Below w.heap.size w w':=by
 rcases hb with ⟨rfl,rfl⟩ |⟨rfl,rfl⟩ |⟨rfl,rfl⟩
 ·exact digits_1 s hs w
 ·exact digits_2 s hs w
 ·exact digits_4 s hs w
