/- receipt.readUint, receipt.readSums. One-time signatures: the public key that parts give. -/
import Derived.Test.YtpdledjgbgalcaaGreatDoorQ5
import Derived.Deep.OwnRows
import Derived.Test.YtpdledjgbgalcaaGreatDoorPg
namespace Go.Proofs.YtpdledjgbgalcaaGreatDoor
set_option maxRecDepth 100000
set_option maxHeartbeats 8000000
open Go.RowKit Go.Lib
set_option linter.unusedVariables false
set_option linter.unusedSimpArgs false
theorem yc3 (g:Nat) (A:Option Addr) (n c:Nat) (bs:List Int) (s:RS) (w:World) (hr:RdS g A n c bs s w) (hk:RK bs n c) (hp:s.1≤n):
 Calls Tryz.prog 218 #[.pointer (some ⟨g,0,none⟩)] w (RPost g A n c bs (.int .i64 (rN 0 1099511627776 bs s).1) (rN 0 1099511627776 bs s).2 w):=by
 have HC:=lh (ru2_any g A n c bs s w hr hk hp);have hnn:=yc1 bs s;have hbad:=rU_bad (bs:=bs) (s:=s);have hgl:Hid (g < w.heap.size):=hr.lt;unfold rN;obtain ⟨z,s',hz⟩:∃z s',rU bs s=(z,s'):=⟨_,_,rfl⟩
 rw [hz] at HC hnn hbad ⊢;dsimp only at hnn hbad;clear hr hz hk hp
 by_cases hok:s.2=0∧s'.2=0
 ·obtain ⟨h1,h2⟩:=hok
  rw [if_pos ⟨h1,h2⟩]
  have HC2:Hid (Calls Tryz.prog 82 #[.pointer (some ⟨g,0,none⟩)] w fun e w'=>e= .returned (.int .u64 z)∧Rd w' g A n c s'.1 (s.1:Int) 0∧Sl fB w' g A n bs∧But (fun k=>k=g) w w'):=HC.out.mono (fun e w' ⟨k1,⟨pv,k2,k3⟩,k4,k5⟩=>by
   rw [k3 h1] at k2
   exact ⟨k1,(by rw [←h2];exact k2),k4,k5⟩)
  obtain ⟨q,q2⟩:=s';obtain ⟨p,p2⟩:=s;dsimp only at h1 h2 HC2 hbad;subst h1;subst h2;clear HC hbad
  have HFL:Hid (∀w1,Rd w1 g A n c q (p:Int) 0∧Sl fB w1 g A n bs∧But (fun k=>k=g) w w1→Calls Tryz.prog 210 #[.pointer (some ⟨g,0,none⟩)] w1 fun e w'=>e= .returned (.tuple #[])∧RdS g A n c bs (p,3) w'∧But (fun k=>k=g) w w'):=fun w1 ⟨k1,k2,k3⟩=>
   (fail_ok g A n c q p w1 k1).mono (fun e w' ⟨j1,j2,j3⟩=>⟨j1,⟨⟨_,j2⟩,k2.butg j3 (Nat.le_trans (Nat.le_of_lt hgl.out) k3.size)⟩,k3.trans j3 (fun i hi=> .inl hi)⟩)
  by_cases hhi:(1099511627776:Int) < z
  ·rw [if_neg (fun h=>by have h2:z≤1099511627776:=h.2;omega)]
   go_enter Tryz.func218,Tryz.ntmps218
   go_wp2_with (first
    |(go_at_call 82;(with_reducible refine HC2.out.mono ?_);rintro e w1 ⟨rfl,k⟩;have K:=lh k;clear k)
    |(go_at_call 210;(with_reducible refine (HFL.out _ K.out).mono ?_);rintro e w2 ⟨rfl,k⟩;have K2:=lh k;clear k))
   go_ret;exact ⟨rfl,K2.out.1,K2.out.2⟩
  ·rw [if_pos ⟨hnn,by show z≤1099511627776;omega⟩]
   clear HFL;go_enter Tryz.func218,Tryz.ntmps218
   go_wp2_with (first
    |(go_at_call 82;(with_reducible refine HC2.out.mono ?_);rintro e w1 ⟨rfl,k⟩;have K:=lh k;clear k))
   go_ret;exact ⟨by first |rfl |exact ret_int (show wrap64 z=z by unfold wrap64;omega),⟨⟨_,K.out.1⟩,K.out.2.1⟩,K.out.2.2⟩
 ·rw [if_neg hok]
  obtain ⟨hz0,he⟩:=hbad hok;have HC2:Hid (Calls Tryz.prog 82 #[.pointer (some ⟨g,0,none⟩)] w fun e w'=>e= .returned (.int .u64 0)∧RdS g A n c bs s' w'∧But (fun k=>k=g) w w'):=HC.out.mono (fun e w' ⟨k1,⟨pv,k2,k3⟩,k4,k5⟩=>⟨by rw [k1,hz0],⟨⟨pv,k2⟩,k4⟩,k5⟩);clear HC hbad hok hz0 he hnn;go_enter Tryz.func218,Tryz.ntmps218
  go_wp2_with (first
   |(go_at_call 82;(with_reducible refine HC2.out.mono ?_);rintro e w1 ⟨rfl,k⟩;have K:=lh k;clear k))
  go_ret;exact ⟨rfl,K.out.1,K.out.2⟩
def rL (bs:List Int) (m:Nat) (s:RS):List ByteArray × RS:=rSums bs (rC bs m s).1.toNat (rC bs m s).2
theorem rL_le {bs:List Int} {m n:Nat} {s:RS} (hl:bs.length=n) (h:s.1≤n):(rL bs m s).2.1≤n:=ydL hl _ (rC_le hl h)
def RLPost (g:Nat) (A:Option Addr) (n c:Nat) (bs:List Int) (ys:List ByteArray) (s:RS) (w:World) (e:Ending) (w':World):Prop:=
 ∃A5 k5 c5,e= .returned (.slice A5 k5 c5)∧Own fT 9 w' w.heap.size (.slice A5 k5 c5) ys∧RdS g A n c bs s w'∧But (fun k=>k=g) w w'
theorem own_of_row {w:World} {b base:Nat} {cs:Array Value} {ys:List ByteArray} {n:Nat} (hg:w.heap[b]? =some (.cells cs 9 (0,0))) (hc:cs.toList=ys.map fT) (hn:ys.length=n) (hb:base≤b) (hm:n≤maxLen):Own fT 9 w base (.slice (some ⟨b,0,none⟩) n n) ys:=by
 have hs:cs.size=n:=by rw [←Array.length_toList,hc,List.length_map,hn]
 refine ⟨by simp,.inr ⟨b,n,cs,by rw [hn],hb,hg,by rw [hn];exact Nat.le_refl _,hm,by rw [hs,Nat.mul_one],?_⟩⟩;rw [hc,Nat.mul_one,List.take_of_length_le (by rw [List.length_map];exact Nat.le_refl _)]
theorem set_mid (ys:List ByteArray) (x:ByteArray) (m:Nat):(((ys++List.replicate (m+1) baNo).map fT).set ys.length (.string x))=((ys++[x])++List.replicate m baNo).map fT:=by
 rw [List.map_append,List.set_append_right _ _ (by rw [List.length_map];exact Nat.le_refl _),List.length_map,Nat.sub_self,List.replicate_succ,List.map_cons,List.set_cons_zero,List.append_assoc,List.map_append,List.map_append]
 rfl
theorem rl_any (g:Nat) (A:Option Addr) (n c:Nat) (bs:List Int) (s:RS) (m:Nat) (hm:m≤1000) (w:World) (hr:RdS g A n c bs s w) (hk:RK bs n c) (hp:s.1≤n):
 Calls Tryz.prog 219 #[.pointer (some ⟨g,0,none⟩),.int .i64 m] w (RLPost g A n c bs (rL bs m s).1 (rL bs m s).2 w):=by
 have hl:=hr.len;have hgl:=hr.lt;have HC:=lh (rc_any g A n c bs s m om w hr hk hp);have hp1:=rC_le (m:=m) hl hp;have hk5:=rC_range (bs:=bs) (m:=m) (s:=s);unfold rL;obtain ⟨z,s1,hz⟩:∃z s',rC bs m s=(z,s'):=⟨_,_,rfl⟩
 rw [hz] at HC hp1 hk5 ⊢;obtain ⟨k,rfl⟩:∃k:Nat,z=k:=⟨z.toNat,by have:=hk5.1;dsimp only at this;omega⟩
 have hkm:k≤1000:=by have h:=hk5.2;dsimp only at h;omega
 dsimp only;rw [Int.toNat_natCast];have HS:Hid (∀j W,RdS g A n c bs (rSums bs j s1).2 W→Calls Tryz.prog 172 #[.pointer (some ⟨g,0,none⟩)] W (RPost g A n c bs (.string (rS bs (rSums bs j s1).2).1) (rS bs (rSums bs j s1).2).2 W)):=fun j W h=>rs_any g A n c bs _ W h hk (ydL hl j hp1)
 have HGL:=lh hgl;obtain ⟨i0,hi,hz0,hz1,hz2⟩:=info_parts Tryz.infoS;have HI:=lh hi;have HZ0:=lh hz0;have HZ1:=lh hz1;have HZ2:=lh hz2;clear hr hk hz hp hl hp1 hk5 hi hz0 hz1 hz2 hgl hm;go_enter Tryz.func219,Tryz.ntmps219
 go_wp2_with (first
  |(go_at_call 141;(with_reducible refine HC.out.mono ?_);rintro e w1 ⟨rfl,r1,b1⟩
    have R1:=lh r1;have B1:=lh b1
    clear r1 b1)
  |(at_make;(refine wpList_make_row w1 (o:=⟨some 10,_,_,_,_,_⟩) rfl (.tmp 9) (.tmp 9) 24 rfl 9 i0 (.string ⟨#[]⟩) Tryz.underlying24 HI.out HZ0.out HZ1.out rfl .i64 .i64 k rfl rfl (by rw [HZ2.out];omega) om ?_)))
 obtain ⟨b,hb⟩:∃b,b=w1.heap.size:=⟨_,rfl⟩
 obtain ⟨W2,hW2⟩:∃W:World,W=w1.alloc (.cells (madeCells #[.string ⟨#[]⟩] k) 9):=⟨_,rfl⟩
 have hb12:Below w1.heap.size w1 W2:=by rw [hW2];exact bl
 have R2:=lh (R1.out.on hb12);have B2:Hid (But (fun k=>k=g) w W2):=B1.out.trans (But.of_below (p:=fun k=>k=g) hb12) (fun i hi=> .inl hi)
 have hrow:∃cs,W2.heap[b]? =some (.cells cs 9 (0,0))∧cs.toList=((rSums bs 0 s1).1++List.replicate k baNo).map fT:=⟨_,by rw [hW2,hb];exact heap_alloc_new w1 _,by
  apply List.ext_getElem?;intro j;rw [Array.getElem?_toList];have hs:(madeCells #[Value.string ⟨#[]⟩] k).size=k:=by simp [madeCells]
  by_cases hj:j < k
  ·rw [Array.getElem?_eq_getElem om]
   simp [madeCells,rSums,hj,Nat.mod_one,baNo]
  ·rw [Array.getElem?_eq_none om,List.getElem?_eq_none (by simp [rSums];omega)]⟩
 have HROW:=lh hrow;have hgb:Hid (g < b):=by show _ < _;rw [hb];exact R1.out.lt
 have hwb:Hid (w.heap.size≤b):=by show _≤_;rw [hb];exact B1.out.size
 rw [←hW2,←hb];clear hb hW2 hb12 hrow HC R1 B1
 go_loopw [13] (fun i wr=>∃(j:Nat),j≤k∧i= .int .i64 j∧Hid (RdS g A n c bs (rSums bs j s1).2 wr)∧Hid (But (fun k=>k=g∨k=b) W2 wr)∧Hid (∃cs,wr.heap[b]? =some (.cells cs 9 (0,0))∧cs.toList=((rSums bs j s1).1++List.replicate (k - j) baNo).map fT)) (fun i _=>k - (intOf i).toNat)
 case atStart=>exact ⟨0,by omega,rfl,R2,But.refl _ _,HROW⟩
 case round=>
  obtain ⟨j,hj,rfl,R,B,ROW⟩:=hrel
  by_cases hlt:j < k
  ·have hjI:(j:Int) < (k:Int):=by omega
   have hj0:(0:Int)≤(j:Int):=by omega
   have HC:=lh (HS.out j wr R.out);obtain ⟨x,hx⟩:∃x,x=(rS bs (rSums bs j s1).2).1:=⟨_,rfl⟩
   rw [←hx] at HC;have HSJ:Hid (rSums bs (j+1) s1=((rSums bs j s1).1++[x],(rS bs (rSums bs j s1).2).2)):=by show _=_;rw [hx];rfl
   clear hx
   go_wp2_with (first
    |(go_at_call 172;(with_reducible refine HC.out.mono ?_);rintro e w3 ⟨rfl,r3,b3⟩
      have hr3:∃cs,w3.heap[b]? =some (.cells cs 9 (0,0))∧cs.toList=((rSums bs j s1).1++List.replicate (k - j) baNo).map fT:=by
       obtain ⟨cs,q1,q2⟩:=ROW.out;exact ⟨cs,(b3.block b (lt_of_block q1) (by have:=hgb.out;omega)).trans q1,q2⟩
      obtain ⟨cs,q1,q2⟩:=hr3
      have hcs:cs.size=k:=by
       rw [←Array.length_toList,q2,List.length_map,List.length_append,yca,List.length_replicate];omega
      obtain ⟨u,hu⟩:∃u,cs[j]? =some u:=⟨_,Array.getElem?_eq_getElem om⟩
      have hcl:w3.cell? ⟨b,j,none⟩=some u:=by rw [cell_of_row w3 b j _ _ _ q1];exact hu
      have hfr:=frozen_of_row w3 b j _ _ q1;have R3:=lh r3;have B3:=lh b3;have Q1:=lh q1;have Q2:=lh q2
      clear r3 b3 q1 q2 hcs hu))
   refine ⟨?rel,?measure⟩
   case rel=>
    have hst:=heap_setCell_same w3 b j _ _ (.string x) Q1.out;have hbs:But (fun k=>k=b) w3 (w3.setCell ⟨b,j,none⟩ (.string x)):=But.setCell (p:=fun k=>k=b) (x:=⟨b,j,none⟩) (But.refl _ _) (.inl rfl) _;refine ⟨j+1,by omega,by go_num,?_,?_,?_⟩
    ·rw [HSJ.out]
     exact R3.out.but hbs (fun k hk e=>by have:=hgb.out;omega)
    ·exact (B.out.trans B3.out (fun i hi=> .inl (.inl hi))).trans hbs (fun i hi=> .inl (.inr hi))
    ·rw [HSJ.out]
     refine ⟨_,hst,?_⟩;rw [Array.toList_setIfInBounds,Q2.out,show k - j=(k - (j+1))+1 by omega];have hlen:=yca bs j s1
     have:=set_mid (rSums bs j s1).1 x (k - (j+1))
     rw [hlen] at this;exact this
   case measure=>simp [intOf];omega
  ·obtain rfl:j=k:=by omega
   go_wp2;go_ret;obtain ⟨cs,q1,q2⟩:=ROW.out;rw [Nat.sub_self,List.replicate_zero,List.append_nil] at q2;exact ⟨_,_,_,rfl,own_of_row q1 q2 (yca _ _ _) hwb.out yaS,R.out,B2.out.trans B.out (fun i hi=>by rcases hi with rfl |rfl;exact .inl rfl;exact .inr hwb.out)⟩
theorem row_sl {w:World} {b:Nat} {cs:Array Value} {ys:List ByteArray} {n:Nat} (hg:w.heap[b]? =some (.cells cs 9 (0,0))) (hc:cs.toList=ys.map fT) (hn:ys.length=n):Sl fT w w.heap.size (some ⟨b,0,none⟩) n ys:=by
 have h:cs=(ys.map fT).toArray:=by rw [←hc]
 rw [h] at hg;exact ⟨hn,SL.of_block hg (lt_of_block hg)⟩
theorem recover_no (b:Int) (β:Nat) (hb:BitN b β) (s:ByteArray) (hs:s.size=32) (A:Option Addr) (n c:Nat) (w:World) (hn:n≠mN β+cN β):
 Calls Tryz.prog 203 #[.agg (cPm b),.string s,.slice A n c] w fun e w'=>e= .returned (.tuple #[.string ⟨#[]⟩,.int .i64 1])∧Below w.heap.size w w':=by
 have HD:=lh (fun W=>digits_any b β hb s hs W);obtain ⟨T,hT1,hT2,hT3,hT4⟩:=bit_T hb;have HDL:Hid ((dgF β (sB s)).length=T):=by show _=_;rw [dgF_len,hT1]
 rw [hT1] at hn;have hnI:((n:Int) != (T:Int))=true:=by simp;omega
 have HB:Hid (Below w.heap.size w (w.alloc (.cells (cPm b) 268))):=bl;obtain ⟨W1,hW1⟩:∃W1:World,W1=w.alloc (.cells (cPm b) 268):=⟨_,rfl⟩
 have hsz:W1.heap.size=w.heap.size+1:=by rw [hW1];simp
 have hge:W1.heap[w.heap.size]? =some (.cells (cPm b) 268 (0,0)):=by rw [hW1];exact heap_alloc_new w _
 have HC:Hid (∀V,Below (w.heap.size+1) W1 V→V.cell? ⟨w.heap.size,0,none⟩=some (.int .i64 b)∧V.cell? ⟨w.heap.size,1,none⟩=some (.int .i64 32)):=fun V hv=>by
  have q:=(hv.block w.heap.size (Nat.lt_succ_self _)).trans hge;refine ⟨?_,?_⟩<;>(rw [cell_of_row V _ _ _ _ _ q];rfl)
 rw [←hW1] at HB;have HS:=lh hsz;have HWE:=lh hW1;have HB1:Hid (Below (w.heap.size+1) W1 W1):=Below.refl _ _;clear hge hsz hW1;obtain ⟨c0,c1⟩:=HC.out W1 HB1.out;clear hb hs hn hT1 hT4;go_enter Tryz.func203,Tryz.ntmps203
 go_upto_region 1 with fail
 rw [←HWE.out]
 go_wp2_with (go_at_call 243;(with_reducible refine (HD.out _).mono ?_);rintro e w2 ⟨v2,rfl,ho,hb2⟩;(have HB2:=lh (HB1.out.trans (hb2.mono (Nat.le_of_eq HS.out.symm))));(obtain ⟨A2,c2,rfl,_,_,_⟩:=ho.shape);(rw [HDL.out]);clear ho hb2)
 go_ret2;exact ⟨rfl,HB.out.trans (HB2.out.mono (Nat.le_succ _))⟩
theorem recover_any (b:Int) (β:Nat) (hb:BitN b β) (s:ByteArray) (hs:s.size=32) (A:Option Addr) (n c B:Nat) (ps:List ByteArray) (w:World) (hG:Glob w) (hp:Sl fT w B A n ps) (hB:B≤w.heap.size) (hn:n=mN β+cN β) (hps:∀s∈ps,s.size=32):
 Calls Tryz.prog 203 #[.agg (cPm b),.string s,.slice A n c] w fun e w'=>e= .returned (.tuple #[.string (pubF β (dgF β (sB s)) ps),.int .i64 0])∧Below w.heap.size w w':=by
 obtain ⟨i0,hi,hz0,hz1,hz2⟩:=info_parts Tryz.infoS;have HI:=lh hi;have HZ0:=lh hz0;have HZ1:=lh hz1;have HZ2:=lh hz2;have HG:=lh hG;have HD:=lh (fun W=>digits_any b β hb s hs W);obtain ⟨T,hT1,hT2,hT3,hT4⟩:=bit_T hb;obtain ⟨M,hM1,hM2,hM3,hM4,hM5,hM6⟩:=bit_M hb;have HL:=lh (fun W=>yct b β hb W);rw [hM5] at HL;have hpw:((2:Int) ^ β)=((2 ^ β:Nat):Int):=by simp
 have HDR:Hid (∀d∈dgF β (sB s),0≤d∧d≤(M:Int)):=fun d h=>by
  have:=dgF_rng β (sB s) d h
  rw [hpw,hM6] at this;omega
 have HM1:=lh hM1;obtain ⟨ds,hds⟩:∃ds,dgF β (sB s)=ds:=⟨_,rfl⟩
 have hdl:ds.length=n:=by rw [←hds,dgF_len,hn]
 rw [hds] at HD HDR ⊢;have HDL:=lh hdl;have HPS:=lh hps;have hpl:ps.length=n:=hp.1;have HPL:=lh hpl;have hnT:n≤265:=by omega
 have hn1:1≤n:=by omega
 have HV:Hid (pubF β ds ps=baOf (shaB (pbL++jnL (endsF β ds ps n)))):=by
  show _=_
  unfold pubF;rw [pbL_eq,hpl]
 have HES:Hid (∀z∈endsF β ds ps n,z.size=32):=ydi β ds ps hps n om;rw [HV.out];have HB:Hid (Below w.heap.size w (w.alloc (.cells (cPm b) 268))):=bl;obtain ⟨W1,hW1⟩:∃W1:World,W1=w.alloc (.cells (cPm b) 268):=⟨_,rfl⟩
 have hsz:W1.heap.size=w.heap.size+1:=by rw [hW1];simp
 have hge:W1.heap[w.heap.size]? =some (.cells (cPm b) 268 (0,0)):=by rw [hW1];exact heap_alloc_new w _
 have HC:Hid (∀V,Below (w.heap.size+1) W1 V→V.cell? ⟨w.heap.size,0,none⟩=some (.int .i64 b)∧V.cell? ⟨w.heap.size,1,none⟩=some (.int .i64 32)):=fun V hv=>by
  have q:=(hv.block w.heap.size (Nat.lt_succ_self _)).trans hge;refine ⟨?_,?_⟩<;>(rw [cell_of_row V _ _ _ _ _ q];rfl)
 rw [←hW1] at HB;have HS:=lh hsz;have HWE:=lh hW1;have HB1:Hid (Below (w.heap.size+1) W1 W1):=Below.refl _ _;clear hge hsz hW1;have HP:Hid (∀V,Below (w.heap.size+1) W1 V→Sl fT V B A n ps):=fun V hv=>(hp.up HB.out hB).up hv (Nat.le_succ_of_le hB)
 have hBs:B≤w.heap.size:=hB;obtain ⟨c0,c1⟩:=HC.out W1 HB1.out;have hnn:((n:Int) != (n:Int))=false:=by simp
 clear hi hz0 hz1 hz2 hG hb hs hn hT1 hT4 hM1 hM4 hM5 hM6 hpw hds hdl hps hpl hp hT2 hT3;go_enter Tryz.func203,Tryz.ntmps203
 go_upto_region 1 with fail
 rw [←HWE.out]
 go_upto_region 6 with (first
  |(go_at_call 243;(with_reducible refine (HD.out _).mono ?_);rintro e w2 ⟨v2,rfl,ho,hb2⟩;(have HB2:=lh (HB1.out.trans (hb2.mono (Nat.le_of_eq HS.out.symm))));(obtain ⟨A2,c2,rfl,_,hs2,_⟩:=ho.shape);(rw [HDL.out]);(have HSD:Hid (Sl I w2 w2.heap.size A2 n ds):=⟨HDL.out,hs2⟩);clear ho hb2 hs2)
  |(at_make;(refine wpList_make_row w2 (o:=⟨some 30,_,_,_,_,_⟩) rfl (.tmp 29) (.tmp 29) 24 rfl 9 i0 (.string ⟨#[]⟩) Tryz.underlying24 HI.out HZ0.out HZ1.out rfl .i64 .i64 n rfl rfl (by rw [HZ2.out];omega) om ?_)))
 obtain ⟨bv,hbv⟩:∃b,b=w2.heap.size:=⟨_,rfl⟩
 obtain ⟨W3,hW3⟩:∃W:World,W=w2.alloc (.cells (madeCells #[.string ⟨#[]⟩] n) 9):=⟨_,rfl⟩
 have hb23:Below w2.heap.size w2 W3:=by rw [hW3];exact bl
 have hsz3:W3.heap.size=bv+1:=by rw [hW3,hbv];simp
 have hw2:w.heap.size+1≤bv:=by rw [hbv];exact HS.out▸HB2.out.size
 have hB3:Below (w.heap.size+1) W1 W3:=HB2.out.trans (hb23.mono (hbv▸hw2));have HB3:=lh hB3
 have HDK:Hid (∀V,Below bv W3 V→V.cell? ⟨w.heap.size,0,none⟩=some (.int .i64 b)∧V.cell? ⟨w.heap.size,1,none⟩=some (.int .i64 32)∧Sl I V bv A2 n ds∧Sl fT V B A n ps∧Below (w.heap.size+1) W1 V):=fun V hv=>by
  have hw:Below (w.heap.size+1) W1 V:=hB3.trans (hv.mono hw2);obtain ⟨k0,k1⟩:=HC.out V hw;have hsd:=(HSD.out.up hb23 nl);rw [←hbv] at hsd;exact ⟨k0,k1,hsd.up hv nl,HP.out V hw,hw⟩
 have hrow:∃cs,W3.heap[bv]? =some (.cells cs 9 (0,0))∧cs.toList=(endsF β ds ps 0++List.replicate n baNo).map fT:=⟨_,by rw [hW3,hbv];exact heap_alloc_new w2 _,by
  apply List.ext_getElem?;intro j;rw [Array.getElem?_toList];have hs:(madeCells #[Value.string ⟨#[]⟩] n).size=n:=by simp [madeCells]
  by_cases hj:j < n
  ·rw [Array.getElem?_eq_getElem om]
   simp [madeCells,endsF,hj,Nat.mod_one,baNo]
  ·rw [Array.getElem?_eq_none om,List.getElem?_eq_none (by simp [endsF];omega)]⟩
 have HROW:=lh hrow;have HBW:Hid (Below bv W3 W3):=Below.refl _ _;have HW2:=lh hw2;have HZ3:Hid (bv < W3.heap.size):=by show _ < _;omega
 rw [←hW3,←hbv];clear hbv hW3 hb23 hrow HSD HB2 hB3 hsz3 c0 c1 HP HC HB1 hw2
 go_loopw [33] (fun i wr=>∃(k:Nat),k≤n∧i= .int .i64 k∧Hid (Below bv W3 wr)∧Hid (∃cs,wr.heap[bv]? =some (.cells cs 9 (0,0))∧cs.toList=(endsF β ds ps k++List.replicate (n - k) baNo).map fT)) (fun i _=>n - (intOf i).toNat)
 case atStart=>exact ⟨0,by omega,rfl,HBW,HROW⟩
 case round=>
  clear HBW HROW;obtain ⟨k,hk,rfl,HBr,ROW⟩:=hrel
  by_cases hlt:k < n
  ·have hkI:(k:Int) < (n:Int):=by omega
   have hk0:(0:Int)≤(k:Int):=by omega
   obtain ⟨c0,c1,hsd,hsp,hbw⟩:=HDK.out wr HBr.out;obtain ⟨bd,od,dI,hAd,_,hgd,kd⟩:=hsd.2.at_ (k:=k) (by rw [HDL.out];exact hlt);obtain ⟨bp,op,x,hAp,_,hgp,kp⟩:=hsp.2.at_ (k:=k) (by rw [HPL.out];exact hlt);obtain ⟨d,rfl⟩:∃d:Nat,dI=(d:Int):=⟨dI.toNat,by have:=(HDR.out dI (List.mem_of_getElem? hgd)).1;omega⟩
   have hdM:d≤M:=by have:=(HDR.out _ (List.mem_of_getElem? hgd)).2;omega
   have hx32:x.size=32:=HPS.out x (List.mem_of_getElem? hgp)
   have HK:Hid (∀V,Below bv W3 V→V.cell? ⟨w.heap.size,0,none⟩=some (.int .i64 b)∧V.cell? ⟨w.heap.size,1,none⟩=some (.int .i64 32)∧V.cell? ⟨bd,od+k,none⟩=some (.int .i64 (d:Int))):=fun V hv=>by
    obtain ⟨c0,c1,hsd,_,_⟩:=HDK.out V hv;obtain ⟨b2,o2,x2,e2,_,g2,k2⟩:=hsd.2.at_ (k:=k) (by rw [HDL.out];exact hlt);rw [hAd] at e2
    cases e2
    rw [hgd] at g2
    cases g2
    exact ⟨c0,c1,k2⟩
   have HCH:Hid (∀V,Below bv W3 V→Calls Tryz.prog 244 #[.int .i64 k,.int .i64 d,.int .i64 M,.string x] V fun e w'=>e= .returned (.tuple #[.string (chF k d (M - d) x),.int .i64 0])∧Below V.heap.size V w'):=fun V hv=>chain_any k d M om hdM om x hx32 V (HG.out.on (HB.out.trans ((HDK.out V hv).2.2.2.2.mono (Nat.le_succ _))))
   have HNX:Hid (endsF β ds ps (k+1)=endsF β ds ps k++[chF k d (M - d) x]):=by
    show _=_
    rw [endsF_succ,ybg hgd,ybg hgp,HM1.out]
    rfl
   obtain ⟨cv,hcv⟩:∃c,chF k d (M - d) x=c:=⟨_,rfl⟩
   rw [hcv] at HCH HNX;have HBc:=HBr;subst hAd;subst hAp;clear hsd hsp hbw hgd hgp hx32 hcv
   go_upto_region 8 with fail
   refine wp_region_held_drew (S:=(fun w'=>w'.cell? ⟨w.heap.size,0,none⟩=some (.int .i64 b)∧w'.cell? ⟨w.heap.size,1,none⟩=some (.int .i64 32)∧w'.cell? ⟨bd,od+k,none⟩=some (.int .i64 (d:Int)))) yaV yai (fun hHeld=>?_);refine tkY 0 ?_;refine tkY 1 ?_;refine tkY 2 ?_;refine tkY 3 ?_;refine tkY 4 ?_;refine tkY 5 ?_;refine tkY 6 ?_;refine tkY 7 ?_;refine tkY 9 ?_;refine rd1 8 (fun K hK=>?_)
   (go_simp;go_at_call 245;(with_reducible refine (HL.out _).mono ?_);rintro e w4 ⟨rfl,hb4⟩;(have HB4:Hid (Below bv wr w4):=Below.trans (B:=bv) yaA (Below.mono hb4 (Nat.le_trans (Nat.le_of_lt HZ3.out) HBr.out.size)));(have HBc:Hid (Below bv W3 w4):=HBr.out.trans HB4.out);(have hrw:w4.heap[bv]? =wr.heap[bv]? :=(Below.trans (B:=wr.heap.size) yaA hb4).block bv (Nat.lt_of_lt_of_le HZ3.out HBr.out.size));(have HRW:=lh hrw);(have HS4:Hid (bv < w4.heap.size):=Nat.lt_of_lt_of_le (Nat.lt_of_lt_of_le HZ3.out HBr.out.size) hb4.size);clear hb4 hrw;go_wp2_with fail)
   refine hK.out _ _ yai (fun hHeldr9=>?_);clear hK K hHeld
   try simp only [pt]
   refine rd1 10 (fun K hK=>?_)
   (go_simp;go_at_call 244;(with_reducible refine (HCH.out _ HBc.out).mono ?_);rintro e w5 ⟨rfl,hb5⟩;(have hrw5:w5.heap[bv]? =wr.heap[bv]? :=(hb5.block bv HS4.out).trans HRW.out);(have HBc:Hid (Below bv W3 w5):=HBc.out.trans (hb5.mono (Nat.le_of_lt HS4.out)));(obtain ⟨cs,q1,q2⟩:=ROW.out);(rw [←hrw5] at q1);(have hcs:cs.size=n:=by rw [←Array.length_toList,q2,List.length_map,List.length_append,ycs,List.length_replicate];omega);(obtain ⟨u,hu⟩:∃u,cs[k]? =some u:=⟨_,Array.getElem?_eq_getElem om⟩);(have hcl:w5.cell? ⟨bv,k,none⟩=some u:=by rw [cell_of_row w5 bv k _ _ _ q1];exact hu);(have hfr:=frozen_of_row w5 bv k _ _ q1);(have Q1:=lh q1);(have Q2:=lh q2);(have HB6:Hid (Below bv W3 (w5.setCell ⟨bv,k,none⟩ (.string cv))):=HBc.out.setCell nl _);clear hb5 hrw5 q1 q2 hcs hu;go_wp2_with fail)
   refine hK.out _ _ yai (fun hHeldr10=>?_);clear hK K hHeldr9
   try simp only [pt]
   refine tkY 11 ?_;refine tkY 12 ?_;refine tkY 13 ?_;refine tkY 14 ?_;refine rd1 15 (fun K hK=>?_)
   go_simp
   refine hK.out _ _ yai (fun hHeldr15=>?_);clear hK K hHeldr10
   try simp only [pt]
   refine tkY 16 ?_;refine wpAnyH_done yaV ?_ _;clear hcl hfr
   go_wp2_with fail
   refine ⟨?rel,?measure⟩
   case rel=>
    refine ⟨k+1,by omega,by go_num,HB6,?_⟩;rw [HNX.out];refine ⟨_,heap_setCell_same w5 bv k _ _ (.string cv) Q1.out,?_⟩;rw [Array.toList_setIfInBounds,Q2.out,show n - k=(n - (k+1))+1 by omega]
    have:=set_mid (endsF β ds ps k) cv (n - (k+1))
    rw [ycs] at this;exact this
   case measure=>(simp [intOf]<;>omega)
  ·obtain rfl:k=n:=by omega
   obtain ⟨cs,q1,q2⟩:=ROW.out;rw [Nat.sub_self,List.replicate_zero,List.append_nil] at q2;have hb6:=(HDK.out wr HBr.out).2.2.2.2;have hbo:=HB.out.trans (hb6.mono (Nat.le_succ _))
   have HPK:Hid (Calls Tryz.prog 246 #[.slice (some ⟨bv,0,none⟩) k k] wr fun e w'=>e= .returned (.string (baOf (shaB (pbL++jnL (endsF β ds ps k)))))∧Below wr.heap.size wr w'):=
    pubkey_any _ k k wr.heap.size (endsF β ds ps k) wr (HG.out.on hbo) (row_sl q1 q2 (ycs _ _ _ _)) nl nl hn1 om HES.out
   have HBO:=lh hbo;clear q1 q2 hb6 hbo
   go_wp2_with (go_at_call 246;(with_reducible refine HPK.out.mono ?_);rintro e w6 ⟨rfl,hb6⟩;(have HB6:=lh (HBO.out.trans (hb6.mono HBO.out.size)));clear hb6)
   go_ret2;exact ⟨rfl,HB6.out⟩
