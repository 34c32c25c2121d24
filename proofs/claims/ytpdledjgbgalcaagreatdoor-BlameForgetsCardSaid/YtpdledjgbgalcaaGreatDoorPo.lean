/- stripe.Verify, any piece of at most 65536 bytes. The reference's Verify of a piece. Acquits, both. Lists of integers of any length; vaults in memory. -/
import Derived.Test.YtpdledjgbgalcaaGreatDoorPj
import Derived.Test.YtpdledjgbgalcaaGreatDoorS4
import Derived.Test.YtpdledjgbgalcaaGreatDoorNK
namespace Go.Proofs.YtpdledjgbgalcaaGreatDoor
set_option maxRecDepth 100000
set_option maxHeartbeats 16000000
open Go.RowKit Go.Lib
set_option linter.unusedVariables false
set_option linter.unusedSimpArgs false
theorem beqD (a b:ByteArray):decide (a=b)=(a.toList==b.toList):=by
 rw [←beq_toListBytes]
 show decide (a=b)=(a.data==b.data)
 by_cases h:a=b
 ·subst h;simp
 ·rw [decide_eq_false h]
  symm
  rw [beq_eq_false_iff_ne];exact fun h2=>h (ByteArray.ext h2)
def vrB (s:ByteArray) (ix:Int) (xs:List Int) (ys:List ByteArray):Bool:=
 decide (s.size=32∧(1≤ys.length∧ys.length≤16))&&(al32 ys&&(decide ((0≤ix∧ix < (ys.length:Int))∧(1≤xs.length∧xs.length≤65536))&&(decide (some (rootF 256 (blkU (xs.length+1) xs))=ys[ix.toNat]?)&&decide (rootF 256 ys=s))))
theorem sverify_any (s:ByteArray) (ix:Int) (A A':Option Addr) (n c m c' B:Nat) (xs:List Int) (ys:List ByteArray) (w:World) (hG:Glob w) (hc:n≤c) (hc':m≤c') (hx:Sl fB w B A n xs) (hy:Sl fT w B A' m ys) (hB:B≤w.heap.size) (hn:n≤1000000) (hm:m≤1000000) (hxb:Byt xs):
 Calls Tryz.prog 48 #[.agg #[.string s,.int .i64 ix,.slice A n c,.slice A' m c']] w fun e w'=>e= .returned (.bool (vrB s ix xs ys))∧Below w.heap.size w w':=by
 have hxl:xs.length=n:=hx.1;have hyl:ys.length=m:=hy.1;obtain ⟨W1,hW1⟩:∃W1:World,W1=w.alloc (.cells #[.string s,.int .i64 ix,.slice A n c,.slice A' m c'] 42):=⟨_,rfl⟩
 have hb1:Below w.heap.size w W1:=by rw [hW1];exact bl
 have hg1:W1.heap[w.heap.size]? =some (.cells #[.string s,.int .i64 ix,.slice A n c,.slice A' m c'] 42 (0,0)):=by rw [hW1];exact heap_alloc_new w _
 have HK:Hid (∀V,Below W1.heap.size W1 V→V.cell? ⟨w.heap.size,0,none⟩=some (.string s)∧V.cell? ⟨w.heap.size,1,none⟩=some (.int .i64 ix)∧V.cell? ⟨w.heap.size,2,none⟩=some (.slice A n c)∧V.cell? ⟨w.heap.size,3,none⟩=some (.slice A' m c')):=fun V hb=>by
  have q:=(hb.block _ (lt_of_block hg1)).trans hg1;refine ⟨?_,?_,?_,?_⟩<;>(rw [cell_of_row V _ _ _ _ _ q];rfl)
 have HCF:=lh (containsFU_any A' m c' B ys W1 (hy.up hb1 hB) hm);have HB1:=lh hb1;have HWE:=lh hW1;obtain ⟨k0,k1,k2,k3⟩:=HK.out W1 br;have HOF:Hid (0 < n→n≤65536→Calls Tryz.prog 101 #[.slice A n c,.int .i64 512] W1 fun e w'=>e= .returned (.tuple #[.string (rootF 256 (blkU (xs.length+1) xs)),.int .i64 0])∧Below W1.heap.size W1 w'):=fun h0 hl=>mof_any A n c B xs W1 (hG.on hb1) hc (hx.up hb1 hB) (Nat.le_trans hB hb1.size) h0 hl hxb
 have HRO:Hid (1≤m→m≤16→al32 ys=true→∀V,Below W1.heap.size W1 V→Calls Tryz.prog 102 #[.slice A' m c'] V fun e w'=>e= .returned (.string (rootF 256 ys))∧Below V.heap.size V w'):=fun h1 h2 h3 V hb=>yc4 256 A' m c' B ys V ((hG.on hb1).on hb) ((hy.up hb1 hB).up hb (Nat.le_trans hB hb1.size)) (Nat.le_trans (Nat.le_trans hB hb1.size) hb.size) hc' om h1 om (ydM.1 h3)
 have HY:Hid (∀V,Below W1.heap.size W1 V→Sl fT V B A' m ys):=fun V hb=>(hy.up hb1 hB).up hb (Nat.le_trans hB hb1.size)
 have HV:Hid (vrB s ix xs ys=(decide (s.size=32∧(1≤ys.length∧ys.length≤16))&&(al32 ys&&(decide ((0≤ix∧ix < (ys.length:Int))∧(1≤xs.length∧xs.length≤65536))&&(decide (some (rootF 256 (blkU (xs.length+1) xs))=ys[ix.toNat]?)&&decide (rootF 256 ys=s)))))):=rfl;rw [hxl,hyl] at HV;clear hx hxb hG hW1 hb1 hg1 hB;obtain ⟨al,hal⟩:∃al,al32 ys=al:=⟨_,rfl⟩
 rw [hal] at HCF HRO HV;rw [hxl] at HOF;obtain ⟨rd,hrd⟩:∃r,rootF 256 (blkU (n+1) xs)=r:=⟨_,rfl⟩
 obtain ⟨rs,hrs⟩:∃r,rootF 256 ys=r:=⟨_,rfl⟩
 rw [hrd] at HOF HV;rw [hrs] at HRO HV;clear hal hrd hrs hy
 by_cases c1:s.size=32
 ·by_cases c2:1≤m
  ·by_cases c3:m≤16
   ·cases al with
    |false=>
     (have HF:Hid (vrB s ix xs ys=false):=(by rw [HV.out];simp:_=_));(have g1:((s.size:Int) != 32)=false:=by simp [c1]);(have g2:¬((m:Int) < 1):=by omega);(have g3:¬(16:Int) < (m:Int):=by omega);clear HOF HRO HY HV c1 c2 c3;go_enter Tryz.func48,Tryz.ntmps48;(go_upto_region 1 with fail);rw [←HWE.out];(go_wp2_with (go_at_call 99;(with_reducible refine HCF.out.mono ?_);rintro e w1 ⟨rfl,hw1⟩;subst hw1));go_ret;exact ⟨by rw [HF.out];rfl,HB1.out⟩
    |true=>
     by_cases c4:0≤ix
     ·by_cases c5:ix < (m:Int)
      ·by_cases c6:1≤n
       ·by_cases c7:n≤65536
        ·obtain ⟨b1,o1,x,hA1,_,hg,_⟩:=(HY.out W1 br).2.at_ (k:=ix.toNat) om
         have HVM:Hid (vrB s ix xs ys=(decide (rd=x)&&decide (rs=s))):=by
          show _=_
          rw [HV.out,hg];have q1:decide (s.size=32∧1≤m∧m≤16)=true:=by simp [c1,c2,c3]
          have q2:decide ((0≤ix∧ix < (m:Int))∧1≤n∧n≤65536)=true:=by simp [c4,c5,c6,c7]
          rw [q1,q2];simp
         have HXC:Hid (∀V,Below W1.heap.size W1 V→V.cell? ⟨b1,o1+ix.toNat,none⟩=some (.string x)):=fun V hb=>by
          obtain ⟨b2,o2,x2,e2,_,hg2,hc2⟩:=(HY.out V hb).2.at_ (k:=ix.toNat) om;rw [hA1] at e2
          cases e2
          rw [hg] at hg2
          cases hg2
          exact hc2
         subst hA1;have HCO:=lh (HOF.out c6 c7);have HRR:=lh (HRO.out c2 c3 rfl);have g4:¬ix < 0:=by omega
         have g5:¬(m:Int)≤ix:=by omega
         have g6:¬(n:Int) < 1:=by omega
         have g7:¬(65536:Int) < (n:Int):=by omega
         (have g1:((s.size:Int) != 32)=false:=by simp [c1]);(have g2:¬((m:Int) < 1):=by omega);(have g3:¬(16:Int) < (m:Int):=by omega);clear HOF HRO HY HV c1 c2 c3 c6 c7 hg
         go_enter Tryz.func48,Tryz.ntmps48
         go_upto_region 1 with fail
         rw [←HWE.out]
         go_upto_region 8 with (first |(go_at_call 99;(with_reducible refine HCF.out.mono ?_);rintro e w1 ⟨rfl,hw1⟩;subst hw1) |(go_at_call 101;(with_reducible refine HCO.out.mono ?_);rintro e w2 ⟨rfl,hb2⟩;(have HB2:=lh hb2);clear hb2))
         clear k0 k1 k2 k3;have HB:Hid (Below W1.heap.size W1 w2):=HB2;obtain ⟨k0,k1,k2,k3⟩:=HK.out w2 HB2.out;have kx:=HXC.out w2 HB2.out
         cases hrx:decide (rd=x) with
         |false=>
          have hne:¬rd=x:=of_decide_eq_false hrx;have hbx:(rd.toList==x.toList)=false:=by rw [←beqD];exact hrx
          refine wp_region_held_drew (S:=(fun w'=>w'.cell? ⟨w.heap.size,0,none⟩=some (.string s)∧w'.cell? ⟨w.heap.size,1,none⟩=some (.int .i64 ix)∧w'.cell? ⟨w.heap.size,2,none⟩=some (.slice A n c)∧w'.cell? ⟨w.heap.size,3,none⟩=some (.slice (some ⟨b1,o1,none⟩) m c')∧w'.cell? ⟨b1,o1+ix.toNat,none⟩=some (.string x))) yaV yaa (fun hHeld=>?_);refine tkY 0 ?_;refine tkY 1 ?_;refine tkY 2 ?_;refine tkY 3 ?_;refine tkY 4 ?_;refine tkH (i:=5) (v:=?p5v) (y:=(Or.inl ⟨by rfl,?p5y⟩)) (h:=?p5r)
          case p5y=>(intro w hSw;(try dsimp only at hSw);(obtain ⟨q0,q1,q2,q3,q4⟩:=hSw);go_simp;try (with_reducible rfl))
          try simp only [pt]
          refine tkY 6 ?_;refine tkY 7 ?_;refine tkH (i:=8) (v:=?p8v) (y:=(Or.inl ⟨by rfl,?p8y⟩)) (h:=?p8r)
          case p8y=>(intro w hSw;(try dsimp only at hSw);(obtain ⟨q0,q1,q2,q3,q4⟩:=hSw);go_simp;try (with_reducible rfl))
          try simp only [pt]
          refine tkY 9 ?_;refine tkH (i:=10) (v:=?p10v) (y:=(Or.inl ⟨by rfl,?p10y⟩)) (h:=?p10r)
          case p10y=>(intro w hSw;(try dsimp only at hSw);(obtain ⟨q0,q1,q2,q3,q4⟩:=hSw);go_simp;try (with_reducible rfl))
          try simp only [pt]
          refine tkY 11 ?_;refine tkY 12 ?_;refine tkY 13 ?_;refine tkN 14 ?_;refine tkN 15 ?_;refine tkN 16 ?_;refine tkN 17 ?_;refine tkN 18 ?_;refine tkN 19 ?_;refine tkN 20 ?_;refine tkY 21 ?_;refine tkY 22 ?_;refine wpAnyH_done yaV ?_ _
          go_wp2_with fail
          go_ret;exact ⟨by rw [HVM.out,hrx];first |rfl |(simp;done),yaz⟩
         |true=>
          obtain rfl:x=rd:=(of_decide_eq_true hrx).symm;refine wp_region_held_drew (S:=(fun w'=>w'.cell? ⟨w.heap.size,0,none⟩=some (.string s)∧w'.cell? ⟨w.heap.size,1,none⟩=some (.int .i64 ix)∧w'.cell? ⟨w.heap.size,2,none⟩=some (.slice A n c)∧w'.cell? ⟨w.heap.size,3,none⟩=some (.slice (some ⟨b1,o1,none⟩) m c')∧w'.cell? ⟨b1,o1+ix.toNat,none⟩=some (.string x))) yaV yaa (fun hHeld=>?_);refine tkY 0 ?_;refine tkY 1 ?_;refine tkY 2 ?_;refine tkY 3 ?_;refine tkY 4 ?_;refine tkH (i:=5) (v:=?q5v) (y:=(Or.inl ⟨by rfl,?q5y⟩)) (h:=?q5r)
          case q5y=>(intro w hSw;(try dsimp only at hSw);(obtain ⟨q0,q1,q2,q3,q4⟩:=hSw);go_simp;try (with_reducible rfl))
          try simp only [pt]
          refine tkY 6 ?_;refine tkY 7 ?_;refine tkH (i:=8) (v:=?q8v) (y:=(Or.inl ⟨by rfl,?q8y⟩)) (h:=?q8r)
          case q8y=>(intro w hSw;(try dsimp only at hSw);(obtain ⟨q0,q1,q2,q3,q4⟩:=hSw);go_simp;try (with_reducible rfl))
          try simp only [pt]
          refine tkY 9 ?_;refine tkH (i:=10) (v:=?q10v) (y:=(Or.inl ⟨by rfl,?q10y⟩)) (h:=?q10r)
          case q10y=>(intro w hSw;(try dsimp only at hSw);(obtain ⟨q0,q1,q2,q3,q4⟩:=hSw);go_simp;try (with_reducible rfl))
          try simp only [pt]
          refine tkY 11 ?_;refine tkY 12 ?_;refine tkY 13 ?_;refine tkY 14 ?_;refine tkH (i:=15) (v:=?q15v) (y:=(Or.inl ⟨by rfl,?q15y⟩)) (h:=?q15r)
          case q15y=>(intro w hSw;(try dsimp only at hSw);(obtain ⟨q0,q1,q2,q3,q4⟩:=hSw);go_simp;try (with_reducible rfl))
          try simp only [pt]
          refine tkY 17 ?_;refine tkY 18 ?_;refine tkH (i:=19) (v:=?q18v) (y:=(Or.inl ⟨by rfl,?q18y⟩)) (h:=?q18r)
          case q18y=>(intro w hSw;(try dsimp only at hSw);(obtain ⟨q0,q1,q2,q3,q4⟩:=hSw);go_simp;try (with_reducible rfl))
          try simp only [pt]
          refine rd1 16 (fun K hK=>?_)
          (go_simp;go_at_call 102;(with_reducible refine (HRR.out _ yav).mono ?_);rintro e W6 ⟨rfl,b6⟩;(have HB:Hid (Below W1.heap.size W1 W6):=(Below.trans (B:=W1.heap.size) yav (b6.mono yaK)));clear b6;go_wp2_with fail)
          refine hK.out _ _ yaa (fun hHeldq19=>?_);clear hK K hHeld
          try simp only [pt]
          refine tkY 20 ?_;refine tkY 21 ?_;refine tkY 22 ?_;refine wpAnyH_done yaV ?_ _
          go_wp2_with fail
          go_ret;exact ⟨by rw [HVM.out,beqD rs s];first |rfl |(simp;done),yaz⟩
        ·(have HF:Hid (vrB s ix xs ys=false):=(by rw [HV.out];simp [*]:_=_));(have g1:((s.size:Int) != 32)=false:=by simp [c1]);(have g2:¬((m:Int) < 1):=by omega);(have g3:¬(16:Int) < (m:Int):=by omega);(try (have g4:ix < 0:=by omega));(try (have g4:¬ix < 0:=by omega));(try (have g5:(m:Int)≤ix:=by omega));(try (have g5:¬(m:Int)≤ix:=by omega));(try (have g6:(n:Int) < 1:=by omega));(try (have g6:¬(n:Int) < 1:=by omega));(try (have g7:(65536:Int) < (n:Int):=by omega));(try (have g7:¬(65536:Int) < (n:Int):=by omega));clear HOF HRO HY HV c1 c2 c3;go_enter Tryz.func48,Tryz.ntmps48;(go_upto_region 1 with fail);rw [←HWE.out];(go_wp2_with (go_at_call 99;(with_reducible refine HCF.out.mono ?_);rintro e w1 ⟨rfl,hw1⟩;subst hw1));go_ret;exact ⟨by rw [HF.out];rfl,HB1.out⟩
       ·(have HF:Hid (vrB s ix xs ys=false):=(by rw [HV.out];simp [*]:_=_));(have g1:((s.size:Int) != 32)=false:=by simp [c1]);(have g2:¬((m:Int) < 1):=by omega);(have g3:¬(16:Int) < (m:Int):=by omega);(try (have g4:ix < 0:=by omega));(try (have g4:¬ix < 0:=by omega));(try (have g5:(m:Int)≤ix:=by omega));(try (have g5:¬(m:Int)≤ix:=by omega));(try (have g6:(n:Int) < 1:=by omega));(try (have g6:¬(n:Int) < 1:=by omega));(try (have g7:(65536:Int) < (n:Int):=by omega));(try (have g7:¬(65536:Int) < (n:Int):=by omega));clear HOF HRO HY HV c1 c2 c3;go_enter Tryz.func48,Tryz.ntmps48;(go_upto_region 1 with fail);rw [←HWE.out];(go_wp2_with (go_at_call 99;(with_reducible refine HCF.out.mono ?_);rintro e w1 ⟨rfl,hw1⟩;subst hw1));go_ret;exact ⟨by rw [HF.out];rfl,HB1.out⟩
      ·(have HF:Hid (vrB s ix xs ys=false):=(by rw [HV.out];simp [*]:_=_));(have g1:((s.size:Int) != 32)=false:=by simp [c1]);(have g2:¬((m:Int) < 1):=by omega);(have g3:¬(16:Int) < (m:Int):=by omega);(try (have g4:ix < 0:=by omega));(try (have g4:¬ix < 0:=by omega));(try (have g5:(m:Int)≤ix:=by omega));(try (have g5:¬(m:Int)≤ix:=by omega));(try (have g6:(n:Int) < 1:=by omega));(try (have g6:¬(n:Int) < 1:=by omega));(try (have g7:(65536:Int) < (n:Int):=by omega));(try (have g7:¬(65536:Int) < (n:Int):=by omega));clear HOF HRO HY HV c1 c2 c3;go_enter Tryz.func48,Tryz.ntmps48;(go_upto_region 1 with fail);rw [←HWE.out];(go_wp2_with (go_at_call 99;(with_reducible refine HCF.out.mono ?_);rintro e w1 ⟨rfl,hw1⟩;subst hw1));go_ret;exact ⟨by rw [HF.out];rfl,HB1.out⟩
     ·(have HF:Hid (vrB s ix xs ys=false):=(by rw [HV.out];simp [*]:_=_));(have g1:((s.size:Int) != 32)=false:=by simp [c1]);(have g2:¬((m:Int) < 1):=by omega);(have g3:¬(16:Int) < (m:Int):=by omega);(try (have g4:ix < 0:=by omega));(try (have g4:¬ix < 0:=by omega));(try (have g5:(m:Int)≤ix:=by omega));(try (have g5:¬(m:Int)≤ix:=by omega));(try (have g6:(n:Int) < 1:=by omega));(try (have g6:¬(n:Int) < 1:=by omega));(try (have g7:(65536:Int) < (n:Int):=by omega));(try (have g7:¬(65536:Int) < (n:Int):=by omega));clear HOF HRO HY HV c1 c2 c3;go_enter Tryz.func48,Tryz.ntmps48;(go_upto_region 1 with fail);rw [←HWE.out];(go_wp2_with (go_at_call 99;(with_reducible refine HCF.out.mono ?_);rintro e w1 ⟨rfl,hw1⟩;subst hw1));go_ret;exact ⟨by rw [HF.out];rfl,HB1.out⟩
   ·(have HF:Hid (vrB s ix xs ys=false):=(by rw [HV.out];simp [*]:_=_));(have g1:((s.size:Int) != 32)= !decide (s.size=32):=by (by_cases h:s.size=32<;>simp [h]<;>omega));(try (have g2:((m:Int) < 1):=by omega));(try (have g2:¬((m:Int) < 1):=by omega));(try (have g3:(16:Int) < (m:Int):=by omega));(try (have g3:¬(16:Int) < (m:Int):=by omega));(simp only [c1,decide_true,decide_false,Bool.not_true,Bool.not_false] at g1);clear HCF HOF HRO HY HV;go_enter Tryz.func48,Tryz.ntmps48;(go_upto_region 1 with fail);rw [←HWE.out];go_wp2;go_ret;exact ⟨by rw [HF.out];rfl,HB1.out⟩
  ·(have HF:Hid (vrB s ix xs ys=false):=(by rw [HV.out];simp [*]:_=_));(have g1:((s.size:Int) != 32)= !decide (s.size=32):=by (by_cases h:s.size=32<;>simp [h]<;>omega));(try (have g2:((m:Int) < 1):=by omega));(try (have g2:¬((m:Int) < 1):=by omega));(try (have g3:(16:Int) < (m:Int):=by omega));(try (have g3:¬(16:Int) < (m:Int):=by omega));(simp only [c1,decide_true,decide_false,Bool.not_true,Bool.not_false] at g1);clear HCF HOF HRO HY HV;go_enter Tryz.func48,Tryz.ntmps48;(go_upto_region 1 with fail);rw [←HWE.out];go_wp2;go_ret;exact ⟨by rw [HF.out];rfl,HB1.out⟩
 ·(have HF:Hid (vrB s ix xs ys=false):=(by rw [HV.out];simp [*]:_=_));(have g1:((s.size:Int) != 32)= !decide (s.size=32):=by (by_cases h:s.size=32<;>simp [h]<;>omega));(try (have g2:((m:Int) < 1):=by omega));(try (have g2:¬((m:Int) < 1):=by omega));(try (have g3:(16:Int) < (m:Int):=by omega));(try (have g3:¬(16:Int) < (m:Int):=by omega));(simp only [c1,decide_true,decide_false,Bool.not_true,Bool.not_false] at g1);clear HCF HOF HRO HY HV;go_enter Tryz.func48,Tryz.ntmps48;(go_upto_region 1 with fail);rw [←HWE.out];go_wp2;go_ret;exact ⟨by rw [HF.out];rfl,HB1.out⟩
abbrev cPi (s:ByteArray) (ix:Int) (A:Option Addr) (n c:Nat) (A':Option Addr) (m c':Nat):Array Value:=#[.string s,.int .i64 ix,.slice A n c,.slice A' m c']
def aqB (R:Rcp) (s:ByteArray) (ix:Int) (xs:List Int) (ys:List ByteArray):Bool:=decide (s=R.s)&&(decide (ix=R.ix)&&(decide ((xs.length:Int)=R.sz)&&vrB s ix xs ys))
theorem acquits_any (d q:Int) (R:Rcp) (st:ByteArray) (tx:Int) (no an:ByteArray) (s:ByteArray) (ix:Int) (A A':Option Addr) (n c m c' B:Nat) (xs:List Int) (ys:List ByteArray) (w:World) (hG:Glob w) (hc:n≤c) (hc':m≤c') (hx:Sl fB w B A n xs) (hy:Sl fT w B A' m ys) (hB:B≤w.heap.size) (hn:n≤1000000) (hm:m≤1000000) (hxb:Byt xs):
 Calls Tryz.prog 15 #[.agg (cA d q R st tx no an),.agg (cPi s ix A n c A' m c')] w fun e w'=>e= .returned (.bool (aqB R s ix xs ys))∧Below w.heap.size w w':=by
 have HF:Hid (aqB R s ix xs ys=(decide (s=R.s)&&(decide (ix=R.ix)&&(decide ((xs.length:Int)=R.sz)&&vrB s ix xs ys)))):=rfl;have hxl:xs.length=n:=hx.1;have hb1:Below w.heap.size w ((w.alloc (.cells (cA d q R st tx no an) 39)).alloc (.cells (cPi s ix A n c A' m c') 42)):=bl.alloc sI _;have HV:Hid (∀V,Below w.heap.size w V→Calls Tryz.prog 48 #[.agg (cPi s ix A n c A' m c')] V fun e w'=>e= .returned (.bool (vrB s ix xs ys))∧Below V.heap.size V w'):=fun V hb=>sverify_any s ix A A' n c m c' B xs ys V (hG.on hb) hc hc' (hx.up hb hB) (hy.up hb hB) (Nat.le_trans hB hb.size) hn hm hxb
 have HB1:=lh hb1;have HC:=lh (HV.out _ hb1);rw [hxl] at HF;obtain ⟨vb,hvb⟩:∃v,vrB s ix xs ys=v:=⟨_,rfl⟩
 rw [hvb] at HC HF;clear HV hx hy hxb hxl hvb hb1 hG;obtain ⟨hd,vt,rst,rix,sz,dy,sr,ct,pl,rt,pa,si,pb,pc⟩:=R;dsimp only at HF HC HB1 ⊢
 by_cases h1:s=rst
 ·subst h1
  rw [decide_eq_true rfl,Bool.true_and] at HF
  by_cases h2:ix=rix
  ·subst h2
   rw [decide_eq_true rfl,Bool.true_and] at HF
   by_cases h3:(n:Int)=sz
   ·subst h3
    rw [decide_eq_true rfl,Bool.true_and] at HF;go_enter Tryz.func15,Tryz.ntmps15
    go_wp2_with (go_at_call 48;(with_reducible refine HC.out.mono ?_);rintro e w1 ⟨rfl,hb2⟩;(have HB2:=lh hb2);clear hb2)
    go_ret;exact ⟨by rw [HF.out];rfl,HB1.out.trans (HB2.out.mono yaW)⟩
   ·rw [decide_eq_false h3,Bool.false_and] at HF
    have h3I:((n:Int)==sz)=false:=by simp [h3]
    go_enter Tryz.func15,Tryz.ntmps15;go_wp2;go_ret;exact ⟨by rw [HF.out];rfl,HB1.out⟩
  ·rw [decide_eq_false h2,Bool.false_and] at HF
   have h2I:(ix==rix)=false:=by simp [h2]
   go_enter Tryz.func15,Tryz.ntmps15;go_wp2;go_ret;exact ⟨by rw [HF.out];rfl,HB1.out⟩
 ·rw [decide_eq_false h1,Bool.false_and] at HF
  have h1t:¬s.toList=rst.toList:=fun h=>h1 (by have:=beqD s rst;rw [decide_eq_false h1] at this;simp [h] at this)
  have h1I:(s.toList==rst.toList)=false:=by rw [←beqD,decide_eq_false h1]
  have h1D:decide (s.toList=rst.toList)=false:=by simp [h1t]
  go_enter Tryz.func15,Tryz.ntmps15;go_wp2;go_ret;exact ⟨by rw [HF.out];rfl,HB1.out⟩
theorem indexJ_any (A:Option Addr) (n c B:Nat) (xs:List Int) (h:Int) (w:World) (hx:Sl I w B A n xs) (hl:n≤9223372036854775807):
 Calls Tryz.prog 86 #[.slice A n c,.int .i64 h] w fun e w'=>∃z:Int,e= .returned (.int .i64 z)∧(decide (0≤z)=xs.contains h)∧w=w':=by
 have HX:=lh hx;have HXN:Hid (xs.length=n):=hx.1;clear hx;go_enter Tryz.func86,Tryz.ntmps86;go_wp2
 go_loopw [8] (fun i wr=>IdxP h xs w i wr) (fun i _=>n - (intOf i).toNat)
 case atStart=>exact ⟨0,by omega,rfl,by show h∉xs.take 0;simp,rfl⟩
 case round=>
  obtain ⟨k,hk,rfl,HN,rfl⟩:=hrel;rw [HXN.out] at hk
  by_cases hlt:k < n
  ·obtain ⟨b,off,x,rfl,_,hg,hc⟩:=HX.out.2.at_ (k:=k) yaR
   have hkI:(k:Int) < (n:Int):=by omega
   by_cases hxe:h=x
   ·subst hxe
    have HIn:Hid (xs.contains h=true):=by
     show _=_
     simp only [List.contains_iff_mem];exact List.mem_of_getElem? hg
    clear hg;go_wp2;go_ret;exact ⟨_,rfl,by rw [HIn.out];simp,rfl⟩
   ·have HG:=lh hg
    have HNE:=lh hxe;clear hg;go_wp2;refine ⟨?rel,?measure⟩
    case rel=>exact ⟨k+1,by rw [HXN.out];omega,by go_num,notin_snoc HG.out HN.out HNE.out,rfl⟩
    case measure=>simp [intOf];omega
  ·obtain rfl:k=n:=by omega
   go_wp2;go_ret;refine ⟨-1,rfl,?_,rfl⟩;have h1:=HN.out;rw [List.take_of_length_le yaM] at h1
   have h2:xs.contains h=false:=by
    cases hc:xs.contains h
    ·rfl
    ·rw [List.contains_iff_mem] at hc;exact absurd hc h1
   rw [h2];rfl
theorem containsJ_any (A:Option Addr) (n c B:Nat) (xs:List Int) (h:Int) (w:World) (hx:Sl I w B A n xs) (hl:n≤9223372036854775807):
 Calls Tryz.prog 41 #[.slice A n c,.int .i64 h] w fun e w'=>e= .returned (.bool (xs.contains h))∧w=w':=by
 have HC:=lh (indexJ_any A n c B xs h w hx hl);clear hx;go_enter Tryz.func41,Tryz.ntmps41
 go_wp2_with (first
  |(go_at_call 86;(with_reducible refine HC.out.mono ?_);rintro e w1 ⟨z,rfl,hz,rfl⟩;(have HZ:=lh hz);clear hz))
 go_ret;exact ⟨ya2 HZ.out,rfl⟩
structure VtR where
 num:Int
 wr:Hd
 dt:Int
 tt:Int
 th:Int
 pr:ByteArray
 c0:Int
 c1:Int
 c2:Int
 c3:Int
 c4:Int
 r0:Int
 r1:Int
 r2:Int
 r3:Int
 xs:List Int
abbrev fVt (v:VtR):List Value:=[.int .i64 v.num,.slice v.wr.a v.wr.n v.wr.c,.int .i64 v.dt,.int .i64 v.tt,.int .i64 v.th,.string v.pr,.int .i64 v.c0,.int .i64 v.c1,.int .i64 v.c2,.int .i64 v.c3,.int .u64 v.c4,.int .i64 v.r0,.int .i64 v.r1,.int .i64 v.r2,.int .i64 v.r3]
def VtIn (w:World) (B:Nat) (A:Option Addr) (n:Nat) (vs:List VtR):Prop:=SlN fVt 15 w B A n vs∧∀v∈vs,Sl I w B v.wr.a v.wr.n v.xs∧v.wr.n≤9223372036854775807
theorem VtIn.up {w w':World} {B B' n:Nat} {A:Option Addr} {vs:List VtR} (h:VtIn w B A n vs) (hb:Below B' w w') (hB:B≤B'):VtIn w' B A n vs:=⟨h.1.up hb hB,fun v hv=>⟨(h.2 v hv).1.up hb hB,(h.2 v hv).2⟩⟩
theorem Tryz.sizeVt:(Tryz.prog.info? 99).map (·.size)=some 15:=by kernel_rfl
theorem sizeVtL (v:VtR):(Tryz.prog.info? 99).map (·.size)=some (fVt v).length:=Tryz.sizeVt
def fiV (vt:Int):List VtR→Option VtR
 | []=>none
 |v::t=>if v.num=vt then some v else fiV vt t
theorem fiV_skip {vt:Int}:∀ {vs:List VtR} {k:Nat} {v:VtR},vs[k]? =some v→(∀(j:Nat) (u:VtR),j < k→vs[j]? =some u→u.num≠vt)→fiV vt vs=fiV vt (vs.drop k)
 | [],k,v,h,_=>by simp at h
 |u::t,0,v,h,_=>rfl
 |u::t,k+1,v,h,hn=>by
  have h0:=hn 0 u om rfl;rw [fiV,if_neg h0,List.drop_succ_cons];exact fiV_skip (vs:=t) (k:=k) (v:=v) (by simpa using h) (fun j y hj hy=>hn (j+1) y om (by simpa using hy))
theorem fiV_at {vt:Int} {vs:List VtR} {k:Nat} {v:VtR} (h:vs[k]? =some v) (hv:v.num=vt) (hn:∀(j:Nat) (u:VtR),j < k→vs[j]? =some u→u.num≠vt):fiV vt vs=some v:=by
 rw [fiV_skip h hn];have hk:=(List.getElem?_eq_some_iff.1 h);rw [List.drop_eq_getElem_cons hk.1,hk.2,fiV,if_pos hv]
theorem fiV_none {vt:Int}:∀ {vs:List VtR},(∀(j:Nat) (u:VtR),vs[j]? =some u→u.num≠vt)→fiV vt vs=none
 | [],_=>rfl
 |u::t,hn=>by
  rw [fiV,if_neg (hn 0 u rfl)];exact fiV_none (vs:=t) (fun j y hy=>hn (j+1) y (by simpa using hy))
theorem vcl_any (v:VtR) (g:Nat) (vt:Int) (w:World) (hg:∀V,Below w.heap.size w V→V.cell? ⟨g,3,none⟩=some (.int .i64 vt)):
 Calls Tryz.prog 40 #[.agg (fVt v).toArray,.pointer (some ⟨g,0,none⟩)] w fun e w'=>e= .returned (.bool (decide (v.num=vt)))∧Below w.heap.size w w':=by
 have hb:Below w.heap.size w (w.alloc (.cells (fVt v).toArray 99)):=bl;have k3:=hg _ hb;have HB:=lh hb;have HE:Hid (decide (v.num=vt)=(v.num==vt)):=by show _=_;by_cases h:v.num=vt<;>simp [h]
 rw [HE.out];obtain ⟨num,wr,dt,tt,th,pr,c0,c1,c2,c3,c4,r0,r1,r2,r3,xs⟩:=v;dsimp only at HE HB k3 ⊢;clear hg hb;go_enter Tryz.func40,Tryz.ntmps40;go_wp2;go_ret;exact ⟨rfl,HB.out⟩
def FiP (vt:Int) (vs:List VtR) (w:World) (e:Ending) (w':World):Prop:=
 ∃z:Int,e= .returned (.int .i64 z)∧((∃(k:Nat) (v:VtR),z=(k:Int)∧vs[k]? =some v∧fiV vt vs=some v)∨(z= -1∧fiV vt vs=none))∧Below w.heap.size w w'
theorem indexV_any (A:Option Addr) (n c B:Nat) (vs:List VtR) (g:Nat) (vt:Int) (w:World) (hx:SlN fVt 15 w B A n vs) (hB:B≤w.heap.size) (hn:n≤1000000) (hg:∀V,Below w.heap.size w V→V.cell? ⟨g,3,none⟩=some (.int .i64 vt)):
 Calls Tryz.prog 39 #[.slice A n c,.func (.func 40) #[] #[.pointer (some ⟨g,0,none⟩)]] w (FiP vt vs w):=by
 have HX:Hid (∀V,Below w.heap.size w V→SlN fVt 15 V B A n vs):=fun V hb=>hx.up hb hB
 have HXN:Hid (vs.length=n):=hx.1;have HC:Hid (∀v V,Below w.heap.size w V→Calls Tryz.prog 40 #[.agg (fVt v).toArray,.pointer (some ⟨g,0,none⟩)] V fun e w'=>e= .returned (.bool (decide (v.num=vt)))∧Below V.heap.size V w'):=fun v V hb=>vcl_any v g vt V (fun V2 h2=>hg V2 (hb.trans (h2.mono hb.size)))
 have HB0:Hid (Below w.heap.size w w):=Below.refl _ _;clear hx hg;go_enter Tryz.func39,Tryz.ntmps39;go_wp2
 go_loopw [8] (fun i wr=>∃k:Nat,k≤n∧i= .int .i64 k∧Hid (∀(j:Nat) (u:VtR),j < k→vs[j]? =some u→u.num≠vt)∧Hid (Below w.heap.size w wr)) (fun i _=>n - (intOf i).toNat)
 case atStart=>exact ⟨0,by omega,rfl,fun j u hj=>absurd hj om,HB0⟩
 case round=>
  clear HB0;obtain ⟨k,hk,rfl,HK,HBr⟩:=hrel
  by_cases hlt:k < n
  ·obtain ⟨b1,o1,v,hA,_,hgv,hcv⟩:=(HX.out wr HBr.out).at_ (k:=k) hlt
   subst hA;have hkI:(k:Int) < (n:Int):=by omega
   have hk0:(0:Int)≤(k:Int):=by omega
   have HRG:Hid (wr.rangeAt b1 (o1+k*15) (fVt v)):=fun j u hj=>by
    have:=hcv j u hj
    rw [←Nat.add_assoc] at this;exact this
   have HCV:=lh (HC.out v wr HBr.out);clear hcv
   by_cases hv:v.num=vt
   ·rw [decide_eq_true hv] at HCV
    have HF:Hid (fiV vt vs=some v):=fiV_at hgv hv HK.out;have HGV:=lh hgv;clear hv hgv
    go_wp2_with (first
     |(with_reducible refine wpList_load_mid (op:=⟨some 15,_,_,_,_,_⟩) rfl 99 (.tmp 14) rfl b1 (o1+k*15) rfl (fVt v) _ HRG.out Tryz.underlying99 rfl (sizeVtL v) ?_)
     |(go_at_call 40;(with_reducible refine HCV.out.mono ?_);rintro e w1 ⟨rfl,hb1⟩;(have HB1:=lh (HBr.out.trans (hb1.mono HBr.out.size)));clear hb1))
    go_ret;exact ⟨_,rfl,Or.inl ⟨k,v,rfl,HGV.out,HF.out⟩,HB1.out⟩
   ·rw [decide_eq_false hv] at HCV
    have HK2:Hid (∀(j:Nat) (u:VtR),j < k+1→vs[j]? =some u→u.num≠vt):=fun j u hj h=>by
     rcases Nat.lt_or_ge j k with c |c
     ·exact HK.out j u c h
     ·obtain rfl:j=k:=by omega
      rw [hgv] at h;cases h;exact hv
    clear hv hgv
    go_wp2_with (first
     |(with_reducible refine wpList_load_mid (op:=⟨some 15,_,_,_,_,_⟩) rfl 99 (.tmp 14) rfl b1 (o1+k*15) rfl (fVt v) _ HRG.out Tryz.underlying99 rfl (sizeVtL v) ?_)
     |(go_at_call 40;(with_reducible refine HCV.out.mono ?_);rintro e w1 ⟨rfl,hb1⟩;(have HB1:=lh (HBr.out.trans (hb1.mono HBr.out.size)));clear hb1))
    refine ⟨?rel,?measure⟩
    case rel=>exact ⟨k+1,by omega,by go_num,HK2,HB1⟩
    case measure=>(simp [intOf]<;>omega)
  ·obtain rfl:k=n:=by omega
   have HF:Hid (fiV vt vs=none):=fiV_none (fun j u h=>HK.out j u (by have:=(List.getElem?_eq_some_iff.1 h).1;have:=HXN.out;omega) h);go_wp2;go_ret;exact ⟨_,rfl,Or.inr ⟨rfl,HF.out⟩,HBr.out⟩
