/- stripe.Verify, any piece of at most 65536 bytes. -/
import Derived.Test.YtpdledjgbgalcaaGreatDoorPk
namespace Go.Proofs.YtpdledjgbgalcaaGreatDoor
set_option maxRecDepth 100000
set_option maxHeartbeats 8000000
open Go.RowKit Go.Lib
set_option linter.unusedVariables false
set_option linter.unusedSimpArgs false
theorem beqD (a b:ByteArray):decide (a=b)=(a.toList==b.toList):=by
 rw [←beq_toListBytes]
 show decide (a=b)=(a.data==b.data)
 by_cases h:a=b
 ·subst h;simp
 ·rw [decide_eq_false h]
  symm
  rw [beq_eq_false_iff_ne]
  exact fun h2=>h (ByteArray.ext h2)
def vrB (s:ByteArray) (ix:Int) (xs:List Int) (ys:List ByteArray):Bool:=
 decide (s.size=32∧(1≤ys.length∧ys.length≤16))&&(al32 ys&&(decide ((0≤ix∧ix < (ys.length:Int))∧(1≤xs.length∧xs.length≤65536))&&(decide (some (rootF 256 (blkU (xs.length+1) xs))=ys[ix.toNat]?)&&decide (rootF 256 ys=s))))
theorem sverify_any (s:ByteArray) (ix:Int) (A A':Option Addr) (n c m c' B:Nat) (xs:List Int) (ys:List ByteArray) (w:World) (hG:Glob w) (hc:n≤c) (hc':m≤c') (hx:Sl fB w B A n xs) (hy:Sl fT w B A' m ys) (hB:B≤w.heap.size) (hn:n≤1000000) (hm:m≤1000000) (hxb:Byt xs):
 Calls Tryz.prog 48 #[.agg #[.string s,.int .i64 ix,.slice A n c,.slice A' m c']] w fun e w'=>e= .returned (.bool (vrB s ix xs ys))∧Below w.heap.size w w':=by
 have hxl:xs.length=n:=hx.1
 have hyl:ys.length=m:=hy.1
 obtain ⟨W1,hW1⟩:∃W1:World,W1=w.alloc (.cells #[.string s,.int .i64 ix,.slice A n c,.slice A' m c'] 42):=⟨_,rfl⟩
 have hb1:Below w.heap.size w W1:=by rw [hW1];exact (Below.refl _ _).alloc (Nat.le_refl _) _
 have hg1:W1.heap[w.heap.size]? =some (.cells #[.string s,.int .i64 ix,.slice A n c,.slice A' m c'] 42 (0,0)):=by rw [hW1];exact heap_alloc_new w _
 have HK:Hid (∀V,Below W1.heap.size W1 V→V.cell? ⟨w.heap.size,0,none⟩=some (.string s)∧V.cell? ⟨w.heap.size,1,none⟩=some (.int .i64 ix)∧V.cell? ⟨w.heap.size,2,none⟩=some (.slice A n c)∧V.cell? ⟨w.heap.size,3,none⟩=some (.slice A' m c')):=fun V hb=>by
  have q:=(hb.block _ (lt_of_block hg1)).trans hg1
  refine ⟨?_,?_,?_,?_⟩<;>(rw [cell_of_row V _ _ _ _ _ q];rfl)
 have HCF:=Lib.hid (containsFU_any A' m c' B ys W1 (hy.up hb1 hB) hm)
 have HB1:=Lib.hid hb1
 have HWE:=Lib.hid hW1
 obtain ⟨k0,k1,k2,k3⟩:=HK.out W1 (Below.refl _ _)
 have HOF:Hid (0 < n→n≤65536→Calls Tryz.prog 101 #[.slice A n c,.int .i64 512] W1 fun e w'=>e= .returned (.tuple #[.string (rootF 256 (blkU (xs.length+1) xs)),.int .i64 0])∧Below W1.heap.size W1 w'):=fun h0 hl=>mof_any A n c B xs W1 (hG.on hb1) hc (hx.up hb1 hB) (Nat.le_trans hB hb1.size) h0 hl hxb
 have HRO:Hid (1≤m→m≤16→al32 ys=true→∀V,Below W1.heap.size W1 V→Calls Tryz.prog 102 #[.slice A' m c'] V fun e w'=>e= .returned (.string (rootF 256 ys))∧Below V.heap.size V w'):=fun h1 h2 h3 V hb=>mroot_any 256 A' m c' B ys V ((hG.on hb1).on hb) ((hy.up hb1 hB).up hb (Nat.le_trans hB hb1.size)) (Nat.le_trans (Nat.le_trans hB hb1.size) hb.size) hc' (by omega) h1 (by omega) (al32_iff.1 h3)
 have HY:Hid (∀V,Below W1.heap.size W1 V→Sl fT V B A' m ys):=fun V hb=>(hy.up hb1 hB).up hb (Nat.le_trans hB hb1.size)
 have HV:Hid (vrB s ix xs ys=(decide (s.size=32∧(1≤ys.length∧ys.length≤16))&&(al32 ys&&(decide ((0≤ix∧ix < (ys.length:Int))∧(1≤xs.length∧xs.length≤65536))&&(decide (some (rootF 256 (blkU (xs.length+1) xs))=ys[ix.toNat]?)&&decide (rootF 256 ys=s)))))):=rfl
 rw [hxl,hyl] at HV
 clear hx hxb hG hW1 hb1 hg1 hB
 obtain ⟨al,hal⟩:∃al,al32 ys=al:=⟨_,rfl⟩
 rw [hal] at HCF HRO HV
 rw [hxl] at HOF
 obtain ⟨rd,hrd⟩:∃r,rootF 256 (blkU (n+1) xs)=r:=⟨_,rfl⟩
 obtain ⟨rs,hrs⟩:∃r,rootF 256 ys=r:=⟨_,rfl⟩
 rw [hrd] at HOF HV
 rw [hrs] at HRO HV
 clear hal hrd hrs hy
 by_cases c1:s.size=32
 ·by_cases c2:1≤m
  ·by_cases c3:m≤16
   ·cases al with
    |false=>
     (have HF:Hid (vrB s ix xs ys=false):=(by rw [HV.out];simp:_=_));(have g1:((s.size:Int) != 32)=false:=by simp [c1]);(have g2:¬((m:Int) < 1):=by omega);(have g3:¬(16:Int) < (m:Int):=by omega);clear HOF HRO HY HV c1 c2 c3;go_enter Tryz.func48,Tryz.ntmps48;(go_upto_region 1 with fail);rw [←HWE.out];(go_wp2_with (go_at_call 99;(with_reducible refine HCF.out.mono ?_);rintro e w1 ⟨rfl,hw1⟩;subst hw1));go_ret;exact ⟨by rw [HF.out];rfl,HB1.out⟩
    |true=>
     by_cases c4:0≤ix
     ·by_cases c5:ix < (m:Int)
      ·by_cases c6:1≤n
       ·by_cases c7:n≤65536
        ·obtain ⟨b1,o1,x,hA1,_,hg,_⟩:=(HY.out W1 (Below.refl _ _)).2.at_ (k:=ix.toNat) (by omega)
         have HVM:Hid (vrB s ix xs ys=(decide (rd=x)&&decide (rs=s))):=by
          show _=_
          rw [HV.out,hg]
          have q1:decide (s.size=32∧1≤m∧m≤16)=true:=by simp [c1,c2,c3]
          have q2:decide ((0≤ix∧ix < (m:Int))∧1≤n∧n≤65536)=true:=by simp [c4,c5,c6,c7]
          rw [q1,q2]
          simp
         have HXC:Hid (∀V,Below W1.heap.size W1 V→V.cell? ⟨b1,o1+ix.toNat,none⟩=some (.string x)):=fun V hb=>by
          obtain ⟨b2,o2,x2,e2,_,hg2,hc2⟩:=(HY.out V hb).2.at_ (k:=ix.toNat) (by omega)
          rw [hA1] at e2
          cases e2
          rw [hg] at hg2
          cases hg2
          exact hc2
         subst hA1
         have HCO:=Lib.hid (HOF.out c6 c7)
         have HRR:=Lib.hid (HRO.out c2 c3 rfl)
         have g4:¬ix < 0:=by omega
         have g5:¬(m:Int)≤ix:=by omega
         have g6:¬(n:Int) < 1:=by omega
         have g7:¬(65536:Int) < (n:Int):=by omega
         (have g1:((s.size:Int) != 32)=false:=by simp [c1]);(have g2:¬((m:Int) < 1):=by omega);(have g3:¬(16:Int) < (m:Int):=by omega);clear HOF HRO HY HV c1 c2 c3 c6 c7 hg
         go_enter Tryz.func48,Tryz.ntmps48
         go_upto_region 1 with fail
         rw [←HWE.out]
         go_upto_region 8 with (first |(go_at_call 99;(with_reducible refine HCF.out.mono ?_);rintro e w1 ⟨rfl,hw1⟩;subst hw1) |(go_at_call 101;(with_reducible refine HCO.out.mono ?_);rintro e w2 ⟨rfl,hb2⟩;(have HB2:=Lib.hid hb2);clear hb2))
         clear k0 k1 k2 k3
         have HB:Hid (Below W1.heap.size W1 w2):=HB2
         obtain ⟨k0,k1,k2,k3⟩:=HK.out w2 HB2.out
         have kx:=HXC.out w2 HB2.out
         cases hrx:decide (rd=x) with
         |false=>
          have hne:¬rd=x:=of_decide_eq_false hrx
          have hbx:(rd.toList==x.toList)=false:=by rw [←beqD];exact hrx
          refine wp_region_held_drew (S:=(fun w'=>w'.cell? ⟨w.heap.size,0,none⟩=some (.string s)∧w'.cell? ⟨w.heap.size,1,none⟩=some (.int .i64 ix)∧w'.cell? ⟨w.heap.size,2,none⟩=some (.slice A n c)∧w'.cell? ⟨w.heap.size,3,none⟩=some (.slice (some ⟨b1,o1,none⟩) m c')∧w'.cell? ⟨b1,o1+ix.toNat,none⟩=some (.string x))) (by kernel_rfl) (by exact ⟨(HK.out _ (by repeat (first |exact HB.out |exact Below.refl _ _ |refine Below.drew ?_ |refine below_dN' ?_ _ |refine below_drewN' ?_ _))).1,(HK.out _ (by repeat (first |exact HB.out |exact Below.refl _ _ |refine Below.drew ?_ |refine below_dN' ?_ _ |refine below_drewN' ?_ _))).2.1,(HK.out _ (by repeat (first |exact HB.out |exact Below.refl _ _ |refine Below.drew ?_ |refine below_dN' ?_ _ |refine below_drewN' ?_ _))).2.2.1,(HK.out _ (by repeat (first |exact HB.out |exact Below.refl _ _ |refine Below.drew ?_ |refine below_dN' ?_ _ |refine below_drewN' ?_ _))).2.2.2,HXC.out _ (by repeat (first |exact HB.out |exact Below.refl _ _ |refine Below.drew ?_ |refine below_dN' ?_ _ |refine below_drewN' ?_ _))⟩) (fun hHeld=>?_)
          refine tkY (i:=0) ?_
          try simp only [pt]
          refine tkY (i:=1) ?_
          try simp only [pt]
          refine tkY (i:=2) ?_
          try simp only [pt]
          refine tkY (i:=3) ?_
          try simp only [pt]
          refine tkY (i:=4) ?_
          try simp only [pt]
          refine tkH (i:=5) (v:=?p5v) (y:=(Or.inl ⟨by rfl,?p5y⟩)) (h:=?p5r)
          case p5y=>(intro w hSw;(try dsimp only at hSw);(obtain ⟨q0,q1,q2,q3,q4⟩:=hSw);go_simp;try (with_reducible rfl))
          try simp only [pt]
          refine tkY (i:=6) ?_
          try simp only [pt]
          refine tkY (i:=7) ?_
          try simp only [pt]
          refine tkH (i:=8) (v:=?p8v) (y:=(Or.inl ⟨by rfl,?p8y⟩)) (h:=?p8r)
          case p8y=>(intro w hSw;(try dsimp only at hSw);(obtain ⟨q0,q1,q2,q3,q4⟩:=hSw);go_simp;try (with_reducible rfl))
          try simp only [pt]
          refine tkY (i:=9) ?_
          try simp only [pt]
          refine tkH (i:=10) (v:=?p10v) (y:=(Or.inl ⟨by rfl,?p10y⟩)) (h:=?p10r)
          case p10y=>(intro w hSw;(try dsimp only at hSw);(obtain ⟨q0,q1,q2,q3,q4⟩:=hSw);go_simp;try (with_reducible rfl))
          try simp only [pt]
          refine tkY (i:=11) ?_
          try simp only [pt]
          refine tkY (i:=12) ?_
          try simp only [pt]
          refine tkY (i:=13) ?_
          try simp only [pt]
          refine tkN (i:=14) ?_
          try simp only [pt]
          refine tkN (i:=15) ?_
          try simp only [pt]
          refine tkN (i:=16) ?_
          try simp only [pt]
          refine tkN (i:=17) ?_
          try simp only [pt]
          refine tkN (i:=18) ?_
          try simp only [pt]
          refine tkN (i:=19) ?_
          try simp only [pt]
          refine tkN (i:=20) ?_
          try simp only [pt]
          refine tkY (i:=21) ?_
          try simp only [pt]
          refine tkY (i:=22) ?_
          try simp only [pt]
          refine wpAnyH_done (by kernel_rfl) ?_ _
          go_wp2_with fail
          go_ret
          exact ⟨by rw [HVM.out,hrx];first |rfl |(simp;done),(by first |exact HB1.out.trans (HB.out.mono HB1.out.size) |exact HB1.out.trans (Below.drew (HB.out.mono HB1.out.size)))⟩
         |true=>
          obtain rfl:x=rd:=(of_decide_eq_true hrx).symm
          refine wp_region_held_drew (S:=(fun w'=>w'.cell? ⟨w.heap.size,0,none⟩=some (.string s)∧w'.cell? ⟨w.heap.size,1,none⟩=some (.int .i64 ix)∧w'.cell? ⟨w.heap.size,2,none⟩=some (.slice A n c)∧w'.cell? ⟨w.heap.size,3,none⟩=some (.slice (some ⟨b1,o1,none⟩) m c')∧w'.cell? ⟨b1,o1+ix.toNat,none⟩=some (.string x))) (by kernel_rfl) (by exact ⟨(HK.out _ (by repeat (first |exact HB.out |exact Below.refl _ _ |refine Below.drew ?_ |refine below_dN' ?_ _ |refine below_drewN' ?_ _))).1,(HK.out _ (by repeat (first |exact HB.out |exact Below.refl _ _ |refine Below.drew ?_ |refine below_dN' ?_ _ |refine below_drewN' ?_ _))).2.1,(HK.out _ (by repeat (first |exact HB.out |exact Below.refl _ _ |refine Below.drew ?_ |refine below_dN' ?_ _ |refine below_drewN' ?_ _))).2.2.1,(HK.out _ (by repeat (first |exact HB.out |exact Below.refl _ _ |refine Below.drew ?_ |refine below_dN' ?_ _ |refine below_drewN' ?_ _))).2.2.2,HXC.out _ (by repeat (first |exact HB.out |exact Below.refl _ _ |refine Below.drew ?_ |refine below_dN' ?_ _ |refine below_drewN' ?_ _))⟩) (fun hHeld=>?_)
          refine tkY (i:=0) ?_
          try simp only [pt]
          refine tkY (i:=1) ?_
          try simp only [pt]
          refine tkY (i:=2) ?_
          try simp only [pt]
          refine tkY (i:=3) ?_
          try simp only [pt]
          refine tkY (i:=4) ?_
          try simp only [pt]
          refine tkH (i:=5) (v:=?q5v) (y:=(Or.inl ⟨by rfl,?q5y⟩)) (h:=?q5r)
          case q5y=>(intro w hSw;(try dsimp only at hSw);(obtain ⟨q0,q1,q2,q3,q4⟩:=hSw);go_simp;try (with_reducible rfl))
          try simp only [pt]
          refine tkY (i:=6) ?_
          try simp only [pt]
          refine tkY (i:=7) ?_
          try simp only [pt]
          refine tkH (i:=8) (v:=?q8v) (y:=(Or.inl ⟨by rfl,?q8y⟩)) (h:=?q8r)
          case q8y=>(intro w hSw;(try dsimp only at hSw);(obtain ⟨q0,q1,q2,q3,q4⟩:=hSw);go_simp;try (with_reducible rfl))
          try simp only [pt]
          refine tkY (i:=9) ?_
          try simp only [pt]
          refine tkH (i:=10) (v:=?q10v) (y:=(Or.inl ⟨by rfl,?q10y⟩)) (h:=?q10r)
          case q10y=>(intro w hSw;(try dsimp only at hSw);(obtain ⟨q0,q1,q2,q3,q4⟩:=hSw);go_simp;try (with_reducible rfl))
          try simp only [pt]
          refine tkY (i:=11) ?_
          try simp only [pt]
          refine tkY (i:=12) ?_
          try simp only [pt]
          refine tkY (i:=13) ?_
          try simp only [pt]
          refine tkY (i:=14) ?_
          try simp only [pt]
          refine tkH (i:=15) (v:=?q15v) (y:=(Or.inl ⟨by rfl,?q15y⟩)) (h:=?q15r)
          case q15y=>(intro w hSw;(try dsimp only at hSw);(obtain ⟨q0,q1,q2,q3,q4⟩:=hSw);go_simp;try (with_reducible rfl))
          try simp only [pt]
          refine tkY (i:=17) ?_
          try simp only [pt]
          refine tkY (i:=18) ?_
          try simp only [pt]
          refine tkH (i:=19) (v:=?q18v) (y:=(Or.inl ⟨by rfl,?q18y⟩)) (h:=?q18r)
          case q18y=>(intro w hSw;(try dsimp only at hSw);(obtain ⟨q0,q1,q2,q3,q4⟩:=hSw);go_simp;try (with_reducible rfl))
          try simp only [pt]
          refine wpAnyH_ready (rs:=[16]) (by kernel_rfl) (by simp) ?_
          refine AllReadyH.cons (by simp only [List.getElem?_toArray,List.getElem?_cons_succ,List.getElem?_cons_zero];rfl) (fun K hK=>?_) (AllReadyH.nil)
          (go_simp;go_at_call 102;(with_reducible refine (HRR.out _ (by repeat (first |exact HB.out |exact Below.refl _ _ |refine Below.drew ?_ |refine below_dN' ?_ _ |refine below_drewN' ?_ _))).mono ?_);rintro e W6 ⟨rfl,b6⟩;(have HB:Hid (Below W1.heap.size W1 W6):=(Below.trans (B:=W1.heap.size) (by repeat (first |exact HB.out |exact Below.refl _ _ |refine Below.drew ?_ |refine below_dN' ?_ _ |refine below_drewN' ?_ _)) (b6.mono (by first |exact HB.out.size |exact Nat.le_refl _))));clear b6;go_wp2_with fail)
          refine hK.out _ _ (by exact ⟨(HK.out _ (by repeat (first |exact HB.out |exact Below.refl _ _ |refine Below.drew ?_ |refine below_dN' ?_ _ |refine below_drewN' ?_ _))).1,(HK.out _ (by repeat (first |exact HB.out |exact Below.refl _ _ |refine Below.drew ?_ |refine below_dN' ?_ _ |refine below_drewN' ?_ _))).2.1,(HK.out _ (by repeat (first |exact HB.out |exact Below.refl _ _ |refine Below.drew ?_ |refine below_dN' ?_ _ |refine below_drewN' ?_ _))).2.2.1,(HK.out _ (by repeat (first |exact HB.out |exact Below.refl _ _ |refine Below.drew ?_ |refine below_dN' ?_ _ |refine below_drewN' ?_ _))).2.2.2,HXC.out _ (by repeat (first |exact HB.out |exact Below.refl _ _ |refine Below.drew ?_ |refine below_dN' ?_ _ |refine below_drewN' ?_ _))⟩) (fun hHeldq19=>?_)
          clear hK K hHeld
          try simp only [pt]
          refine tkY (i:=20) ?_
          try simp only [pt]
          refine tkY (i:=21) ?_
          try simp only [pt]
          refine tkY (i:=22) ?_
          try simp only [pt]
          refine wpAnyH_done (by kernel_rfl) ?_ _
          go_wp2_with fail
          go_ret
          exact ⟨by rw [HVM.out,beqD rs s];first |rfl |(simp;done),(by first |exact HB1.out.trans (HB.out.mono HB1.out.size) |exact HB1.out.trans (Below.drew (HB.out.mono HB1.out.size)))⟩
        ·(have HF:Hid (vrB s ix xs ys=false):=(by rw [HV.out];simp [*]:_=_));(have g1:((s.size:Int) != 32)=false:=by simp [c1]);(have g2:¬((m:Int) < 1):=by omega);(have g3:¬(16:Int) < (m:Int):=by omega);(try (have g4:ix < 0:=by omega));(try (have g4:¬ix < 0:=by omega));(try (have g5:(m:Int)≤ix:=by omega));(try (have g5:¬(m:Int)≤ix:=by omega));(try (have g6:(n:Int) < 1:=by omega));(try (have g6:¬(n:Int) < 1:=by omega));(try (have g7:(65536:Int) < (n:Int):=by omega));(try (have g7:¬(65536:Int) < (n:Int):=by omega));clear HOF HRO HY HV c1 c2 c3;go_enter Tryz.func48,Tryz.ntmps48;(go_upto_region 1 with fail);rw [←HWE.out];(go_wp2_with (go_at_call 99;(with_reducible refine HCF.out.mono ?_);rintro e w1 ⟨rfl,hw1⟩;subst hw1));go_ret;exact ⟨by rw [HF.out];rfl,HB1.out⟩
       ·(have HF:Hid (vrB s ix xs ys=false):=(by rw [HV.out];simp [*]:_=_));(have g1:((s.size:Int) != 32)=false:=by simp [c1]);(have g2:¬((m:Int) < 1):=by omega);(have g3:¬(16:Int) < (m:Int):=by omega);(try (have g4:ix < 0:=by omega));(try (have g4:¬ix < 0:=by omega));(try (have g5:(m:Int)≤ix:=by omega));(try (have g5:¬(m:Int)≤ix:=by omega));(try (have g6:(n:Int) < 1:=by omega));(try (have g6:¬(n:Int) < 1:=by omega));(try (have g7:(65536:Int) < (n:Int):=by omega));(try (have g7:¬(65536:Int) < (n:Int):=by omega));clear HOF HRO HY HV c1 c2 c3;go_enter Tryz.func48,Tryz.ntmps48;(go_upto_region 1 with fail);rw [←HWE.out];(go_wp2_with (go_at_call 99;(with_reducible refine HCF.out.mono ?_);rintro e w1 ⟨rfl,hw1⟩;subst hw1));go_ret;exact ⟨by rw [HF.out];rfl,HB1.out⟩
      ·(have HF:Hid (vrB s ix xs ys=false):=(by rw [HV.out];simp [*]:_=_));(have g1:((s.size:Int) != 32)=false:=by simp [c1]);(have g2:¬((m:Int) < 1):=by omega);(have g3:¬(16:Int) < (m:Int):=by omega);(try (have g4:ix < 0:=by omega));(try (have g4:¬ix < 0:=by omega));(try (have g5:(m:Int)≤ix:=by omega));(try (have g5:¬(m:Int)≤ix:=by omega));(try (have g6:(n:Int) < 1:=by omega));(try (have g6:¬(n:Int) < 1:=by omega));(try (have g7:(65536:Int) < (n:Int):=by omega));(try (have g7:¬(65536:Int) < (n:Int):=by omega));clear HOF HRO HY HV c1 c2 c3;go_enter Tryz.func48,Tryz.ntmps48;(go_upto_region 1 with fail);rw [←HWE.out];(go_wp2_with (go_at_call 99;(with_reducible refine HCF.out.mono ?_);rintro e w1 ⟨rfl,hw1⟩;subst hw1));go_ret;exact ⟨by rw [HF.out];rfl,HB1.out⟩
     ·(have HF:Hid (vrB s ix xs ys=false):=(by rw [HV.out];simp [*]:_=_));(have g1:((s.size:Int) != 32)=false:=by simp [c1]);(have g2:¬((m:Int) < 1):=by omega);(have g3:¬(16:Int) < (m:Int):=by omega);(try (have g4:ix < 0:=by omega));(try (have g4:¬ix < 0:=by omega));(try (have g5:(m:Int)≤ix:=by omega));(try (have g5:¬(m:Int)≤ix:=by omega));(try (have g6:(n:Int) < 1:=by omega));(try (have g6:¬(n:Int) < 1:=by omega));(try (have g7:(65536:Int) < (n:Int):=by omega));(try (have g7:¬(65536:Int) < (n:Int):=by omega));clear HOF HRO HY HV c1 c2 c3;go_enter Tryz.func48,Tryz.ntmps48;(go_upto_region 1 with fail);rw [←HWE.out];(go_wp2_with (go_at_call 99;(with_reducible refine HCF.out.mono ?_);rintro e w1 ⟨rfl,hw1⟩;subst hw1));go_ret;exact ⟨by rw [HF.out];rfl,HB1.out⟩
   ·(have HF:Hid (vrB s ix xs ys=false):=(by rw [HV.out];simp [*]:_=_));(have g1:((s.size:Int) != 32)= !decide (s.size=32):=by (by_cases h:s.size=32<;>simp [h]<;>omega));(try (have g2:((m:Int) < 1):=by omega));(try (have g2:¬((m:Int) < 1):=by omega));(try (have g3:(16:Int) < (m:Int):=by omega));(try (have g3:¬(16:Int) < (m:Int):=by omega));(simp only [c1,decide_true,decide_false,Bool.not_true,Bool.not_false] at g1);clear HCF HOF HRO HY HV;go_enter Tryz.func48,Tryz.ntmps48;(go_upto_region 1 with fail);rw [←HWE.out];go_wp2;go_ret;exact ⟨by rw [HF.out];rfl,HB1.out⟩
  ·(have HF:Hid (vrB s ix xs ys=false):=(by rw [HV.out];simp [*]:_=_));(have g1:((s.size:Int) != 32)= !decide (s.size=32):=by (by_cases h:s.size=32<;>simp [h]<;>omega));(try (have g2:((m:Int) < 1):=by omega));(try (have g2:¬((m:Int) < 1):=by omega));(try (have g3:(16:Int) < (m:Int):=by omega));(try (have g3:¬(16:Int) < (m:Int):=by omega));(simp only [c1,decide_true,decide_false,Bool.not_true,Bool.not_false] at g1);clear HCF HOF HRO HY HV;go_enter Tryz.func48,Tryz.ntmps48;(go_upto_region 1 with fail);rw [←HWE.out];go_wp2;go_ret;exact ⟨by rw [HF.out];rfl,HB1.out⟩
 ·(have HF:Hid (vrB s ix xs ys=false):=(by rw [HV.out];simp [*]:_=_));(have g1:((s.size:Int) != 32)= !decide (s.size=32):=by (by_cases h:s.size=32<;>simp [h]<;>omega));(try (have g2:((m:Int) < 1):=by omega));(try (have g2:¬((m:Int) < 1):=by omega));(try (have g3:(16:Int) < (m:Int):=by omega));(try (have g3:¬(16:Int) < (m:Int):=by omega));(simp only [c1,decide_true,decide_false,Bool.not_true,Bool.not_false] at g1);clear HCF HOF HRO HY HV;go_enter Tryz.func48,Tryz.ntmps48;(go_upto_region 1 with fail);rw [←HWE.out];go_wp2;go_ret;exact ⟨by rw [HF.out];rfl,HB1.out⟩
