import Derived.Test.YtpdledjgbgalcaaGreatDoorPm
namespace Go.Proofs.YtpdledjgbgalcaaGreatDoor
set_option maxRecDepth 100000
set_option maxHeartbeats 8000000
open Go.RowKit Go.Lib Go.Proofs.Tryz
set_option linter.unusedVariables false
set_option linter.unusedSimpArgs false
theorem beqD (a b:ByteArray):decide (a=b)=(a.toList==b.toList):=by
 rw [<-beq_toListBytes];show decide (a=b)=(a.data==b.data)
 by_cases h:a=b
 ·subst h;simp
 ·rw [decide_eq_false h]
  symm
  rw [beq_eq_false_iff_ne];exact fun h2=>h (ByteArray.ext h2)
def vrB (s:ByteArray) (ix:Int) (xs:List Int) (ys:List ByteArray):Bool:=
 decide (s.size=32/\(1<=ys.length/\ys.length<=16))&&(al32 ys&&(decide ((0<=ix/\ix < (ys.length:Int))/\(1<=xs.length/\xs.length<=65536))&&(decide (some (rootF 256 (blkU (xs.length+1) xs))=ys[ix.toNat]?)&&decide (rootF 256 ys=s))))
theorem sverify_any (s:ByteArray) (ix:Int) (A Y:Option Addr) (n c m W B:Nat) (xs:List Int) (ys:List ByteArray) (w:World) (hG:Glob w) (hc:n<=c) (aA:m<=W) (hx:Sl fB w B A n xs) (hy:Sl fT w B Y m ys) (hB:B<=w.heap.size) (hn:n<=1000000) (hm:m<=1000000) (am:Byt xs):
 Calls prog 48 #[.agg #[.string s,.int .i64 ix,.slice A n c,.slice Y m W]] w fun e O=>e= .returned (.bool (vrB s ix xs ys))/\Below w.heap.size w O:=by
 have ao:xs.length=n:=hx.1;have aw:ys.length=m:=hy.1;obtain ⟨G,aa⟩:∃G:World,G=w.alloc (.cells #[.string s,.int .i64 ix,.slice A n c,.slice Y m W] 42):=⟨_,rfl⟩
 have J:Below w.heap.size w G:=by rw [aa];exact bl
 have ag:G.heap[w.heap.size]? =some (.cells #[.string s,.int .i64 ix,.slice A n c,.slice Y m W] 42 (0,0)):=by rw [aa];exact zy w _
 have HK:Hid (∀V,Below G.heap.size G V->V.cell? ⟨w.heap.size,0,none⟩=some (.string s)/\V.cell? ⟨w.heap.size,1,none⟩=some (.int .i64 ix)/\V.cell? ⟨w.heap.size,2,none⟩=some (.slice A n c)/\V.cell? ⟨w.heap.size,3,none⟩=some (.slice Y m W)):=fun V z=>by
  have q:=(z.block _ (lb ag)).trans ag;refine ⟨?_,?_,?_,?_⟩<;>(rw [cell_of_row V _ _ _ _ _ q];rfl)
 have T:=lh (containsFU_any Y m W B ys G (hy.up J hB) hm);have HB1:=lh J;have HWE:=lh aa;obtain ⟨k0,k1,k2,k3⟩:=HK.out G bR;have L:Hid (0 < n->n<=65536->Calls prog 101 #[.slice A n c,.int .i64 512] G fun e O=>e= .returned (.tuple #[.string (rootF 256 (blkU (xs.length+1) xs)),.int .i64 0])/\Below G.heap.size G O):=fun h0 hl=>mof_any A n c B xs G (hG.on J) hc (hx.up J hB) (lT hB J.size) h0 hl am;have M:Hid (1<=m->m<=16->al32 ys=true->∀V,Below G.heap.size G V->Calls prog 102 #[.slice Y m W] V fun e O=>e= .returned (.string (rootF 256 ys))/\Below V.heap.size V O):=fun h1 h2 h3 V z=>ydu 256 Y m W B ys V ((hG.on J).on z) ((hy.up J hB).up z (lT hB J.size)) (lT (lT hB J.size) z.size) aA om h1 om (yc4.1 h3);have U:Hid (∀V,Below G.heap.size G V->Sl fT V B Y m ys):=fun V z=>(hy.up J hB).up z (lT hB J.size);have H:Hid (vrB s ix xs ys=(decide (s.size=32/\(1<=ys.length/\ys.length<=16))&&(al32 ys&&(decide ((0<=ix/\ix < (ys.length:Int))/\(1<=xs.length/\xs.length<=65536))&&(decide (some (rootF 256 (blkU (xs.length+1) xs))=ys[ix.toNat]?)&&decide (rootF 256 ys=s)))))):=rfl;rw [ao,aw] at H;clear hx am hG aa J ag hB;obtain ⟨al,ah⟩:=gx (al32 ys);rw [ah] at T M H;rw [ao] at L;obtain ⟨rd,ai⟩:=gx (rootF 256 (blkU (n+1) xs));obtain ⟨rs,ar⟩:=gx (rootF 256 ys);rw [ai] at L H;rw [ar] at M H;clear ah ai ar hy
 by_cases c1:s.size=32
 ·by_cases c2:1<=m
  ·by_cases c3:m<=16
   ·cases al with
    |false=>
     (have HF:Hid (vrB s ix xs ys=false):=(by rw [H.out];simp:_=_));(have g1:((s.size:Int) != 32)=false:=by simp [c1]);(have g2:¬((m:Int) < 1):=by omega);(have g3:¬(16:Int) < (m:Int):=by omega);clear L M U H c1 c2 c3;go_enter func48,ntmps48;(go_upto_region 1 with fail);rw [<-HWE.out];(go_wp2_with (go_at_call 99;(with_reducible refine T.out.mono ?_);rintro e w1 ⟨rfl,N⟩;subst N));go_ret;exact ⟨by rw [HF.out];rfl,HB1.out⟩
    |true=>
     by_cases c4:0<=ix
     ·by_cases c5:ix < (m:Int)
      ·by_cases c6:1<=n
       ·by_cases c7:n<=65536
        ·obtain ⟨b1,o1,x,aj,_,hg,_⟩:=(U.out G bR).2.at_ (k:=ix.toNat) om
         have ap:Hid (vrB s ix xs ys=(decide (rd=x)&&decide (rs=s))):=by
          show _=_;rw [H.out,hg];have Z:decide (s.size=32/\1<=m/\m<=16)=true:=by simp [c1,c2,c3]
          have q2:decide ((0<=ix/\ix < (m:Int))/\1<=n/\n<=65536)=true:=by simp [c4,c5,c6,c7]
          rw [Z,q2];simp
         have HXC:Hid (∀V,Below G.heap.size G V->V.cell? ⟨b1,o1+ix.toNat,none⟩=some (.string x)):=fun V z=>by
          obtain ⟨b2,o2,x2,e2,_,ak,ax⟩:=(U.out V z).2.at_ (k:=ix.toNat) om;rw [aj] at e2;cases e2
          rw [hg] at ak;cases ak
          exact ax
         subst aj;have ay:=lh (L.out c6 c7);have az:=lh (M.out c2 c3 rfl);have g4:¬ix < 0:=by omega
         have g5:¬(m:Int)<=ix:=by omega
         have g6:¬(n:Int) < 1:=by omega
         have g7:¬(65536:Int) < (n:Int):=by omega
         (have g1:((s.size:Int) != 32)=false:=by simp [c1]);(have g2:¬((m:Int) < 1):=by omega);(have g3:¬(16:Int) < (m:Int):=by omega);clear L M U H c1 c2 c3 c6 c7 hg
         go_enter func48,ntmps48;go_upto_region 1 with fail
         rw [<-HWE.out];go_upto_region 8 with (first |(go_at_call 99;(with_reducible refine T.out.mono ?_);rintro e w1 ⟨rfl,N⟩;subst N) |(go_at_call 101;(with_reducible refine ay.out.mono ?_);rintro e w2 ⟨rfl,aq⟩;(have af:=lh aq);clear aq))
         clear k0 k1 k2 k3;have HB:Hid (Below G.heap.size G w2):=af;obtain ⟨k0,k1,k2,k3⟩:=HK.out w2 af.out;have kx:=HXC.out w2 af.out
         cases ac:decide (rd=x) with
         |false=>
          have aC:¬rd=x:=of_decide_eq_false ac;have aB:(rd.toList==x.toList)=false:=by rw [<-beqD];exact ac
          refine rH (S:=(fun O=>O.cell? ⟨w.heap.size,0,none⟩=some (.string s)/\O.cell? ⟨w.heap.size,1,none⟩=some (.int .i64 ix)/\O.cell? ⟨w.heap.size,2,none⟩=some (.slice A n c)/\O.cell? ⟨w.heap.size,3,none⟩=some (.slice (some ⟨b1,o1,none⟩) m W)/\O.cell? ⟨b1,o1+ix.toNat,none⟩=some (.string x))) ya9 yac (fun ae=>?_)
          (iterate 5 refine tkA ?_)
          refine tkH (i:=5) (v:=?p5v) (y:=(Or.inl ⟨by rfl,?p5y⟩)) (h:=?p5r);case p5y=>(intro w hSw;(try dsimp only at hSw);(obtain ⟨q0,Z,q2,q3,q4⟩:=hSw);go_simp;try (with_reducible rfl))
          try simp only [pt]
          refine tkY 6 ?_;refine tkY 7 ?_;refine tkH (i:=8) (v:=?p8v) (y:=(Or.inl ⟨by rfl,?p8y⟩)) (h:=?p8r);case p8y=>(intro w hSw;(try dsimp only at hSw);(obtain ⟨q0,Z,q2,q3,q4⟩:=hSw);go_simp;try (with_reducible rfl))
          try simp only [pt]
          refine tkY 9 ?_;refine tkH (i:=10) (v:=?p10v) (y:=(Or.inl ⟨by rfl,?p10y⟩)) (h:=?p10r);case p10y=>(intro w hSw;(try dsimp only at hSw);(obtain ⟨q0,Z,q2,q3,q4⟩:=hSw);go_simp;try (with_reducible rfl))
          try simp only [pt]
          refine tkY 11 ?_;refine tkY 12 ?_;refine tkY 13 ?_;refine tkN 14 ?_;refine tkN 15 ?_;refine tkN 16 ?_;refine tkN 17 ?_;refine tkN 18 ?_;refine tkN 19 ?_;refine tkN 20 ?_;refine tkY 21 ?_;refine tkY 22 ?_;refine wpAnyH_done ya9 ?_ _;go_wp2_with fail;go_ret;exact ⟨by rw [ap.out,ac];first |rfl |(simp;done),yaE⟩
         |true=>
          obtain rfl:x=rd:=(of_decide_eq_true ac).symm;refine rH (S:=(fun O=>O.cell? ⟨w.heap.size,0,none⟩=some (.string s)/\O.cell? ⟨w.heap.size,1,none⟩=some (.int .i64 ix)/\O.cell? ⟨w.heap.size,2,none⟩=some (.slice A n c)/\O.cell? ⟨w.heap.size,3,none⟩=some (.slice (some ⟨b1,o1,none⟩) m W)/\O.cell? ⟨b1,o1+ix.toNat,none⟩=some (.string x))) ya9 yac (fun ae=>?_)
          (iterate 5 refine tkA ?_)
          refine tkH (i:=5) (v:=?q5v) (y:=(Or.inl ⟨by rfl,?q5y⟩)) (h:=?q5r);case q5y=>(intro w hSw;(try dsimp only at hSw);(obtain ⟨q0,Z,q2,q3,q4⟩:=hSw);go_simp;try (with_reducible rfl))
          try simp only [pt]
          refine tkY 6 ?_;refine tkY 7 ?_;refine tkH (i:=8) (v:=?q8v) (y:=(Or.inl ⟨by rfl,?q8y⟩)) (h:=?q8r);case q8y=>(intro w hSw;(try dsimp only at hSw);(obtain ⟨q0,Z,q2,q3,q4⟩:=hSw);go_simp;try (with_reducible rfl))
          try simp only [pt]
          refine tkY 9 ?_;refine tkH (i:=10) (v:=?q10v) (y:=(Or.inl ⟨by rfl,?q10y⟩)) (h:=?q10r);case q10y=>(intro w hSw;(try dsimp only at hSw);(obtain ⟨q0,Z,q2,q3,q4⟩:=hSw);go_simp;try (with_reducible rfl))
          try simp only [pt]
          refine tkY 11 ?_;refine tkY 12 ?_;refine tkY 13 ?_;refine tkY 14 ?_;refine tkH (i:=15) (v:=?q15v) (y:=(Or.inl ⟨by rfl,?q15y⟩)) (h:=?q15r);case q15y=>(intro w hSw;(try dsimp only at hSw);(obtain ⟨q0,Z,q2,q3,q4⟩:=hSw);go_simp;try (with_reducible rfl))
          try simp only [pt]
          refine tkY 17 ?_;refine tkY 18 ?_;refine tkH (i:=19) (v:=?q18v) (y:=(Or.inl ⟨by rfl,?q18y⟩)) (h:=?q18r);case q18y=>(intro w hSw;(try dsimp only at hSw);(obtain ⟨q0,Z,q2,q3,q4⟩:=hSw);go_simp;try (with_reducible rfl))
          try simp only [pt]
          refine rd1 16 (fun K hK=>?_)
          (go_simp;go_at_call 102;(with_reducible refine (az.out _ yaB).mono ?_);rintro e W6 ⟨rfl,b6⟩;(have HB:Hid (Below G.heap.size G W6):=(Below.trans (B:=G.heap.size) yaB (b6.mono yaT)));clear b6;go_wp2_with fail)
          refine hK.out _ _ yac (fun au=>?_);clear hK K ae
          try simp only [pt]
          refine tkY 20 ?_;refine tkY 21 ?_;refine tkY 22 ?_;refine wpAnyH_done ya9 ?_ _;go_wp2_with fail;go_ret;exact ⟨by rw [ap.out,beqD rs s];first |rfl |(simp;done),yaE⟩
        ·(have HF:Hid (vrB s ix xs ys=false):=(by rw [H.out];simp [*]:_=_));(have g1:((s.size:Int) != 32)=false:=by simp [c1]);(have g2:¬((m:Int) < 1):=by omega);(have g3:¬(16:Int) < (m:Int):=by omega);(try (have g4:ix < 0:=by omega));(try (have g4:¬ix < 0:=by omega));(try (have g5:(m:Int)<=ix:=by omega));(try (have g5:¬(m:Int)<=ix:=by omega));(try (have g6:(n:Int) < 1:=by omega));(try (have g6:¬(n:Int) < 1:=by omega));(try (have g7:(65536:Int) < (n:Int):=by omega));(try (have g7:¬(65536:Int) < (n:Int):=by omega));clear L M U H c1 c2 c3;go_enter func48,ntmps48;(go_upto_region 1 with fail);rw [<-HWE.out];(go_wp2_with (go_at_call 99;(with_reducible refine T.out.mono ?_);rintro e w1 ⟨rfl,N⟩;subst N));go_ret;exact ⟨by rw [HF.out];rfl,HB1.out⟩
       ·(have HF:Hid (vrB s ix xs ys=false):=(by rw [H.out];simp [*]:_=_));(have g1:((s.size:Int) != 32)=false:=by simp [c1]);(have g2:¬((m:Int) < 1):=by omega);(have g3:¬(16:Int) < (m:Int):=by omega);(try (have g4:ix < 0:=by omega));(try (have g4:¬ix < 0:=by omega));(try (have g5:(m:Int)<=ix:=by omega));(try (have g5:¬(m:Int)<=ix:=by omega));(try (have g6:(n:Int) < 1:=by omega));(try (have g6:¬(n:Int) < 1:=by omega));(try (have g7:(65536:Int) < (n:Int):=by omega));(try (have g7:¬(65536:Int) < (n:Int):=by omega));clear L M U H c1 c2 c3;go_enter func48,ntmps48;(go_upto_region 1 with fail);rw [<-HWE.out];(go_wp2_with (go_at_call 99;(with_reducible refine T.out.mono ?_);rintro e w1 ⟨rfl,N⟩;subst N));go_ret;exact ⟨by rw [HF.out];rfl,HB1.out⟩
      ·(have HF:Hid (vrB s ix xs ys=false):=(by rw [H.out];simp [*]:_=_));(have g1:((s.size:Int) != 32)=false:=by simp [c1]);(have g2:¬((m:Int) < 1):=by omega);(have g3:¬(16:Int) < (m:Int):=by omega);(try (have g4:ix < 0:=by omega));(try (have g4:¬ix < 0:=by omega));(try (have g5:(m:Int)<=ix:=by omega));(try (have g5:¬(m:Int)<=ix:=by omega));(try (have g6:(n:Int) < 1:=by omega));(try (have g6:¬(n:Int) < 1:=by omega));(try (have g7:(65536:Int) < (n:Int):=by omega));(try (have g7:¬(65536:Int) < (n:Int):=by omega));clear L M U H c1 c2 c3;go_enter func48,ntmps48;(go_upto_region 1 with fail);rw [<-HWE.out];(go_wp2_with (go_at_call 99;(with_reducible refine T.out.mono ?_);rintro e w1 ⟨rfl,N⟩;subst N));go_ret;exact ⟨by rw [HF.out];rfl,HB1.out⟩
     ·(have HF:Hid (vrB s ix xs ys=false):=(by rw [H.out];simp [*]:_=_));(have g1:((s.size:Int) != 32)=false:=by simp [c1]);(have g2:¬((m:Int) < 1):=by omega);(have g3:¬(16:Int) < (m:Int):=by omega);(try (have g4:ix < 0:=by omega));(try (have g4:¬ix < 0:=by omega));(try (have g5:(m:Int)<=ix:=by omega));(try (have g5:¬(m:Int)<=ix:=by omega));(try (have g6:(n:Int) < 1:=by omega));(try (have g6:¬(n:Int) < 1:=by omega));(try (have g7:(65536:Int) < (n:Int):=by omega));(try (have g7:¬(65536:Int) < (n:Int):=by omega));clear L M U H c1 c2 c3;go_enter func48,ntmps48;(go_upto_region 1 with fail);rw [<-HWE.out];(go_wp2_with (go_at_call 99;(with_reducible refine T.out.mono ?_);rintro e w1 ⟨rfl,N⟩;subst N));go_ret;exact ⟨by rw [HF.out];rfl,HB1.out⟩
   ·(have HF:Hid (vrB s ix xs ys=false):=(by rw [H.out];simp [*]:_=_));(have g1:((s.size:Int) != 32)= !decide (s.size=32):=by (by_cases h:s.size=32<;>simp [h]<;>omega));(try (have g2:((m:Int) < 1):=by omega));(try (have g2:¬((m:Int) < 1):=by omega));(try (have g3:(16:Int) < (m:Int):=by omega));(try (have g3:¬(16:Int) < (m:Int):=by omega));(simp only [c1,decide_true,decide_false,Bool.not_true,Bool.not_false] at g1);clear T L M U H;go_enter func48,ntmps48;(go_upto_region 1 with fail);rw [<-HWE.out];go_wp2;go_ret;exact ⟨by rw [HF.out];rfl,HB1.out⟩
  ·(have HF:Hid (vrB s ix xs ys=false):=(by rw [H.out];simp [*]:_=_));(have g1:((s.size:Int) != 32)= !decide (s.size=32):=by (by_cases h:s.size=32<;>simp [h]<;>omega));(try (have g2:((m:Int) < 1):=by omega));(try (have g2:¬((m:Int) < 1):=by omega));(try (have g3:(16:Int) < (m:Int):=by omega));(try (have g3:¬(16:Int) < (m:Int):=by omega));(simp only [c1,decide_true,decide_false,Bool.not_true,Bool.not_false] at g1);clear T L M U H;go_enter func48,ntmps48;(go_upto_region 1 with fail);rw [<-HWE.out];go_wp2;go_ret;exact ⟨by rw [HF.out];rfl,HB1.out⟩
 ·(have HF:Hid (vrB s ix xs ys=false):=(by rw [H.out];simp [*]:_=_));(have g1:((s.size:Int) != 32)= !decide (s.size=32):=by (by_cases h:s.size=32<;>simp [h]<;>omega));(try (have g2:((m:Int) < 1):=by omega));(try (have g2:¬((m:Int) < 1):=by omega));(try (have g3:(16:Int) < (m:Int):=by omega));(try (have g3:¬(16:Int) < (m:Int):=by omega));(simp only [c1,decide_true,decide_false,Bool.not_true,Bool.not_false] at g1);clear T L M U H;go_enter func48,ntmps48;(go_upto_region 1 with fail);rw [<-HWE.out];go_wp2;go_ret;exact ⟨by rw [HF.out];rfl,HB1.out⟩
theorem psum_any (A:Option Addr) (n c B:Nat) (xs:List Int) (w:World) (M:n<=c) (J:Sl fB w B A n xs) (K:B<=w.heap.size) (h0:0 < n) (hl:n<=65536) (G:Byt xs):
 Calls prog 64 #[.slice A n c] w fun e L=>e= .returned (.string (rootF 256 (blkU (xs.length+1) xs)))/\Below w.heap.size w L:=by
 have HC:=lh (rof_any A n c B xs w M J K h0 hl G);clear J G;go_enter func64,ntmps64;go_wp2_with (go_at_call 122;(with_reducible refine HC.out.mono ?_);rintro e w1 ⟨rfl,H⟩;(have HB1:=lh H);clear H);go_ret;exact ⟨rfl,HB1.out⟩
theorem gverify_any (s:ByteArray) (ix:Int) (A A':Option Addr) (n c m Y B:Nat) (xs:List Int) (ys:List ByteArray) (w:World) (hc:n<=c) (aK:m<=Y) (hx:Sl fB w B A n xs) (hy:Sl fT w B A' m ys) (hB:B<=w.heap.size) (hn:n<=1000000) (hm:m<=1000000) (aw:Byt xs):
 Calls prog 49 #[.agg #[.string s,.int .i64 ix,.slice A n c,.slice A' m Y]] w fun e L=>e= .returned (.bool (vrB s ix xs ys))/\Below w.heap.size w L:=by
 have am:xs.length=n:=hx.1;have ak:ys.length=m:=hy.1;obtain ⟨G,ah⟩:∃G:World,G=w.alloc (.cells #[.string s,.int .i64 ix,.slice A n c,.slice A' m Y] 42):=⟨_,rfl⟩
 have N:Below w.heap.size w G:=by rw [ah];exact bl
 have ao:G.heap[w.heap.size]? =some (.cells #[.string s,.int .i64 ix,.slice A n c,.slice A' m Y] 42 (0,0)):=by rw [ah];exact zy w _
 have HK:Hid (∀V,Below G.heap.size G V->V.cell? ⟨w.heap.size,0,none⟩=some (.string s)/\V.cell? ⟨w.heap.size,1,none⟩=some (.int .i64 ix)/\V.cell? ⟨w.heap.size,2,none⟩=some (.slice A n c)/\V.cell? ⟨w.heap.size,3,none⟩=some (.slice A' m Y)):=fun V U=>by
  have q:=(U.block _ (lb ao)).trans ao;refine ⟨?_,?_,?_,?_⟩<;>(rw [cell_of_row V _ _ _ _ _ q];rfl)
 have HB1:=lh N;have HWE:=lh ah;obtain ⟨k0,k1,k2,k3⟩:=HK.out G bR;have W:Hid (∀V,Below G.heap.size G V->Sl fT V B A' m ys):=fun V U=>(hy.up N hB).up U (lT hB N.size);have J:Hid (0 < n->n<=65536->∀V,Below G.heap.size G V->Calls prog 64 #[.slice A n c] V fun e L=>e= .returned (.string (rootF 256 (blkU (xs.length+1) xs)))/\Below V.heap.size V L):=fun h0 hl V U=>psum_any A n c B xs V hc ((hx.up N hB).up U (lT hB N.size)) (lT (lT hB N.size) U.size) h0 hl aw;have M:Hid (1<=m->m<=16->al32 ys=true->∀V,Below G.heap.size G V->Calls prog 65 #[.slice A' m Y] V fun e L=>e= .returned (.string (rootF 256 ys))/\Below V.heap.size V L):=fun h1 h2 h3 V U=>ydv 256 A' m Y B ys V (W.out V U) (lT (lT hB N.size) U.size) aK om h1 om (yc4.1 h3);have H:Hid (vrB s ix xs ys=(decide (s.size=32/\(1<=ys.length/\ys.length<=16))&&(al32 ys&&(decide ((0<=ix/\ix < (ys.length:Int))/\(1<=xs.length/\xs.length<=65536))&&(decide (some (rootF 256 (blkU (xs.length+1) xs))=ys[ix.toNat]?)&&decide (rootF 256 ys=s)))))):=rfl;have af:=lh ak;rw [am,ak] at H;rw [am] at J;obtain ⟨rd,ap⟩:=gx (rootF 256 (blkU (n+1) xs));obtain ⟨rs,az⟩:=gx (rootF 256 ys);rw [ap] at J H;rw [az] at M H;clear hx aw ah N ao hB ap az hy am ak;have c0:m=0∨1<=m:=by omega
 by_cases c1:s.size=32
 ·by_cases c3:m<=16
  ·by_cases c4:0<=ix
   ·by_cases c5:ix < (m:Int)
    ·have c2:1<=m:=by omega
     by_cases c6:1<=n
     ·by_cases c7:n<=65536
      ·
       have O:decide (s.size=32/\1<=m/\m<=16)=true:=by simp [c1,c2,c3]
       have T:decide ((0<=ix/\ix < (m:Int))/\1<=n/\n<=65536)=true:=by simp [c4,c5,c6,c7]
       rw [O,T,Bool.true_and,Bool.true_and] at H;have aB:=lh (J.out c6 c7);have aD:=lh (M.out c2 c3);obtain ⟨b1,o1,x,aq,_,hg,_⟩:=(W.out G bR).2.at_ (k:=ix.toNat) (by rw [af.out];omega);rw [hg] at H
       have HXC:Hid (∀V,Below G.heap.size G V->V.cell? ⟨b1,o1+ix.toNat,none⟩=some (.string x)):=fun V U=>by
        obtain ⟨b2,o2,x2,e2,_,ar,aG⟩:=(W.out V U).2.at_ (k:=ix.toNat) (by rw [af.out];omega);rw [aq] at e2;cases e2
        rw [hg] at ar;cases ar
        exact aG
       subst aq
       (try (have g1:((s.size:Int) != 32)=false:=by simp [c1]));(try (have g1:((s.size:Int) != 32)=true:=yba));(try (have g3:(16:Int) < (m:Int):=by omega));(try (have g3:¬(16:Int) < (m:Int):=by omega));(try (have g4:ix < 0:=by omega));(try (have g4:¬ix < 0:=by omega));(try (have g5:(m:Int)<=ix:=by omega));(try (have g5:¬(m:Int)<=ix:=by omega));(try (have g6:(n:Int) < 1:=by omega));(try (have g6:¬(n:Int) < 1:=by omega));(try (have g7:(65536:Int) < (n:Int):=by omega));(try (have g7:¬(65536:Int) < (n:Int):=by omega))
       have HBx:Hid (Below G.heap.size G G):=Below.refl _ _;clear O T J M c1 c3 hg;have J:=aB;go_enter func49,ntmps49;go_upto_region 1 with fail
       rw [<-HWE.out];go_upto_region 4 with fail
       go_loopw [46] (fun i wr=>(∃k:Nat,k<=m/\i= .int .i64 k/\Hid (∀j,j < k->∀z,ys[j]? =some z->z.size=32))/\G=wr) (fun i _=>m - (intOf i).toNat)
       case atStart=>exact ⟨⟨0,by omega,rfl,fun j hj=>absurd hj om⟩,rfl⟩
       case round=>
        obtain ⟨⟨k,hk,rfl,au⟩,rfl⟩:=hrel
        by_cases hlt:k < m
        ·obtain ⟨b2,o2,y,aL,_,ag,aP⟩:=(W.out G bR).2.at_ (k:=k) (by rw [af.out];exact hlt);cases aL
         have aN:(k:Int) < (m:Int):=by omega
         have aO:(0:Int)<=(k:Int):=by omega
         by_cases hs:y.size=32
         ·have aH:((y.size:Int) != 32)=false:=by simp [hs]
          have aJ:Hid (∀j,j < k+1->∀z,ys[j]? =some z->z.size=32):=fun j hj z h=>by
           rcases Nat.lt_or_ge j k with c |c
           ·exact au.out j c z h
           ·obtain rfl:j=k:=by omega
            rw [ag] at h;cases h;exact hs
          clear ag hs;go_wp2;refine ⟨?rel,?measure⟩;case rel=>exact ⟨⟨k+1,by omega,by go_num,aJ⟩,by first |rfl |trivial⟩
          case measure=>(simp [intOf]<;>omega)
         ·have aH:((y.size:Int) != 32)=true:=by simp;omega
          have HN:Hid (vrB s ix xs ys=false):=by
           show _=_;rw [H.out]
           have:al32 ys=false:=by
            rw [Bool.eq_false_iff];intro h;exact hs (yc4.1 h y (List.mem_of_getElem? ag))
           rw [this];rfl
          clear ag hs;go_wp2;go_ret;exact ⟨by rw [HN.out];rfl,HB1.out⟩
        ·obtain rfl:m=k:=by omega
         have aj:al32 ys=true:=by
          rw [yc4];intro z h;obtain ⟨j,hj,he⟩:=List.mem_iff_getElem?.1 h |> fun ⟨j,hj⟩=>(⟨j,(List.getElem?_eq_some_iff.1 hj).1,hj⟩:∃j,j < ys.length/\ys[j]? =some z)
          exact au.out j (by have:=af.out;omega) z he
         have aI:=lh (aD.out aj);rw [aj,Bool.true_and] at H
         have ax:Hid (vrB s ix xs ys=(decide (rd=x)&&decide (rs=s))):=by
          show _=_;rw [H.out];simp
         clear aj H
         cases ai:decide (rd=x) with
         |false=>
          have aF:¬rd=x:=of_decide_eq_false ai;have aE:¬x=rd:=fun h=>aF h.symm;have aM:(x.toList==rd.toList)=false:=by rw [<-beqD,decide_eq_false aE]
          go_upto_region 9 with fail
          refine rH (S:=(fun L=>L.cell? ⟨w.heap.size,0,none⟩=some (.string s)/\L.cell? ⟨w.heap.size,1,none⟩=some (.int .i64 ix)/\L.cell? ⟨w.heap.size,2,none⟩=some (.slice A n c)/\L.cell? ⟨w.heap.size,3,none⟩=some (.slice (some ⟨b1,o1,none⟩) m Y)/\L.cell? ⟨b1,o1+ix.toNat,none⟩=some (.string x))) ya9 yab (fun aa=>?_);refine tkY 0 ?_;refine tkH (i:=1) (v:=?kA1v) (y:=(Or.inl ⟨by rfl,?kA1y⟩)) (h:=?kA1r);case kA1y=>(intro w hSw;(try dsimp only at hSw);(obtain ⟨Z,O,T,q3,q4⟩:=hSw);go_simp;try (with_reducible rfl))
          try simp only [pt]
          refine tkY 2 ?_;refine tkY 3 ?_;refine tkH (i:=4) (v:=?kA4v) (y:=(Or.inl ⟨by rfl,?kA4y⟩)) (h:=?kA4r);case kA4y=>(intro w hSw;(try dsimp only at hSw);(obtain ⟨Z,O,T,q3,q4⟩:=hSw);go_simp;try (with_reducible rfl))
          try simp only [pt]
          refine tkY 5 ?_;refine tkH (i:=6) (v:=?kA6v) (y:=(Or.inl ⟨by rfl,?kA6y⟩)) (h:=?kA6r);case kA6y=>(intro w hSw;(try dsimp only at hSw);(obtain ⟨Z,O,T,q3,q4⟩:=hSw);go_simp;try (with_reducible rfl))
          try simp only [pt]
          refine tkY 7 ?_;refine tkH (i:=8) (v:=?kA8v) (y:=(Or.inl ⟨by rfl,?kA8y⟩)) (h:=?kA8r);case kA8y=>(intro w hSw;(try dsimp only at hSw);(obtain ⟨Z,O,T,q3,q4⟩:=hSw);go_simp;try (with_reducible rfl))
          try simp only [pt]
          refine rd1 9 (fun K hK=>?_)
          (go_simp;go_at_call 64;(with_reducible refine (J.out _ yaz).mono ?_);rintro e w5 ⟨rfl,ac⟩;(have HBx:Hid (Below G.heap.size G w5):=Below.trans (B:=G.heap.size) yaz (ac.mono (by first |exact HBx.out.size |exact Nat.le_refl _)));clear ac;go_wp2_with fail)
          refine hK.out _ _ yab (fun aC=>?_);clear hK K aa
          try simp only [pt]
          refine tkY 10 ?_;refine tkY 11 ?_;refine tkN 12 ?_;refine tkN 13 ?_;refine tkN 14 ?_;refine tkN 15 ?_;refine tkN 16 ?_;refine tkN 17 ?_;refine tkN 18 ?_;refine tkY 19 ?_;refine tkY 20 ?_;refine wpAnyH_done ya9 ?_ _;go_wp2_with fail;go_ret;exact ⟨by rw [ax.out,ai];first |rfl |(simp;done),bt HB1.out HBx.out⟩
         |true=>
          obtain rfl:x=rd:=(of_decide_eq_true ai).symm;go_upto_region 9 with fail
          refine rH (S:=(fun L=>L.cell? ⟨w.heap.size,0,none⟩=some (.string s)/\L.cell? ⟨w.heap.size,1,none⟩=some (.int .i64 ix)/\L.cell? ⟨w.heap.size,2,none⟩=some (.slice A n c)/\L.cell? ⟨w.heap.size,3,none⟩=some (.slice (some ⟨b1,o1,none⟩) m Y)/\L.cell? ⟨b1,o1+ix.toNat,none⟩=some (.string x))) ya9 yab (fun aa=>?_);refine tkY 0 ?_;refine tkH (i:=1) (v:=?kB1v) (y:=(Or.inl ⟨by rfl,?kB1y⟩)) (h:=?kB1r);case kB1y=>(intro w hSw;(try dsimp only at hSw);(obtain ⟨Z,O,T,q3,q4⟩:=hSw);go_simp;try (with_reducible rfl))
          try simp only [pt]
          refine tkY 2 ?_;refine tkY 3 ?_;refine tkH (i:=4) (v:=?kB4v) (y:=(Or.inl ⟨by rfl,?kB4y⟩)) (h:=?kB4r);case kB4y=>(intro w hSw;(try dsimp only at hSw);(obtain ⟨Z,O,T,q3,q4⟩:=hSw);go_simp;try (with_reducible rfl))
          try simp only [pt]
          refine tkY 5 ?_;refine tkH (i:=6) (v:=?kB6v) (y:=(Or.inl ⟨by rfl,?kB6y⟩)) (h:=?kB6r);case kB6y=>(intro w hSw;(try dsimp only at hSw);(obtain ⟨Z,O,T,q3,q4⟩:=hSw);go_simp;try (with_reducible rfl))
          try simp only [pt]
          refine tkY 7 ?_;refine tkH (i:=8) (v:=?kB8v) (y:=(Or.inl ⟨by rfl,?kB8y⟩)) (h:=?kB8r);case kB8y=>(intro w hSw;(try dsimp only at hSw);(obtain ⟨Z,O,T,q3,q4⟩:=hSw);go_simp;try (with_reducible rfl))
          try simp only [pt]
          refine rd1 9 (fun K hK=>?_)
          (go_simp;go_at_call 64;(with_reducible refine (J.out _ yaz).mono ?_);rintro e w5 ⟨rfl,ac⟩;(have HBx:Hid (Below G.heap.size G w5):=Below.trans (B:=G.heap.size) yaz (ac.mono (by first |exact HBx.out.size |exact Nat.le_refl _)));clear ac;go_wp2_with fail)
          refine hK.out _ _ yab (fun ae=>?_);clear hK K aa
          try simp only [pt]
          refine tkY 10 ?_;refine tkY 11 ?_;refine tkY 12 ?_;refine tkH (i:=13) (v:=?kB13v) (y:=(Or.inl ⟨by rfl,?kB13y⟩)) (h:=?kB13r);case kB13y=>(intro w hSw;(try dsimp only at hSw);(obtain ⟨Z,O,T,q3,q4⟩:=hSw);go_simp;try (with_reducible rfl))
          try simp only [pt]
          refine tkY 15 ?_;refine tkY 16 ?_;refine tkH (i:=17) (v:=?kB16v) (y:=(Or.inl ⟨by rfl,?kB16y⟩)) (h:=?kB16r);case kB16y=>(intro w hSw;(try dsimp only at hSw);(obtain ⟨Z,O,T,q3,q4⟩:=hSw);go_simp;try (with_reducible rfl))
          try simp only [pt]
          refine rd1 14 (fun K hK=>?_)
          (go_simp;go_at_call 65;(with_reducible refine (aI.out _ yaz).mono ?_);rintro e w6 ⟨rfl,ay⟩;(have HBx:Hid (Below G.heap.size G w6):=Below.trans (B:=G.heap.size) yaz (ay.mono (by first |exact HBx.out.size |exact Nat.le_refl _)));clear ay;go_wp2_with fail)
          refine hK.out _ _ yab (fun aA=>?_);clear hK K ae
          try simp only [pt]
          refine tkY 18 ?_;refine tkY 19 ?_;refine tkY 20 ?_;refine wpAnyH_done ya9 ?_ _;go_wp2_with fail;go_ret;exact ⟨by rw [ax.out,ai,beqD rs s];first |rfl |(simp;done),bt HB1.out HBx.out⟩
      ·(have HF:Hid (vrB s ix xs ys=false):=(by rw [H.out];simp [*]:_=_));(try (have g1:((s.size:Int) != 32)=false:=by simp [c1]));(try (have g1:((s.size:Int) != 32)=true:=yba));(try (have g3:(16:Int) < (m:Int):=by omega));(try (have g3:¬(16:Int) < (m:Int):=by omega));(try (have g4:ix < 0:=by omega));(try (have g4:¬ix < 0:=by omega));(try (have g5:(m:Int)<=ix:=by omega));(try (have g5:¬(m:Int)<=ix:=by omega));(try (have g6:(n:Int) < 1:=by omega));(try (have g6:¬(n:Int) < 1:=by omega));(try (have g7:(65536:Int) < (n:Int):=by omega));(try (have g7:¬(65536:Int) < (n:Int):=by omega));clear J M W H;go_enter func49,ntmps49;(go_upto_region 1 with fail);rw [<-HWE.out];go_wp2;go_ret;exact ⟨by rw [HF.out];rfl,HB1.out⟩
     ·(have HF:Hid (vrB s ix xs ys=false):=(by rw [H.out];simp [*]:_=_));(try (have g1:((s.size:Int) != 32)=false:=by simp [c1]));(try (have g1:((s.size:Int) != 32)=true:=yba));(try (have g3:(16:Int) < (m:Int):=by omega));(try (have g3:¬(16:Int) < (m:Int):=by omega));(try (have g4:ix < 0:=by omega));(try (have g4:¬ix < 0:=by omega));(try (have g5:(m:Int)<=ix:=by omega));(try (have g5:¬(m:Int)<=ix:=by omega));(try (have g6:(n:Int) < 1:=by omega));(try (have g6:¬(n:Int) < 1:=by omega));(try (have g7:(65536:Int) < (n:Int):=by omega));(try (have g7:¬(65536:Int) < (n:Int):=by omega));clear J M W H;go_enter func49,ntmps49;(go_upto_region 1 with fail);rw [<-HWE.out];go_wp2;go_ret;exact ⟨by rw [HF.out];rfl,HB1.out⟩
    ·(have HF:Hid (vrB s ix xs ys=false):=(by rw [H.out];simp [*]:_=_));(try (have g1:((s.size:Int) != 32)=false:=by simp [c1]));(try (have g1:((s.size:Int) != 32)=true:=yba));(try (have g3:(16:Int) < (m:Int):=by omega));(try (have g3:¬(16:Int) < (m:Int):=by omega));(try (have g4:ix < 0:=by omega));(try (have g4:¬ix < 0:=by omega));(try (have g5:(m:Int)<=ix:=by omega));(try (have g5:¬(m:Int)<=ix:=by omega));(try (have g6:(n:Int) < 1:=by omega));(try (have g6:¬(n:Int) < 1:=by omega));(try (have g7:(65536:Int) < (n:Int):=by omega));(try (have g7:¬(65536:Int) < (n:Int):=by omega));clear J M W H;go_enter func49,ntmps49;(go_upto_region 1 with fail);rw [<-HWE.out];go_wp2;go_ret;exact ⟨by rw [HF.out];rfl,HB1.out⟩
   ·(have HF:Hid (vrB s ix xs ys=false):=(by rw [H.out];simp [*]:_=_));(try (have g1:((s.size:Int) != 32)=false:=by simp [c1]));(try (have g1:((s.size:Int) != 32)=true:=yba));(try (have g3:(16:Int) < (m:Int):=by omega));(try (have g3:¬(16:Int) < (m:Int):=by omega));(try (have g4:ix < 0:=by omega));(try (have g4:¬ix < 0:=by omega));(try (have g5:(m:Int)<=ix:=by omega));(try (have g5:¬(m:Int)<=ix:=by omega));(try (have g6:(n:Int) < 1:=by omega));(try (have g6:¬(n:Int) < 1:=by omega));(try (have g7:(65536:Int) < (n:Int):=by omega));(try (have g7:¬(65536:Int) < (n:Int):=by omega));clear J M W H;go_enter func49,ntmps49;(go_upto_region 1 with fail);rw [<-HWE.out];go_wp2;go_ret;exact ⟨by rw [HF.out];rfl,HB1.out⟩
  ·(have HF:Hid (vrB s ix xs ys=false):=(by rw [H.out];simp [*]:_=_));(try (have g1:((s.size:Int) != 32)=false:=by simp [c1]));(try (have g1:((s.size:Int) != 32)=true:=yba));(try (have g3:(16:Int) < (m:Int):=by omega));(try (have g3:¬(16:Int) < (m:Int):=by omega));(try (have g4:ix < 0:=by omega));(try (have g4:¬ix < 0:=by omega));(try (have g5:(m:Int)<=ix:=by omega));(try (have g5:¬(m:Int)<=ix:=by omega));(try (have g6:(n:Int) < 1:=by omega));(try (have g6:¬(n:Int) < 1:=by omega));(try (have g7:(65536:Int) < (n:Int):=by omega));(try (have g7:¬(65536:Int) < (n:Int):=by omega));clear J M W H;go_enter func49,ntmps49;(go_upto_region 1 with fail);rw [<-HWE.out];go_wp2;go_ret;exact ⟨by rw [HF.out];rfl,HB1.out⟩
 ·(have HF:Hid (vrB s ix xs ys=false):=(by rw [H.out];simp [*]:_=_));(try (have g1:((s.size:Int) != 32)=false:=by simp [c1]));(try (have g1:((s.size:Int) != 32)=true:=yba));(try (have g3:(16:Int) < (m:Int):=by omega));(try (have g3:¬(16:Int) < (m:Int):=by omega));(try (have g4:ix < 0:=by omega));(try (have g4:¬ix < 0:=by omega));(try (have g5:(m:Int)<=ix:=by omega));(try (have g5:¬(m:Int)<=ix:=by omega));(try (have g6:(n:Int) < 1:=by omega));(try (have g6:¬(n:Int) < 1:=by omega));(try (have g7:(65536:Int) < (n:Int):=by omega));(try (have g7:¬(65536:Int) < (n:Int):=by omega));clear J M W H;go_enter func49,ntmps49;(go_upto_region 1 with fail);rw [<-HWE.out];go_wp2;go_ret;exact ⟨by rw [HF.out];rfl,HB1.out⟩
