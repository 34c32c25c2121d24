import Derived.Test.YtpdledjgbgalcaaGreatDoorPk
namespace Go.Proofs.YtpdledjgbgalcaaGreatDoor
set_option maxRecDepth 100000
set_option maxHeartbeats 16000000
open Go.RowKit Go.Lib Go.Proofs.Tryz
set_option linter.unusedVariables false
set_option linter.unusedSimpArgs false
theorem ybH {P:Program} {ops:Array Oper} {G:List Oper} {op:Oper} {a:Act} {w:World} {Q:Exit->Act->World->Prop} (J:Region.wanted op (yielded ops a.tmps)=true) (H:TypeId) (x:Operand) (K:op.op= .load H x)
 (b o:Nat) (O:a.eval x= .pointer (some ⟨b,o,none⟩)) (cs:List Value) (d:TypeDesc) (N:w.rangeAt b o cs)
 (M:P.underlying H=some d) (hd:d.isRow=true) (hi:(P.info? H).map (·.size)=some cs.length)
 (h:wpList P ops Q G (a.put op.dst (.agg cs.toArray)) w):wpList P ops Q (op::G) a w:=
 BigFrame.wpList_want J fun _ L=>wp_load_mid H x K b o O cs d N M hd hi (L _ _ h)
theorem wvB_bad {pubs:List ByteArray} {b h:Int} {v:VtR} {d:Int} {R:Rcp} {ps qs rs:List ByteArray} (hv:vaB R ps qs rs=false):wvB pubs b h v d R ps qs rs=false:=by
 unfold wvB rvB;rw [hv];simp
theorem wvO_bad {G:List ByteArray} {b h:Int} {o:Option VtR} {d:Int} {R:Rcp} {ps qs rs:List ByteArray} (H:vaB R ps qs rs=false):wvO G b h o d R ps qs rs=false:=by
 cases o with
 |none=>rfl
 |some v=>exact wvB_bad H
theorem wvO_out {G:List ByteArray} {b h:Int} {o:Option VtR} {d:Int} {R:Rcp} {ps qs rs:List ByteArray} (H:(G.length:Int)<=R.hd):wvO G b h o d R ps qs rs=false:=by
 cases o with
 |none=>rfl
 |some v=>
  show wvB G b h v d R ps qs rs=false;unfold wvB;rw [decide_eq_false (show ¬(0<=R.hd/\R.hd<=(G.length:Int) - 1) by omega)];simp
theorem rcounts_any (x:Vw) (aa:List ByteArray) (vs:List VtR) (d q:Int) (R:Rcp) (st:ByteArray) (tx:Int) (no an:ByteArray) (ps qs rs:List ByteArray) (B:Nat) (w:World) (hV:VtIn w B x.V.a x.V.n vs) (hP:Sl fT w B x.P.a x.P.n aa) (hR:RcIn w B R ps qs rs) (hB:B<=w.heap.size) (bo:x.V.n<=1000) (br:x.P.n<=1000) (aX:R.pa.n<=R.pa.c) (ay:R.pa.n<=1000000) (aA:R.pb.n<=1000000) (az:R.pc.n<=1000000):
 Calls prog 13 #[.agg (cVw x),.agg (cA d q R st tx no an)] w fun e w'=>e= .returned (.bool (cnB aa x.b x.h vs d q R st tx no an ps qs rs))/\Below w.heap.size w w':=by
 have HF:Hid (cnB aa x.b x.h vs d q R st tx no an ps qs rs=(numB d q&&(tkB st tx no an&&(decide (st=R.s)&&(decide (tx=R.ix)&&wvO aa x.b x.h (fiV R.vt vs) d R ps qs rs))))):=rfl;have ag:=lh (fun W=>ydF d q W);have aj:=lh (fun W=>token_any st tx no an W);obtain ⟨T,ao⟩:∃T:World,T=(w.alloc (.cells (cVw x) 48)).alloc (.cells (cA d q R st tx no an) 50):=⟨_,rfl⟩
 have aP:T.heap.size=w.heap.size+2:=by rw [ao];simp
 have ax:T.heap[w.heap.size]? =some (.cells (cVw x) 48 (0,0)):=by
  rw [ao];exact (zx _ _ _ sI).trans (zy w _)
 have aL:T.heap[w.heap.size+1]? =some (.cells (cA d q R st tx no an) 50 (0,0)):=by
  rw [ao];have:=zy (w.alloc (.cells (cVw x) 48)) (.cells (cA d q R st tx no an) 50);simpa using this
 have HB:Hid (Below w.heap.size w T):=by
  show Below ..
  rw [ao];exact bl.alloc sI _
 have HC:Hid (∀V,Below (w.heap.size+2) T V->V.heap[w.heap.size]? =some (.cells (cVw x) 48 (0,0))/\V.heap[w.heap.size+1]? =some (.cells (cA d q R st tx no an) 50 (0,0))):=fun V hv=>⟨(hv.block _ om).trans ax,(hv.block _ om).trans aL⟩
 have HX:Hid (∀V,Below (w.heap.size+2) T V->VtIn V B x.V.a x.V.n vs/\Sl fT V B x.P.a x.P.n aa/\RcIn V B R ps qs rs/\B<=V.heap.size/\Below w.heap.size w V):=fun V hv=>by
  have hb:Below w.heap.size w V:=HB.out.trans (hv.mono (Nat.le_add_right _ 2));exact ⟨hV.up hb hB,hP.up hb hB,hR.up hb hB,Nat.le_trans hB hb.size,hb⟩
 have HS:=lh aP;have HWE:=lh ao;have HB1:Hid (Below (w.heap.size+2) T T):=Below.refl _ _;have aD:Hid (aa.length=x.P.n):=hP.1;have bf:Hid (vs.length=x.V.n):=hV.1.1;clear ax aL aP ao;have ah:Hid (∀V,Below (w.heap.size+2) T V->Calls prog 45 #[.agg (cR R)] V fun e w'=>e= .returned (.bool (vaB R ps qs rs))/\Below V.heap.size V w'):=fun V hv=>ydo R ps qs rs B V (HX.out V hv).2.2.1 (HX.out V hv).2.2.2.1 ay aA az;have aS:Hid (∀(V:World) (u:VtR) (y:Int),Below (w.heap.size+2) T V->u∈vs->Calls prog 20 #[.slice u.wr.a u.wr.n u.wr.c,.int .i64 y] V fun e w'=>e= .returned (.bool (u.xs.contains y))/\V=w'):=fun V u y hv hu=>inJ_any u.wr.a u.wr.n u.wr.c B u.xs y V ((HX.out V hv).1.2 u hu).1 ((HX.out V hv).1.2 u hu).2;have aK:Hid (∀ai V,Below (w.heap.size+2) T V->Calls prog 47 #[.string ai,.agg (cSc x.b x.h),.agg (cR R)] V fun e w'=>e= .returned (.bool (rvB ai x.b x.h R ps qs rs))/\Below V.heap.size V w'):=fun ai V hv=>rgverify_any ai x.b x.h R ps qs rs B V (HX.out V hv).2.2.1 (HX.out V hv).2.2.2.1 aX ay aA az;have al:=lh (rangeA2 (HC.out T HB1.out).2);obtain ⟨a0,a1,a2,a3,a4,a5⟩:=ybC (HC.out T HB1.out).2;obtain ⟨Y,z,U,Z⟩:=ybK (HC.out T HB1.out).2;obtain ⟨H,G,N,J,M,O,L⟩:=ybv (HC.out T HB1.out).1;clear hV hP hR hB aX ay aA az
 cases aq:numB d q with
 |false=>
  rw [aq] at ag HF;rw [Bool.false_and] at HF;clear aq;go_enter func13,ntmps13;go_upto_region 1 with fail
  rw [<-HWE.out];go_wp2_with (go_at_call 44;(with_reducible refine (ag.out _).mono ?_);rintro e w5 ⟨rfl,rfl⟩);go_ret;exact ⟨by rw [HF.out];rfl,HB.out.trans (HB1.out.mono (Nat.le_add_right _ 2))⟩
 |true=>
  rw [aq] at ag HF;rw [Bool.true_and] at HF;clear aq
  cases ap:vaB R ps qs rs with
  |false=>
   rw [ap] at ah;have aM:Hid (cnB aa x.b x.h vs d q R st tx no an ps qs rs=false):=by show _=_;rw [HF.out,wvO_bad ap];simp
   clear HF ap;have HF:=aM;go_enter func13,ntmps13;go_upto_region 1 with fail
   rw [<-HWE.out];go_wp2_with (first |(with_reducible refine ybH (op:=⟨some 14,_,_,_,_,_⟩) ybi tR (.tmp 13) rfl (w.heap.size+1) 2 rfl (cR R).toList _ al.out underlying35 rfl (ybT R) ?_) |(go_at_call 44;(with_reducible refine (ag.out _).mono ?_);rintro e w5 ⟨rfl,rfl⟩) |(go_at_call 45;(with_reducible refine (ah.out _ HB1.out).mono ?_);rintro e w6 ⟨rfl,ac⟩;(have HBx:Hid (Below (w.heap.size+2) T w6):=Below.mono ac (Nat.le_of_eq HS.out.symm));clear ac;clear a0 a1 a2 a3 a4 a5 Y z U Z H G N J M O L;obtain ⟨a0,a1,a2,a3,a4,a5⟩:=ybC (HC.out w6 HBx.out).2;obtain ⟨Y,z,U,Z⟩:=ybK (HC.out w6 HBx.out).2;obtain ⟨H,G,N,J,M,O,L⟩:=ybv (HC.out w6 HBx.out).1));go_ret;exact ⟨by rw [HF.out];rfl,HB.out.trans (HBx.out.mono (Nat.le_add_right _ 2))⟩
  |true=>
   rw [ap] at ah;have bb:=(yb9 ap).1;clear ap
   cases aI:tkB st tx no an with
   |false=>
    rw [aI] at aj HF;rw [Bool.false_and] at HF;clear aI;go_enter func13,ntmps13;go_upto_region 1 with fail
    rw [<-HWE.out];go_wp2_with (first |(with_reducible refine ybH (op:=⟨some 14,_,_,_,_,_⟩) ybi tR (.tmp 13) rfl (w.heap.size+1) 2 rfl (cR R).toList _ al.out underlying35 rfl (ybT R) ?_) |(go_at_call 44;(with_reducible refine (ag.out _).mono ?_);rintro e w5 ⟨rfl,rfl⟩) |(go_at_call 45;(with_reducible refine (ah.out _ HB1.out).mono ?_);rintro e w6 ⟨rfl,ac⟩;(have HBx:Hid (Below (w.heap.size+2) T w6):=Below.mono ac (Nat.le_of_eq HS.out.symm));clear ac;clear a0 a1 a2 a3 a4 a5 Y z U Z H G N J M O L;obtain ⟨a0,a1,a2,a3,a4,a5⟩:=ybC (HC.out w6 HBx.out).2;obtain ⟨Y,z,U,Z⟩:=ybK (HC.out w6 HBx.out).2;obtain ⟨H,G,N,J,M,O,L⟩:=ybv (HC.out w6 HBx.out).1) |(go_at_call 46;(with_reducible refine (aj.out _).mono ?_);rintro e w7 ⟨rfl,ae⟩;(have HB7:Hid (Below (w.heap.size+2) T w7):=HBx.out.trans (Below.mono ae (HS.out▸HBx.out.size)));clear ae;clear a0 a1 a2 a3 a4 a5 Y z U Z H G N J M O L;obtain ⟨a0,a1,a2,a3,a4,a5⟩:=ybC (HC.out w7 HB7.out).2;obtain ⟨Y,z,U,Z⟩:=ybK (HC.out w7 HB7.out).2;obtain ⟨H,G,N,J,M,O,L⟩:=ybv (HC.out w7 HB7.out).1));go_ret;exact ⟨by rw [HF.out];rfl,HB.out.trans (HB7.out.mono (Nat.le_add_right _ 2))⟩
   |true=>
    rw [aI] at aj HF;rw [Bool.true_and] at HF;clear aI
    by_cases h1:st=R.s
    ·by_cases h2:tx=R.ix
     ·rw [decide_eq_true h1,decide_eq_true h2,Bool.true_and,Bool.true_and] at HF;subst h1;subst h2
      by_cases ax:(x.P.n:Int)<=R.hd
      ·have aM:Hid (cnB aa x.b x.h vs d q R R.s R.ix no an ps qs rs=false):=by show _=_;rw [HF.out,wvO_out (by rw [aD.out];exact ax)]
       clear HF;have HF:=aM;go_enter func13,ntmps13;go_upto_region 1 with fail
       rw [<-HWE.out];go_wp2_with (first |(with_reducible refine ybH (op:=⟨some 14,_,_,_,_,_⟩) ybi tR (.tmp 13) rfl (w.heap.size+1) 2 rfl (cR R).toList _ al.out underlying35 rfl (ybT R) ?_) |(go_at_call 44;(with_reducible refine (ag.out _).mono ?_);rintro e w5 ⟨rfl,rfl⟩) |(go_at_call 45;(with_reducible refine (ah.out _ HB1.out).mono ?_);rintro e w6 ⟨rfl,ac⟩;(have HBx:Hid (Below (w.heap.size+2) T w6):=Below.mono ac (Nat.le_of_eq HS.out.symm));clear ac;clear a0 a1 a2 a3 a4 a5 Y z U Z H G N J M O L;obtain ⟨a0,a1,a2,a3,a4,a5⟩:=ybC (HC.out w6 HBx.out).2;obtain ⟨Y,z,U,Z⟩:=ybK (HC.out w6 HBx.out).2;obtain ⟨H,G,N,J,M,O,L⟩:=ybv (HC.out w6 HBx.out).1) |(go_at_call 46;(with_reducible refine (aj.out _).mono ?_);rintro e w7 ⟨rfl,ae⟩;(have HB7:Hid (Below (w.heap.size+2) T w7):=HBx.out.trans (Below.mono ae (HS.out▸HBx.out.size)));clear ae;clear a0 a1 a2 a3 a4 a5 Y z U Z H G N J M O L;obtain ⟨a0,a1,a2,a3,a4,a5⟩:=ybC (HC.out w7 HB7.out).2;obtain ⟨Y,z,U,Z⟩:=ybK (HC.out w7 HB7.out).2;obtain ⟨H,G,N,J,M,O,L⟩:=ybv (HC.out w7 HB7.out).1));go_ret;exact ⟨by rw [HF.out];rfl,HB.out.trans (HB7.out.mono (Nat.le_add_right _ 2))⟩
      ·
       have hlt:R.hd < (x.P.n:Int):=by omega
       have bm:0<=R.hd:=bb.1;have bg:decide (0<=R.hd/\R.hd<=(aa.length:Int) - 1)=true:=by simp;rw [aD.out];omega
       go_enter func13,ntmps13;go_upto_region 1 with fail
       rw [<-HWE.out];go_upto_region 4 with (first |(with_reducible refine ybH (op:=⟨some 14,_,_,_,_,_⟩) ybi tR (.tmp 13) rfl (w.heap.size+1) 2 rfl (cR R).toList _ al.out underlying35 rfl (ybT R) ?_) |(go_at_call 44;(with_reducible refine (ag.out _).mono ?_);rintro e w5 ⟨rfl,rfl⟩) |(go_at_call 45;(with_reducible refine (ah.out _ HB1.out).mono ?_);rintro e w6 ⟨rfl,ac⟩;(have HBx:Hid (Below (w.heap.size+2) T w6):=Below.mono ac (Nat.le_of_eq HS.out.symm));clear ac;clear a0 a1 a2 a3 a4 a5 Y z U Z H G N J M O L;obtain ⟨a0,a1,a2,a3,a4,a5⟩:=ybC (HC.out w6 HBx.out).2;obtain ⟨Y,z,U,Z⟩:=ybK (HC.out w6 HBx.out).2;obtain ⟨H,G,N,J,M,O,L⟩:=ybv (HC.out w6 HBx.out).1) |(go_at_call 46;(with_reducible refine (aj.out _).mono ?_);rintro e w7 ⟨rfl,ae⟩;(have HB7:Hid (Below (w.heap.size+2) T w7):=HBx.out.trans (Below.mono ae (HS.out▸HBx.out.size)));clear ae;clear a0 a1 a2 a3 a4 a5 Y z U Z H G N J M O L;obtain ⟨a0,a1,a2,a3,a4,a5⟩:=ybC (HC.out w7 HB7.out).2;obtain ⟨Y,z,U,Z⟩:=ybK (HC.out w7 HB7.out).2;obtain ⟨H,G,N,J,M,O,L⟩:=ybv (HC.out w7 HB7.out).1))
       clear a0 a1 a2 a3 a4 a5 Y z U Z H G N J M O L;clear ax;have aT:Hid (∀(j:Nat) (u:VtR),j < 0->vs[j]? =some u->u.num≠R.vt):=fun j u hj=>absurd hj om
       go_loopw [5] (fun i wr=>∃k:Nat,k<=x.V.n/\i= .int .i64 k/\Hid (∀(j:Nat) (u:VtR),j < k->vs[j]? =some u->u.num≠R.vt)/\Hid (Below (w.heap.size+2) T wr)) (fun i _=>x.V.n - (intOf i).toNat)
       case atStart=>exact ⟨0,by omega,rfl,aT,HB7⟩
       case round=>
        clear aT;obtain ⟨k,hk,rfl,HM,HBr⟩:=hrel;obtain ⟨H,G,N,J,M,O,L⟩:=ybv (HC.out wr HBr.out).1
        by_cases aN:k < x.V.n
        ·have bh:(k:Int) < (x.V.n:Int):=by omega
         have bj:(0:Int)<=(k:Int):=by omega
         obtain ⟨bv,ov,u,aY,_,am,aU⟩:=(HX.out wr HBr.out).1.1.at_ (k:=k) aN;have hu:=List.mem_of_getElem? am
         have HU:Hid (∀V,Below (w.heap.size+2) T V->∀j y,(fVt u)[j]? =some y->V.cell? ⟨bv,ov+(k*15+j),none⟩=some y):=fun V hv j y hy=>by
          obtain ⟨b3,o3,u3,e3,_,g3,k3⟩:=(HX.out V hv).1.1.at_ (k:=k) aN;rw [aY] at e3;cases e3
          rw [am] at g3;cases g3
          exact k3 j y hy
         have HU0:Hid (∀V,Below (w.heap.size+2) T V->V.cell? ⟨bv,ov+k*15,none⟩=some (.int .i64 u.num)):=fun V hv=>HU.out V hv 0 _ rfl;have HU1:Hid (∀V,Below (w.heap.size+2) T V->V.cell? ⟨bv,ov+k*15+1,none⟩=some (.slice u.wr.a u.wr.n u.wr.c)):=fun V hv=>HU.out V hv 1 _ rfl;have au:Hid (∀V,Below (w.heap.size+2) T V->Calls prog 20 #[.slice u.wr.a u.wr.n u.wr.c,.int .i64 d] V fun e w'=>e= .returned (.bool (u.xs.contains d))/\V=w'):=fun V hv=>aS.out V u d hv hu;have aE:Hid (∀V,Below (w.heap.size+2) T V->Calls prog 20 #[.slice u.wr.a u.wr.n u.wr.c,.int .i64 R.hd] V fun e w'=>e= .returned (.bool (u.xs.contains R.hd))/\V=w'):=fun V hv=>aS.out V u R.hd hv hu;have HBy:=HBr
         by_cases ak:u.num=R.vt
         ·have a6:(u.num==R.vt)=true:=by simp [ak]
          have aW:=fiV_at am ak HM.out;rw [aW] at HF;have ar:Hid (cnB aa x.b x.h vs d q R R.s R.ix no an ps qs rs=(u.xs.contains d&&(!u.xs.contains R.hd&&(decide (0<=R.hd/\R.hd<=(aa.length:Int) - 1)&&rvB (aa.getD R.hd.toNat ⟨#[]⟩) x.b x.h R ps qs rs)))):=HF;rw [bg,Bool.true_and] at ar;clear HF aW am aU hu;have HF:=ar;clear ar ak;go_upto_region 6 with fail
          refine rH (S:=(fun w'=>w'.heap[w.heap.size]? =some (.cells (cVw x) 48 (0,0))/\w'.heap[w.heap.size+1]? =some (.cells (cA d q R R.s R.ix no an) 50 (0,0))/\w'.cell? ⟨bv,ov+k*15,none⟩=some (.int .i64 u.num))) ybi yaf (fun af=>?_);refine tkY 0 ?_;refine tkH (i:=1) (v:=?s1v) (y:=(Or.inl ⟨by rfl,?s1y⟩)) (h:=?s1r);case s1y=>(intro w hSw;(try dsimp only at hSw);(obtain ⟨H,G,N,J,M,O,L⟩:=ybv hSw.1);go_simp;try (with_reducible rfl))
          try simp only [pt]
          refine tkY 2 ?_;refine tkY 3 ?_;refine tkY 4 ?_;refine tkH (i:=5) (v:=?s5v) (y:=(Or.inl ⟨by rfl,?s5y⟩)) (h:=?s5r);case s5y=>(intro w hSw;(try dsimp only at hSw);(have a8:=hSw.2.2);go_simp;try (with_reducible rfl))
          try simp only [pt]
          refine tkY 6 ?_;refine tkY 7 ?_;refine tkH (i:=8) (v:=?s8v) (y:=(Or.inl ⟨by rfl,?s8y⟩)) (h:=?s8r);case s8y=>(intro w hSw;(try dsimp only at hSw);(obtain ⟨a0,a1,a2,a3,a4,a5⟩:=ybC hSw.2.1);go_simp;try (with_reducible rfl))
          try simp only [pt]
          refine tkY 9 ?_;refine wpAnyH_done ybi ?_ _;go_wp2_with fail
          cases aF:u.xs.contains d with
          |false=>
           rw [aF] at au HF;rw [Bool.false_and] at HF;clear aF;clear H G N J M O L;refine rH (S:=(fun w'=>w'.heap[w.heap.size]? =some (.cells (cVw x) 48 (0,0))/\w'.heap[w.heap.size+1]? =some (.cells (cA d q R R.s R.ix no an) 50 (0,0))/\w'.cell? ⟨bv,ov+k*15,none⟩=some (.int .i64 u.num)/\w'.cell? ⟨bv,ov+k*15+1,none⟩=some (.slice u.wr.a u.wr.n u.wr.c))) ybi yad (fun af=>?_);refine tkY 0 ?_;refine tkH (i:=1) (v:=?yA1v) (y:=(Or.inl ⟨by rfl,?yA1y⟩)) (h:=?yA1r);case yA1y=>(intro w hSw;(try dsimp only at hSw);(obtain ⟨H,G,N,J,M,O,L⟩:=ybv hSw.1);go_simp;try (with_reducible rfl))
           try simp only [pt]
           refine tkY 2 ?_;refine tkY 3 ?_;refine tkY 4 ?_;refine tkH (i:=5) (v:=?yA5v) (y:=(Or.inl ⟨by rfl,?yA5y⟩)) (h:=?yA5r);case yA5y=>(intro w hSw;(try dsimp only at hSw);(have aH:=hSw.2.2.2);go_simp;try (with_reducible rfl))
           try simp only [pt]
           refine tkY 6 ?_;refine tkH (i:=7) (v:=?yA7v) (y:=(Or.inl ⟨by rfl,?yA7y⟩)) (h:=?yA7r);case yA7y=>(intro w hSw;(try dsimp only at hSw);(obtain ⟨a0,a1,a2,a3,a4,a5⟩:=ybC hSw.2.1);go_simp;try (with_reducible rfl))
           try simp only [pt]
           refine rd1 8 (fun K hK=>?_)
           (go_simp;go_at_call 20;(with_reducible refine (au.out _ yaw).mono ?_);rintro e w8 ⟨rfl,rfl⟩;go_wp2_with fail)
           refine hK.out _ _ yad (fun aZ=>?_);clear hK K af
           try simp only [pt]
           refine tkY 9 ?_;refine tkN 10 ?_;refine tkN 11 ?_;refine tkN 12 ?_;refine tkN 13 ?_;refine tkN 14 ?_;refine tkN 15 ?_;refine tkN 16 ?_;refine tkN 17 ?_;refine tkN 18 ?_;refine tkN 19 ?_;refine tkN 20 ?_;refine tkY 21 ?_;refine tkY 22 ?_;refine tkN 23 ?_;refine tkN 24 ?_;refine tkN 25 ?_;refine tkN 26 ?_;refine tkN 27 ?_;refine tkN 28 ?_;refine tkN 29 ?_;refine tkN 30 ?_;refine tkN 31 ?_;refine tkN 32 ?_;refine tkN 33 ?_;refine tkN 34 ?_;refine tkY 35 ?_;refine tkY 36 ?_;refine wpAnyH_done ybi ?_ _;go_wp2_with fail;go_ret;exact ⟨by rw [HF.out];rfl,yaq⟩
          |true=>
           rw [aF] at au HF;rw [Bool.true_and] at HF;clear aF
           cases aG:u.xs.contains R.hd with
           |true=>
            rw [aG] at aE HF;rw [Bool.not_true,Bool.false_and] at HF;clear aG;clear H G N J M O L;refine rH (S:=(fun w'=>w'.heap[w.heap.size]? =some (.cells (cVw x) 48 (0,0))/\w'.heap[w.heap.size+1]? =some (.cells (cA d q R R.s R.ix no an) 50 (0,0))/\w'.cell? ⟨bv,ov+k*15,none⟩=some (.int .i64 u.num)/\w'.cell? ⟨bv,ov+k*15+1,none⟩=some (.slice u.wr.a u.wr.n u.wr.c))) ybi yad (fun af=>?_);refine tkY 0 ?_;refine tkH (i:=1) (v:=?yB1v) (y:=(Or.inl ⟨by rfl,?yB1y⟩)) (h:=?yB1r);case yB1y=>(intro w hSw;(try dsimp only at hSw);(obtain ⟨H,G,N,J,M,O,L⟩:=ybv hSw.1);go_simp;try (with_reducible rfl))
            try simp only [pt]
            refine tkY 2 ?_;refine tkY 3 ?_;refine tkY 4 ?_;refine tkH (i:=5) (v:=?yB5v) (y:=(Or.inl ⟨by rfl,?yB5y⟩)) (h:=?yB5r);case yB5y=>(intro w hSw;(try dsimp only at hSw);(have aH:=hSw.2.2.2);go_simp;try (with_reducible rfl))
            try simp only [pt]
            refine tkY 6 ?_;refine tkH (i:=7) (v:=?yB7v) (y:=(Or.inl ⟨by rfl,?yB7y⟩)) (h:=?yB7r);case yB7y=>(intro w hSw;(try dsimp only at hSw);(obtain ⟨a0,a1,a2,a3,a4,a5⟩:=ybC hSw.2.1);go_simp;try (with_reducible rfl))
            try simp only [pt]
            refine rd1 8 (fun K hK=>?_)
            (go_simp;go_at_call 20;(with_reducible refine (au.out _ yaw).mono ?_);rintro e w8 ⟨rfl,rfl⟩;go_wp2_with fail)
            refine hK.out _ _ yad (fun aB=>?_);clear hK K af
            try simp only [pt]
            refine tkY 9 ?_;refine tkY 10 ?_;refine tkH (i:=11) (v:=?yB11v) (y:=(Or.inl ⟨by rfl,?yB11y⟩)) (h:=?yB11r);case yB11y=>(intro w hSw;(try dsimp only at hSw);(obtain ⟨H,G,N,J,M,O,L⟩:=ybv hSw.1);go_simp;try (with_reducible rfl))
            try simp only [pt]
            refine tkY 12 ?_;refine tkY 13 ?_;refine tkY 14 ?_;refine tkH (i:=15) (v:=?yB15v) (y:=(Or.inl ⟨by rfl,?yB15y⟩)) (h:=?yB15r);case yB15y=>(intro w hSw;(try dsimp only at hSw);(have aH:=hSw.2.2.2);go_simp;try (with_reducible rfl))
            try simp only [pt]
            refine tkY 16 ?_;refine tkY 17 ?_;refine tkH (i:=18) (v:=?yB18v) (y:=(Or.inl ⟨by rfl,?yB18y⟩)) (h:=?yB18r);case yB18y=>(intro w hSw;(try dsimp only at hSw);(obtain ⟨a0,a1,a2,a3,a4,a5⟩:=ybC hSw.2.1);go_simp;try (with_reducible rfl))
            try simp only [pt]
            refine rd1 19 (fun K hK=>?_)
            (go_simp;go_at_call 20;(with_reducible refine (aE.out _ yaw).mono ?_);rintro e w8 ⟨rfl,rfl⟩;go_wp2_with fail)
            refine hK.out _ _ yad (fun aQ=>?_);clear hK K aB
            try simp only [pt]
            refine tkY 20 ?_;refine tkY 21 ?_;refine tkY 22 ?_;refine tkN 23 ?_;refine tkN 24 ?_;refine tkN 25 ?_;refine tkN 26 ?_;refine tkN 27 ?_;refine tkN 28 ?_;refine tkN 29 ?_;refine tkN 30 ?_;refine tkN 31 ?_;refine tkN 32 ?_;refine tkN 33 ?_;refine tkN 34 ?_;refine tkY 35 ?_;refine tkY 36 ?_;refine wpAnyH_done ybi ?_ _;go_wp2_with fail;go_ret;exact ⟨by rw [HF.out];rfl,yaq⟩
           |false=>
            rw [aG] at aE HF;rw [Bool.not_false,Bool.true_and] at HF;clear aG;obtain ⟨bp,op,ai,a7,_,aJ,_⟩:=(HX.out wr HBr.out).2.1.2.at_ (k:=R.hd.toNat) (by rw [aD.out];omega);rw [ybA aJ] at HF
            have HPC:Hid (∀V,Below (w.heap.size+2) T V->V.cell? ⟨bp,op+R.hd.toNat,none⟩=some (.string ai)):=fun V hv=>by
             obtain ⟨b3,o3,x3,e3,_,g3,k3⟩:=(HX.out V hv).2.1.2.at_ (k:=R.hd.toNat) (by rw [aD.out];omega);rw [a7] at e3;cases e3
             rw [aJ] at g3;cases g3
             exact k3
            have aK:=lh (aK.out ai);clear aJ;clear H G N J M O L;refine rH (S:=(fun w'=>w'.heap[w.heap.size]? =some (.cells (cVw x) 48 (0,0))/\w'.heap[w.heap.size+1]? =some (.cells (cA d q R R.s R.ix no an) 50 (0,0))/\w'.cell? ⟨bv,ov+k*15,none⟩=some (.int .i64 u.num)/\w'.cell? ⟨bv,ov+k*15+1,none⟩=some (.slice u.wr.a u.wr.n u.wr.c)/\w'.cell? ⟨bp,op+R.hd.toNat,none⟩=some (.string ai))) ybi yaa (fun af=>?_);refine tkY 0 ?_;refine tkH (i:=1) (v:=?yC1v) (y:=(Or.inl ⟨by rfl,?yC1y⟩)) (h:=?yC1r);case yC1y=>(intro w hSw;(try dsimp only at hSw);(obtain ⟨H,G,N,J,M,O,L⟩:=ybv hSw.1);go_simp;try (with_reducible rfl))
            try simp only [pt]
            refine tkY 2 ?_;refine tkY 3 ?_;refine tkY 4 ?_;refine tkH (i:=5) (v:=?yC5v) (y:=(Or.inl ⟨by rfl,?yC5y⟩)) (h:=?yC5r);case yC5y=>(intro w hSw;(try dsimp only at hSw);(have aH:=hSw.2.2.2.1);go_simp;try (with_reducible rfl))
            try simp only [pt]
            refine tkY 6 ?_;refine tkH (i:=7) (v:=?yC7v) (y:=(Or.inl ⟨by rfl,?yC7y⟩)) (h:=?yC7r);case yC7y=>(intro w hSw;(try dsimp only at hSw);(obtain ⟨a0,a1,a2,a3,a4,a5⟩:=ybC hSw.2.1);go_simp;try (with_reducible rfl))
            try simp only [pt]
            refine rd1 8 (fun K hK=>?_)
            (go_simp;go_at_call 20;(with_reducible refine (au.out _ yaw).mono ?_);rintro e w8 ⟨rfl,rfl⟩;go_wp2_with fail)
            refine hK.out _ _ yaa (fun aC=>?_);clear hK K af
            try simp only [pt]
            refine tkY 9 ?_;refine tkY 10 ?_;refine tkH (i:=11) (v:=?yC11v) (y:=(Or.inl ⟨by rfl,?yC11y⟩)) (h:=?yC11r);case yC11y=>(intro w hSw;(try dsimp only at hSw);(obtain ⟨H,G,N,J,M,O,L⟩:=ybv hSw.1);go_simp;try (with_reducible rfl))
            try simp only [pt]
            refine tkY 12 ?_;refine tkY 13 ?_;refine tkY 14 ?_;refine tkH (i:=15) (v:=?yC15v) (y:=(Or.inl ⟨by rfl,?yC15y⟩)) (h:=?yC15r);case yC15y=>(intro w hSw;(try dsimp only at hSw);(have aH:=hSw.2.2.2.1);go_simp;try (with_reducible rfl))
            try simp only [pt]
            refine tkY 16 ?_;refine tkY 17 ?_;refine tkH (i:=18) (v:=?yC18v) (y:=(Or.inl ⟨by rfl,?yC18y⟩)) (h:=?yC18r);case yC18y=>(intro w hSw;(try dsimp only at hSw);(obtain ⟨a0,a1,a2,a3,a4,a5⟩:=ybC hSw.2.1);go_simp;try (with_reducible rfl))
            try simp only [pt]
            refine rd1 19 (fun K hK=>?_)
            (go_simp;go_at_call 20;(with_reducible refine (aE.out _ yaw).mono ?_);rintro e w8 ⟨rfl,rfl⟩;go_wp2_with fail)
            refine hK.out _ _ yaa (fun aw=>?_);clear hK K aC
            try simp only [pt]
            refine tkY 20 ?_;refine tkY 21 ?_;refine tkY 22 ?_;refine tkY 23 ?_;refine tkH (i:=24) (v:=?yC24v) (y:=(Or.inl ⟨by rfl,?yC24y⟩)) (h:=?yC24r);case yC24y=>(intro w hSw;(try dsimp only at hSw);(obtain ⟨H,G,N,J,M,O,L⟩:=ybv hSw.1);go_simp;try (with_reducible rfl))
            try simp only [pt]
            refine tkY 25 ?_;refine tkY 26 ?_;refine tkH (i:=27) (v:=?yC27v) (y:=(Or.inl ⟨by rfl,?yC27y⟩)) (h:=?yC27r);case yC27y=>(intro w hSw;(try dsimp only at hSw);(obtain ⟨a0,a1,a2,a3,a4,a5⟩:=ybC hSw.2.1);go_simp;try (with_reducible rfl))
            try simp only [pt]
            refine tkY 28 ?_;refine tkH (i:=29) (v:=?yC29v) (y:=(Or.inl ⟨by rfl,?yC29y⟩)) (h:=?yC29r);case yC29y=>(intro w hSw;(try dsimp only at hSw);(have hp:=hSw.2.2.2.2);go_simp;try (with_reducible rfl))
            try simp only [pt]
            refine tkY 30 ?_;refine tkH (i:=31) (v:=?yC31v) (y:=(Or.inl ⟨by rfl,?yC31y⟩)) (h:=?yC31r);case yC31y=>(intro w hSw;(try dsimp only at hSw);(obtain ⟨H,G,N,J,M,O,L⟩:=ybv hSw.1);go_simp;try (with_reducible rfl))
            try simp only [pt]
            refine tkY 32 ?_;refine tkH (i:=33) (v:=_) (y:=(yieldsIf_load_mid (by rfl) tR (.tmp 91) rfl (w.heap.size+1) 2 (by rfl) (cR R).toList _ (fun _ h=>rangeA2 h.2.1) underlying35 rfl (ybT R))) (h:=?_)
            try simp only [pt]
            refine rd1 34 (fun K hK=>?_)
            (go_simp;go_at_call 47;(with_reducible refine (aK.out _ yaw).mono ?_);rintro e w9 ⟨rfl,aR⟩;(have HBy:Hid (Below (w.heap.size+2) T w9):=Below.trans (B:=w.heap.size+2) yaw (Below.mono aR (HS.out▸HBr.out.size)));clear aR;go_wp2_with fail)
            refine hK.out _ _ yaa (fun aO=>?_);clear hK K aw
            try simp only [pt]
            refine tkY 35 ?_;refine tkY 36 ?_;refine wpAnyH_done ybi ?_ _;go_wp2_with fail;go_ret;exact ⟨by rw [HF.out];rfl,yaq⟩
         ·have a6:(u.num==R.vt)=false:=by simp [ak]
          have be:Hid (∀(j:Nat) (u:VtR),j < k+1->vs[j]? =some u->u.num≠R.vt):=fun j y hj h=>by
           rcases Nat.lt_or_ge j k with c |c
           ·exact HM.out j y c h
           ·obtain rfl:j=k:=by omega
            rw [am] at h;cases h;exact ak
          clear am aU hu ak;go_upto_region 6 with fail
          refine rH (S:=(fun w'=>w'.heap[w.heap.size]? =some (.cells (cVw x) 48 (0,0))/\w'.heap[w.heap.size+1]? =some (.cells (cA d q R R.s R.ix no an) 50 (0,0))/\w'.cell? ⟨bv,ov+k*15,none⟩=some (.int .i64 u.num))) ybi yaf (fun af=>?_);refine tkY 0 ?_;refine tkH (i:=1) (v:=?t1v) (y:=(Or.inl ⟨by rfl,?t1y⟩)) (h:=?t1r);case t1y=>(intro w hSw;(try dsimp only at hSw);(obtain ⟨H,G,N,J,M,O,L⟩:=ybv hSw.1);go_simp;try (with_reducible rfl))
          try simp only [pt]
          refine tkY 2 ?_;refine tkY 3 ?_;refine tkY 4 ?_;refine tkH (i:=5) (v:=?t5v) (y:=(Or.inl ⟨by rfl,?t5y⟩)) (h:=?t5r);case t5y=>(intro w hSw;(try dsimp only at hSw);(have a8:=hSw.2.2);go_simp;try (with_reducible rfl))
          try simp only [pt]
          refine tkY 6 ?_;refine tkY 7 ?_;refine tkH (i:=8) (v:=?t8v) (y:=(Or.inl ⟨by rfl,?t8y⟩)) (h:=?t8r);case t8y=>(intro w hSw;(try dsimp only at hSw);(obtain ⟨a0,a1,a2,a3,a4,a5⟩:=ybC hSw.2.1);go_simp;try (with_reducible rfl))
          try simp only [pt]
          refine tkY 9 ?_;refine wpAnyH_done ybi ?_ _;clear aY;go_wp2_with fail;refine ⟨?rel,?measure⟩;case rel=>exact ⟨k+1,by omega,by go_num,be,(by first |exact HBr |exact lh HBr.out.drew)⟩
          case measure=>(simp [intOf]<;>omega)
        ·obtain rfl:x.V.n=k:=by omega
         have aV:fiV R.vt vs=none:=fiV_none (fun j u h=>HM.out j u (by have:=(List.getElem?_eq_some_iff.1 h).1;have:=bf.out;omega) h);rw [aV] at HF;have ar:Hid (cnB aa x.b x.h vs d q R R.s R.ix no an ps qs rs=false):=HF;clear HF aV;have HF:=ar;go_wp2;go_ret;exact ⟨by rw [HF.out];rfl,HB.out.trans (HBr.out.mono (Nat.le_add_right _ 2))⟩
     ·rw [decide_eq_true h1,decide_eq_false h2,Bool.true_and,Bool.false_and] at HF;subst h1;have bi:(tx==R.ix)=false:=by simp [h2]
      go_enter func13,ntmps13;go_upto_region 1 with fail
      rw [<-HWE.out];go_wp2_with (first |(with_reducible refine ybH (op:=⟨some 14,_,_,_,_,_⟩) ybi tR (.tmp 13) rfl (w.heap.size+1) 2 rfl (cR R).toList _ al.out underlying35 rfl (ybT R) ?_) |(go_at_call 44;(with_reducible refine (ag.out _).mono ?_);rintro e w5 ⟨rfl,rfl⟩) |(go_at_call 45;(with_reducible refine (ah.out _ HB1.out).mono ?_);rintro e w6 ⟨rfl,ac⟩;(have HBx:Hid (Below (w.heap.size+2) T w6):=Below.mono ac (Nat.le_of_eq HS.out.symm));clear ac;clear a0 a1 a2 a3 a4 a5 Y z U Z H G N J M O L;obtain ⟨a0,a1,a2,a3,a4,a5⟩:=ybC (HC.out w6 HBx.out).2;obtain ⟨Y,z,U,Z⟩:=ybK (HC.out w6 HBx.out).2;obtain ⟨H,G,N,J,M,O,L⟩:=ybv (HC.out w6 HBx.out).1) |(go_at_call 46;(with_reducible refine (aj.out _).mono ?_);rintro e w7 ⟨rfl,ae⟩;(have HB7:Hid (Below (w.heap.size+2) T w7):=HBx.out.trans (Below.mono ae (HS.out▸HBx.out.size)));clear ae;clear a0 a1 a2 a3 a4 a5 Y z U Z H G N J M O L;obtain ⟨a0,a1,a2,a3,a4,a5⟩:=ybC (HC.out w7 HB7.out).2;obtain ⟨Y,z,U,Z⟩:=ybK (HC.out w7 HB7.out).2;obtain ⟨H,G,N,J,M,O,L⟩:=ybv (HC.out w7 HB7.out).1));go_ret;exact ⟨by rw [HF.out];rfl,HB.out.trans (HB7.out.mono (Nat.le_add_right _ 2))⟩
    ·rw [decide_eq_false h1,Bool.false_and] at HF
     (have a9:¬st.toList=R.s.toList:=fun h=>h1 (by have:=beqD st R.s;rw [decide_eq_false h1] at this;simp [h] at this));(have bq:(st.toList==R.s.toList)=false:=by rw [<-beqD,decide_eq_false h1]);(have bk:decide (st.toList=R.s.toList)=false:=by simp [a9])
     go_enter func13,ntmps13;go_upto_region 1 with fail
     rw [<-HWE.out];go_wp2_with (first |(with_reducible refine ybH (op:=⟨some 14,_,_,_,_,_⟩) ybi tR (.tmp 13) rfl (w.heap.size+1) 2 rfl (cR R).toList _ al.out underlying35 rfl (ybT R) ?_) |(go_at_call 44;(with_reducible refine (ag.out _).mono ?_);rintro e w5 ⟨rfl,rfl⟩) |(go_at_call 45;(with_reducible refine (ah.out _ HB1.out).mono ?_);rintro e w6 ⟨rfl,ac⟩;(have HBx:Hid (Below (w.heap.size+2) T w6):=Below.mono ac (Nat.le_of_eq HS.out.symm));clear ac;clear a0 a1 a2 a3 a4 a5 Y z U Z H G N J M O L;obtain ⟨a0,a1,a2,a3,a4,a5⟩:=ybC (HC.out w6 HBx.out).2;obtain ⟨Y,z,U,Z⟩:=ybK (HC.out w6 HBx.out).2;obtain ⟨H,G,N,J,M,O,L⟩:=ybv (HC.out w6 HBx.out).1) |(go_at_call 46;(with_reducible refine (aj.out _).mono ?_);rintro e w7 ⟨rfl,ae⟩;(have HB7:Hid (Below (w.heap.size+2) T w7):=HBx.out.trans (Below.mono ae (HS.out▸HBx.out.size)));clear ae;clear a0 a1 a2 a3 a4 a5 Y z U Z H G N J M O L;obtain ⟨a0,a1,a2,a3,a4,a5⟩:=ybC (HC.out w7 HB7.out).2;obtain ⟨Y,z,U,Z⟩:=ybK (HC.out w7 HB7.out).2;obtain ⟨H,G,N,J,M,O,L⟩:=ybv (HC.out w7 HB7.out).1));go_ret;exact ⟨by rw [HF.out];rfl,HB.out.trans (HB7.out.mono (Nat.le_add_right _ 2))⟩
