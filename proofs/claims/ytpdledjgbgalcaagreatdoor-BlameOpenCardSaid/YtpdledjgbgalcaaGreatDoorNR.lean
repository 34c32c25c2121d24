import Derived.Test.YtpdledjgbgalcaaGreatDoorPo
namespace Go.Proofs.YtpdledjgbgalcaaGreatDoor
set_option maxRecDepth 100000
set_option maxHeartbeats 16000000
open Go.RowKit Go.Lib Go.Proofs.Tryz
set_option linter.unusedVariables false
set_option linter.unusedSimpArgs false
theorem yby {P:Program} {ops:Array Oper} {G:List Oper} {op:Oper} {a:Act} {w:World} {Q:Exit->Act->World->Prop} (L:Region.wanted op (yielded ops a.tmps)=true) (H:TypeId) (x:Operand) (O:op.op= .load H x)
 (b o:Nat) (J:a.eval x= .pointer (some ⟨b,o,none⟩)) (cs:List Value) (d:TypeDesc) (N:w.rangeAt b o cs)
 (K:P.underlying H=some d) (hd:d.isRow=true) (hi:(P.info? H).map (·.size)=some cs.length)
 (h:wpList P ops Q G (a.put op.dst (.agg cs.toArray)) w):wpList P ops Q (op::G) a w:=
 BigFrame.wpList_want L fun _ M=>wp_load_mid H x O b o J cs d N K hd hi (M _ _ h)
theorem wvB_bad {pubs:List ByteArray} {b h:Int} {v:VtR} {d:Int} {R:Rcp} {ps qs rs:List ByteArray} (hv:vaB R ps qs rs=false):wvB pubs b h v d R ps qs rs=false:=by
 unfold wvB rvB;rw [hv];simp
theorem wvO_bad {G:List ByteArray} {b h:Int} {o:Option VtR} {d:Int} {R:Rcp} {ps qs rs:List ByteArray} (H:vaB R ps qs rs=false):wvO G b h o d R ps qs rs=false:=by
 cases o with
 |none=>rfl
 |some v=>exact wvB_bad H
theorem wvO_out {G:List ByteArray} {b h:Int} {o:Option VtR} {d:Int} {R:Rcp} {ps qs rs:List ByteArray} (H:(G.length:Int)<=R.hd):wvO G b h o d R ps qs rs=false:=by
 cases o with
 |none=>rfl
 |some v=>
  show wvB G b h v d R ps qs rs=false;unfold wvB;rw [decide_eq_false (show ¬(0<=R.hd/\R.hd<=(G.length:Int) - 1) by omega)];simp
theorem rcounts_any (x:Vw) (ac:List ByteArray) (vs:List VtR) (d q:Int) (R:Rcp) (st:ByteArray) (tx:Int) (no an:ByteArray) (ps qs rs:List ByteArray) (B:Nat) (w:World) (hV:VtIn w B x.V.a x.V.n vs) (hP:Sl fT w B x.P.a x.P.n ac) (hR:RcIn w B R ps qs rs) (hB:B<=w.heap.size) (bn:x.V.n<=1000) (bk:x.P.n<=1000) (aT:R.pa.n<=R.pa.c) (aB:R.pa.n<=1000000) (aD:R.pb.n<=1000000) (aC:R.pc.n<=1000000):
 Calls prog 13 #[.agg (cVw x),.agg (cA d q R st tx no an)] w fun e U=>e= .returned (.bool (cnB ac x.b x.h vs d q R st tx no an ps qs rs))/\Below w.heap.size w U:=by
 have HF:Hid (cnB ac x.b x.h vs d q R st tx no an ps qs rs=(numB d q&&(tkB st tx no an&&(decide (st=R.s)&&(decide (tx=R.ix)&&wvO ac x.b x.h (fiV R.vt vs) d R ps qs rs))))):=rfl;have ah:=lh (fun W=>entry_any d q W);have ak:=lh (fun W=>token_any st tx no an W);obtain ⟨J,ao⟩:∃J:World,J=(w.alloc (.cells (cVw x) 48)).alloc (.cells (cA d q R st tx no an) 50):=⟨_,rfl⟩
 have aW:J.heap.size=w.heap.size+2:=by rw [ao];simp
 have az:J.heap[w.heap.size]? =some (.cells (cVw x) 48 (0,0)):=by
  rw [ao];exact (zx _ _ _ sI).trans (zy w _)
 have aM:J.heap[w.heap.size+1]? =some (.cells (cA d q R st tx no an) 50 (0,0)):=by
  rw [ao];have:=zy (w.alloc (.cells (cVw x) 48)) (.cells (cA d q R st tx no an) 50);simpa using this
 have HB:Hid (Below w.heap.size w J):=by
  show Below ..
  rw [ao];exact bl.alloc sI _
 have HC:Hid (∀V,Below (w.heap.size+2) J V->V.heap[w.heap.size]? =some (.cells (cVw x) 48 (0,0))/\V.heap[w.heap.size+1]? =some (.cells (cA d q R st tx no an) 50 (0,0))):=fun V hv=>⟨(hv.block _ om).trans az,(hv.block _ om).trans aM⟩
 have HX:Hid (∀V,Below (w.heap.size+2) J V->VtIn V B x.V.a x.V.n vs/\Sl fT V B x.P.a x.P.n ac/\RcIn V B R ps qs rs/\B<=V.heap.size/\Below w.heap.size w V):=fun V hv=>by
  have hb:Below w.heap.size w V:=HB.out.trans (hv.mono (Nat.le_add_right _ 2));exact ⟨hV.up hb hB,hP.up hb hB,hR.up hb hB,Nat.le_trans hB hb.size,hb⟩
 have HS:=lh aW;have HWE:=lh ao;have HB1:Hid (Below (w.heap.size+2) J J):=Below.refl _ _;have HPL:Hid (ac.length=x.P.n):=hP.1;have be:Hid (vs.length=x.V.n):=hV.1.1;clear az aM aW ao;have aj:Hid (∀V,Below (w.heap.size+2) J V->Calls prog 45 #[.agg (cR R)] V fun e U=>e= .returned (.bool (vaB R ps qs rs))/\Below V.heap.size V U):=fun V hv=>ydc R ps qs rs B V (HX.out V hv).2.2.1 (HX.out V hv).2.2.2.1 aB aD aC;have aY:Hid (∀(V:World) (u:VtR) (y:Int),Below (w.heap.size+2) J V->u∈vs->Calls prog 20 #[.slice u.wr.a u.wr.n u.wr.c,.int .i64 y] V fun e U=>e= .returned (.bool (u.xs.contains y))/\V=U):=fun V u y hv hu=>inJ_any u.wr.a u.wr.n u.wr.c B u.xs y V ((HX.out V hv).1.2 u hu).1 ((HX.out V hv).1.2 u hu).2;have aL:Hid (∀ai V,Below (w.heap.size+2) J V->Calls prog 47 #[.string ai,.agg (cSc x.b x.h),.agg (cR R)] V fun e U=>e= .returned (.bool (rvB ai x.b x.h R ps qs rs))/\Below V.heap.size V U):=fun ai V hv=>rgverify_any ai x.b x.h R ps qs rs B V (HX.out V hv).2.2.1 (HX.out V hv).2.2.2.1 aT aB aD aC;have aq:=lh (rangeA2 (HC.out J HB1.out).2);obtain ⟨a0,a1,a2,a3,a4,a5⟩:=ybu (HC.out J HB1.out).2;obtain ⟨Y,z,aa,Z⟩:=ybA (HC.out J HB1.out).2;obtain ⟨G,H,M,T,O,N,L⟩:=ybo (HC.out J HB1.out).1;clear hV hP hR hB aT aB aD aC
 cases au:numB d q with
 |false=>
  rw [au] at ah HF;rw [Bool.false_and] at HF;clear au;go_enter func13,ntmps13;go_upto_region 1 with fail
  rw [<-HWE.out];go_wp2_with (go_at_call 44;(with_reducible refine (ah.out _).mono ?_);rintro e w5 ⟨rfl,rfl⟩);go_ret;exact ⟨by rw [HF.out];rfl,HB.out.trans (HB1.out.mono (Nat.le_add_right _ 2))⟩
 |true=>
  rw [au] at ah HF;rw [Bool.true_and] at HF;clear au
  cases ar:vaB R ps qs rs with
  |false=>
   rw [ar] at aj;have aN:Hid (cnB ac x.b x.h vs d q R st tx no an ps qs rs=false):=by show _=_;rw [HF.out,wvO_bad ar];simp
   clear HF ar;have HF:=aN;go_enter func13,ntmps13;go_upto_region 1 with fail
   rw [<-HWE.out];go_wp2_with (first |(with_reducible refine yby (op:=⟨some 14,_,_,_,_,_⟩) ya9 tR (.tmp 13) rfl (w.heap.size+1) 2 rfl (cR R).toList _ aq.out underlying35 rfl (ybJ R) ?_) |(go_at_call 44;(with_reducible refine (ah.out _).mono ?_);rintro e w5 ⟨rfl,rfl⟩) |(go_at_call 45;(with_reducible refine (aj.out _ HB1.out).mono ?_);rintro e w6 ⟨rfl,ae⟩;(have HBx:Hid (Below (w.heap.size+2) J w6):=Below.mono ae (Nat.le_of_eq HS.out.symm));clear ae;clear a0 a1 a2 a3 a4 a5 Y z aa Z G H M T O N L;obtain ⟨a0,a1,a2,a3,a4,a5⟩:=ybu (HC.out w6 HBx.out).2;obtain ⟨Y,z,aa,Z⟩:=ybA (HC.out w6 HBx.out).2;obtain ⟨G,H,M,T,O,N,L⟩:=ybo (HC.out w6 HBx.out).1));go_ret;exact ⟨by rw [HF.out];rfl,HB.out.trans (HBx.out.mono (Nat.le_add_right _ 2))⟩
  |true=>
   rw [ar] at aj;have ba:=(yb2 ar).1;clear ar
   cases aI:tkB st tx no an with
   |false=>
    rw [aI] at ak HF;rw [Bool.false_and] at HF;clear aI;go_enter func13,ntmps13;go_upto_region 1 with fail
    rw [<-HWE.out];go_wp2_with (first |(with_reducible refine yby (op:=⟨some 14,_,_,_,_,_⟩) ya9 tR (.tmp 13) rfl (w.heap.size+1) 2 rfl (cR R).toList _ aq.out underlying35 rfl (ybJ R) ?_) |(go_at_call 44;(with_reducible refine (ah.out _).mono ?_);rintro e w5 ⟨rfl,rfl⟩) |(go_at_call 45;(with_reducible refine (aj.out _ HB1.out).mono ?_);rintro e w6 ⟨rfl,ae⟩;(have HBx:Hid (Below (w.heap.size+2) J w6):=Below.mono ae (Nat.le_of_eq HS.out.symm));clear ae;clear a0 a1 a2 a3 a4 a5 Y z aa Z G H M T O N L;obtain ⟨a0,a1,a2,a3,a4,a5⟩:=ybu (HC.out w6 HBx.out).2;obtain ⟨Y,z,aa,Z⟩:=ybA (HC.out w6 HBx.out).2;obtain ⟨G,H,M,T,O,N,L⟩:=ybo (HC.out w6 HBx.out).1) |(go_at_call 46;(with_reducible refine (ak.out _).mono ?_);rintro e w7 ⟨rfl,af⟩;(have HB7:Hid (Below (w.heap.size+2) J w7):=HBx.out.trans (Below.mono af (HS.out▸HBx.out.size)));clear af;clear a0 a1 a2 a3 a4 a5 Y z aa Z G H M T O N L;obtain ⟨a0,a1,a2,a3,a4,a5⟩:=ybu (HC.out w7 HB7.out).2;obtain ⟨Y,z,aa,Z⟩:=ybA (HC.out w7 HB7.out).2;obtain ⟨G,H,M,T,O,N,L⟩:=ybo (HC.out w7 HB7.out).1));go_ret;exact ⟨by rw [HF.out];rfl,HB.out.trans (HB7.out.mono (Nat.le_add_right _ 2))⟩
   |true=>
    rw [aI] at ak HF;rw [Bool.true_and] at HF;clear aI
    by_cases h1:st=R.s
    ·by_cases h2:tx=R.ix
     ·rw [decide_eq_true h1,decide_eq_true h2,Bool.true_and,Bool.true_and] at HF;subst h1;subst h2
      by_cases az:(x.P.n:Int)<=R.hd
      ·have aN:Hid (cnB ac x.b x.h vs d q R R.s R.ix no an ps qs rs=false):=by show _=_;rw [HF.out,wvO_out (by rw [HPL.out];exact az)]
       clear HF;have HF:=aN;go_enter func13,ntmps13;go_upto_region 1 with fail
       rw [<-HWE.out];go_wp2_with (first |(with_reducible refine yby (op:=⟨some 14,_,_,_,_,_⟩) ya9 tR (.tmp 13) rfl (w.heap.size+1) 2 rfl (cR R).toList _ aq.out underlying35 rfl (ybJ R) ?_) |(go_at_call 44;(with_reducible refine (ah.out _).mono ?_);rintro e w5 ⟨rfl,rfl⟩) |(go_at_call 45;(with_reducible refine (aj.out _ HB1.out).mono ?_);rintro e w6 ⟨rfl,ae⟩;(have HBx:Hid (Below (w.heap.size+2) J w6):=Below.mono ae (Nat.le_of_eq HS.out.symm));clear ae;clear a0 a1 a2 a3 a4 a5 Y z aa Z G H M T O N L;obtain ⟨a0,a1,a2,a3,a4,a5⟩:=ybu (HC.out w6 HBx.out).2;obtain ⟨Y,z,aa,Z⟩:=ybA (HC.out w6 HBx.out).2;obtain ⟨G,H,M,T,O,N,L⟩:=ybo (HC.out w6 HBx.out).1) |(go_at_call 46;(with_reducible refine (ak.out _).mono ?_);rintro e w7 ⟨rfl,af⟩;(have HB7:Hid (Below (w.heap.size+2) J w7):=HBx.out.trans (Below.mono af (HS.out▸HBx.out.size)));clear af;clear a0 a1 a2 a3 a4 a5 Y z aa Z G H M T O N L;obtain ⟨a0,a1,a2,a3,a4,a5⟩:=ybu (HC.out w7 HB7.out).2;obtain ⟨Y,z,aa,Z⟩:=ybA (HC.out w7 HB7.out).2;obtain ⟨G,H,M,T,O,N,L⟩:=ybo (HC.out w7 HB7.out).1));go_ret;exact ⟨by rw [HF.out];rfl,HB.out.trans (HB7.out.mono (Nat.le_add_right _ 2))⟩
      ·
       have hlt:R.hd < (x.P.n:Int):=by omega
       have bm:0<=R.hd:=ba.1;have bb:decide (0<=R.hd/\R.hd<=(ac.length:Int) - 1)=true:=by simp;rw [HPL.out];omega
       go_enter func13,ntmps13;go_upto_region 1 with fail
       rw [<-HWE.out];go_upto_region 4 with (first |(with_reducible refine yby (op:=⟨some 14,_,_,_,_,_⟩) ya9 tR (.tmp 13) rfl (w.heap.size+1) 2 rfl (cR R).toList _ aq.out underlying35 rfl (ybJ R) ?_) |(go_at_call 44;(with_reducible refine (ah.out _).mono ?_);rintro e w5 ⟨rfl,rfl⟩) |(go_at_call 45;(with_reducible refine (aj.out _ HB1.out).mono ?_);rintro e w6 ⟨rfl,ae⟩;(have HBx:Hid (Below (w.heap.size+2) J w6):=Below.mono ae (Nat.le_of_eq HS.out.symm));clear ae;clear a0 a1 a2 a3 a4 a5 Y z aa Z G H M T O N L;obtain ⟨a0,a1,a2,a3,a4,a5⟩:=ybu (HC.out w6 HBx.out).2;obtain ⟨Y,z,aa,Z⟩:=ybA (HC.out w6 HBx.out).2;obtain ⟨G,H,M,T,O,N,L⟩:=ybo (HC.out w6 HBx.out).1) |(go_at_call 46;(with_reducible refine (ak.out _).mono ?_);rintro e w7 ⟨rfl,af⟩;(have HB7:Hid (Below (w.heap.size+2) J w7):=HBx.out.trans (Below.mono af (HS.out▸HBx.out.size)));clear af;clear a0 a1 a2 a3 a4 a5 Y z aa Z G H M T O N L;obtain ⟨a0,a1,a2,a3,a4,a5⟩:=ybu (HC.out w7 HB7.out).2;obtain ⟨Y,z,aa,Z⟩:=ybA (HC.out w7 HB7.out).2;obtain ⟨G,H,M,T,O,N,L⟩:=ybo (HC.out w7 HB7.out).1))
       clear a0 a1 a2 a3 a4 a5 Y z aa Z G H M T O N L;clear az;have aU:Hid (∀(j:Nat) (u:VtR),j < 0->vs[j]? =some u->u.num≠R.vt):=fun j u hj=>absurd hj om
       go_loopw [5] (fun i wr=>∃k:Nat,k<=x.V.n/\i= .int .i64 k/\Hid (∀(j:Nat) (u:VtR),j < k->vs[j]? =some u->u.num≠R.vt)/\Hid (Below (w.heap.size+2) J wr)) (fun i _=>x.V.n - (intOf i).toNat)
       case atStart=>exact ⟨0,by omega,rfl,aU,HB7⟩
       case round=>
        clear aU;obtain ⟨k,hk,rfl,HM,HBr⟩:=hrel;obtain ⟨G,H,M,T,O,N,L⟩:=ybo (HC.out wr HBr.out).1
        by_cases aR:k < x.V.n
        ·have bg:(k:Int) < (x.V.n:Int):=by omega
         have bj:(0:Int)<=(k:Int):=by omega
         obtain ⟨bv,ov,u,aZ,_,ap,aS⟩:=(HX.out wr HBr.out).1.1.at_ (k:=k) aR;have hu:=List.mem_of_getElem? ap
         have HU:Hid (∀V,Below (w.heap.size+2) J V->∀j y,(fVt u)[j]? =some y->V.cell? ⟨bv,ov+(k*15+j),none⟩=some y):=fun V hv j y hy=>by
          obtain ⟨b3,o3,u3,e3,_,g3,k3⟩:=(HX.out V hv).1.1.at_ (k:=k) aR;rw [aZ] at e3;cases e3
          rw [ap] at g3;cases g3
          exact k3 j y hy
         have HU0:Hid (∀V,Below (w.heap.size+2) J V->V.cell? ⟨bv,ov+k*15,none⟩=some (.int .i64 u.num)):=fun V hv=>HU.out V hv 0 _ rfl;have HU1:Hid (∀V,Below (w.heap.size+2) J V->V.cell? ⟨bv,ov+k*15+1,none⟩=some (.slice u.wr.a u.wr.n u.wr.c)):=fun V hv=>HU.out V hv 1 _ rfl;have aw:Hid (∀V,Below (w.heap.size+2) J V->Calls prog 20 #[.slice u.wr.a u.wr.n u.wr.c,.int .i64 d] V fun e U=>e= .returned (.bool (u.xs.contains d))/\V=U):=fun V hv=>aY.out V u d hv hu;have aJ:Hid (∀V,Below (w.heap.size+2) J V->Calls prog 20 #[.slice u.wr.a u.wr.n u.wr.c,.int .i64 R.hd] V fun e U=>e= .returned (.bool (u.xs.contains R.hd))/\V=U):=fun V hv=>aY.out V u R.hd hv hu;have HBy:=HBr
         by_cases am:u.num=R.vt
         ·have a7:(u.num==R.vt)=true:=by simp [am]
          have aQ:=fiV_at ap am HM.out;rw [aQ] at HF;have ax:Hid (cnB ac x.b x.h vs d q R R.s R.ix no an ps qs rs=(u.xs.contains d&&(!u.xs.contains R.hd&&(decide (0<=R.hd/\R.hd<=(ac.length:Int) - 1)&&rvB (ac.getD R.hd.toNat ⟨#[]⟩) x.b x.h R ps qs rs)))):=HF;rw [bb,Bool.true_and] at ax;clear HF aQ ap aS hu;have HF:=ax;clear ax am;go_upto_region 6 with fail
          refine rH (S:=(fun U=>U.heap[w.heap.size]? =some (.cells (cVw x) 48 (0,0))/\U.heap[w.heap.size+1]? =some (.cells (cA d q R R.s R.ix no an) 50 (0,0))/\U.cell? ⟨bv,ov+k*15,none⟩=some (.int .i64 u.num))) ya9 yaf (fun ag=>?_);refine tkY 0 ?_;refine tkH (i:=1) (v:=?s1v) (y:=(Or.inl ⟨by rfl,?s1y⟩)) (h:=?s1r);case s1y=>(intro w hSw;(try dsimp only at hSw);(obtain ⟨G,H,M,T,O,N,L⟩:=ybo hSw.1);go_simp;try (with_reducible rfl))
          try simp only [pt]
          refine tkY 2 ?_;refine tkY 3 ?_;refine tkY 4 ?_;refine tkH (i:=5) (v:=?s5v) (y:=(Or.inl ⟨by rfl,?s5y⟩)) (h:=?s5r);case s5y=>(intro w hSw;(try dsimp only at hSw);(have bc:=hSw.2.2);go_simp;try (with_reducible rfl))
          try simp only [pt]
          refine tkY 6 ?_;refine tkY 7 ?_;refine tkH (i:=8) (v:=?s8v) (y:=(Or.inl ⟨by rfl,?s8y⟩)) (h:=?s8r);case s8y=>(intro w hSw;(try dsimp only at hSw);(obtain ⟨a0,a1,a2,a3,a4,a5⟩:=ybu hSw.2.1);go_simp;try (with_reducible rfl))
          try simp only [pt]
          refine tkY 9 ?_;refine wpAnyH_done ya9 ?_ _;go_wp2_with fail
          cases aG:u.xs.contains d with
          |false=>
           rw [aG] at aw HF;rw [Bool.false_and] at HF;clear aG;clear G H M T O N L;refine rH (S:=(fun U=>U.heap[w.heap.size]? =some (.cells (cVw x) 48 (0,0))/\U.heap[w.heap.size+1]? =some (.cells (cA d q R R.s R.ix no an) 50 (0,0))/\U.cell? ⟨bv,ov+k*15,none⟩=some (.int .i64 u.num)/\U.cell? ⟨bv,ov+k*15+1,none⟩=some (.slice u.wr.a u.wr.n u.wr.c))) ya9 yad (fun ag=>?_);refine tkY 0 ?_;refine tkH (i:=1) (v:=?yA1v) (y:=(Or.inl ⟨by rfl,?yA1y⟩)) (h:=?yA1r);case yA1y=>(intro w hSw;(try dsimp only at hSw);(obtain ⟨G,H,M,T,O,N,L⟩:=ybo hSw.1);go_simp;try (with_reducible rfl))
           try simp only [pt]
           refine tkY 2 ?_;refine tkY 3 ?_;refine tkY 4 ?_;refine tkH (i:=5) (v:=?yA5v) (y:=(Or.inl ⟨by rfl,?yA5y⟩)) (h:=?yA5r);case yA5y=>(intro w hSw;(try dsimp only at hSw);(have aH:=hSw.2.2.2);go_simp;try (with_reducible rfl))
           try simp only [pt]
           refine tkY 6 ?_;refine tkH (i:=7) (v:=?yA7v) (y:=(Or.inl ⟨by rfl,?yA7y⟩)) (h:=?yA7r);case yA7y=>(intro w hSw;(try dsimp only at hSw);(obtain ⟨a0,a1,a2,a3,a4,a5⟩:=ybu hSw.2.1);go_simp;try (with_reducible rfl))
           try simp only [pt]
           refine rd1 8 (fun K hK=>?_)
           (go_simp;go_at_call 20;(with_reducible refine (aw.out _ yaw).mono ?_);rintro e w8 ⟨rfl,rfl⟩;go_wp2_with fail)
           refine hK.out _ _ yad (fun a6=>?_);clear hK K ag
           try simp only [pt]
           refine tkY 9 ?_;refine tkN 10 ?_;refine tkN 11 ?_;refine tkN 12 ?_;refine tkN 13 ?_;refine tkN 14 ?_;refine tkN 15 ?_;refine tkN 16 ?_;refine tkN 17 ?_;refine tkN 18 ?_;refine tkN 19 ?_;refine tkN 20 ?_;refine tkY 21 ?_;refine tkY 22 ?_;refine tkN 23 ?_;refine tkN 24 ?_;refine tkN 25 ?_;refine tkN 26 ?_;refine tkN 27 ?_;refine tkN 28 ?_;refine tkN 29 ?_;refine tkN 30 ?_;refine tkN 31 ?_;refine tkN 32 ?_;refine tkN 33 ?_;refine tkN 34 ?_;refine tkY 35 ?_;refine tkY 36 ?_;refine wpAnyH_done ya9 ?_ _;go_wp2_with fail;go_ret;exact ⟨by rw [HF.out];rfl,yaq⟩
          |true=>
           rw [aG] at aw HF;rw [Bool.true_and] at HF;clear aG
           cases aF:u.xs.contains R.hd with
           |true=>
            rw [aF] at aJ HF;rw [Bool.not_true,Bool.false_and] at HF;clear aF;clear G H M T O N L;refine rH (S:=(fun U=>U.heap[w.heap.size]? =some (.cells (cVw x) 48 (0,0))/\U.heap[w.heap.size+1]? =some (.cells (cA d q R R.s R.ix no an) 50 (0,0))/\U.cell? ⟨bv,ov+k*15,none⟩=some (.int .i64 u.num)/\U.cell? ⟨bv,ov+k*15+1,none⟩=some (.slice u.wr.a u.wr.n u.wr.c))) ya9 yad (fun ag=>?_);refine tkY 0 ?_;refine tkH (i:=1) (v:=?yB1v) (y:=(Or.inl ⟨by rfl,?yB1y⟩)) (h:=?yB1r);case yB1y=>(intro w hSw;(try dsimp only at hSw);(obtain ⟨G,H,M,T,O,N,L⟩:=ybo hSw.1);go_simp;try (with_reducible rfl))
            try simp only [pt]
            refine tkY 2 ?_;refine tkY 3 ?_;refine tkY 4 ?_;refine tkH (i:=5) (v:=?yB5v) (y:=(Or.inl ⟨by rfl,?yB5y⟩)) (h:=?yB5r);case yB5y=>(intro w hSw;(try dsimp only at hSw);(have aH:=hSw.2.2.2);go_simp;try (with_reducible rfl))
            try simp only [pt]
            refine tkY 6 ?_;refine tkH (i:=7) (v:=?yB7v) (y:=(Or.inl ⟨by rfl,?yB7y⟩)) (h:=?yB7r);case yB7y=>(intro w hSw;(try dsimp only at hSw);(obtain ⟨a0,a1,a2,a3,a4,a5⟩:=ybu hSw.2.1);go_simp;try (with_reducible rfl))
            try simp only [pt]
            refine rd1 8 (fun K hK=>?_)
            (go_simp;go_at_call 20;(with_reducible refine (aw.out _ yaw).mono ?_);rintro e w8 ⟨rfl,rfl⟩;go_wp2_with fail)
            refine hK.out _ _ yad (fun aE=>?_);clear hK K ag
            try simp only [pt]
            refine tkY 9 ?_;refine tkY 10 ?_;refine tkH (i:=11) (v:=?yB11v) (y:=(Or.inl ⟨by rfl,?yB11y⟩)) (h:=?yB11r);case yB11y=>(intro w hSw;(try dsimp only at hSw);(obtain ⟨G,H,M,T,O,N,L⟩:=ybo hSw.1);go_simp;try (with_reducible rfl))
            try simp only [pt]
            refine tkY 12 ?_;refine tkY 13 ?_;refine tkY 14 ?_;refine tkH (i:=15) (v:=?yB15v) (y:=(Or.inl ⟨by rfl,?yB15y⟩)) (h:=?yB15r);case yB15y=>(intro w hSw;(try dsimp only at hSw);(have aH:=hSw.2.2.2);go_simp;try (with_reducible rfl))
            try simp only [pt]
            refine tkY 16 ?_;refine tkY 17 ?_;refine tkH (i:=18) (v:=?yB18v) (y:=(Or.inl ⟨by rfl,?yB18y⟩)) (h:=?yB18r);case yB18y=>(intro w hSw;(try dsimp only at hSw);(obtain ⟨a0,a1,a2,a3,a4,a5⟩:=ybu hSw.2.1);go_simp;try (with_reducible rfl))
            try simp only [pt]
            refine rd1 19 (fun K hK=>?_)
            (go_simp;go_at_call 20;(with_reducible refine (aJ.out _ yaw).mono ?_);rintro e w8 ⟨rfl,rfl⟩;go_wp2_with fail)
            refine hK.out _ _ yad (fun aP=>?_);clear hK K aE
            try simp only [pt]
            refine tkY 20 ?_;refine tkY 21 ?_;refine tkY 22 ?_;refine tkN 23 ?_;refine tkN 24 ?_;refine tkN 25 ?_;refine tkN 26 ?_;refine tkN 27 ?_;refine tkN 28 ?_;refine tkN 29 ?_;refine tkN 30 ?_;refine tkN 31 ?_;refine tkN 32 ?_;refine tkN 33 ?_;refine tkN 34 ?_;refine tkY 35 ?_;refine tkY 36 ?_;refine wpAnyH_done ya9 ?_ _;go_wp2_with fail;go_ret;exact ⟨by rw [HF.out];rfl,yaq⟩
           |false=>
            rw [aF] at aJ HF;rw [Bool.not_false,Bool.true_and] at HF;clear aF;obtain ⟨bp,op,ai,a8,_,aK,_⟩:=(HX.out wr HBr.out).2.1.2.at_ (k:=R.hd.toNat) (by rw [HPL.out];omega);rw [ybw aK] at HF
            have HPC:Hid (∀V,Below (w.heap.size+2) J V->V.cell? ⟨bp,op+R.hd.toNat,none⟩=some (.string ai)):=fun V hv=>by
             obtain ⟨b3,o3,x3,e3,_,g3,k3⟩:=(HX.out V hv).2.1.2.at_ (k:=R.hd.toNat) (by rw [HPL.out];omega);rw [a8] at e3;cases e3
             rw [aK] at g3;cases g3
             exact k3
            have aL:=lh (aL.out ai);clear aK;clear G H M T O N L;refine rH (S:=(fun U=>U.heap[w.heap.size]? =some (.cells (cVw x) 48 (0,0))/\U.heap[w.heap.size+1]? =some (.cells (cA d q R R.s R.ix no an) 50 (0,0))/\U.cell? ⟨bv,ov+k*15,none⟩=some (.int .i64 u.num)/\U.cell? ⟨bv,ov+k*15+1,none⟩=some (.slice u.wr.a u.wr.n u.wr.c)/\U.cell? ⟨bp,op+R.hd.toNat,none⟩=some (.string ai))) ya9 yaa (fun ag=>?_);refine tkY 0 ?_;refine tkH (i:=1) (v:=?yC1v) (y:=(Or.inl ⟨by rfl,?yC1y⟩)) (h:=?yC1r);case yC1y=>(intro w hSw;(try dsimp only at hSw);(obtain ⟨G,H,M,T,O,N,L⟩:=ybo hSw.1);go_simp;try (with_reducible rfl))
            try simp only [pt]
            refine tkY 2 ?_;refine tkY 3 ?_;refine tkY 4 ?_;refine tkH (i:=5) (v:=?yC5v) (y:=(Or.inl ⟨by rfl,?yC5y⟩)) (h:=?yC5r);case yC5y=>(intro w hSw;(try dsimp only at hSw);(have aH:=hSw.2.2.2.1);go_simp;try (with_reducible rfl))
            try simp only [pt]
            refine tkY 6 ?_;refine tkH (i:=7) (v:=?yC7v) (y:=(Or.inl ⟨by rfl,?yC7y⟩)) (h:=?yC7r);case yC7y=>(intro w hSw;(try dsimp only at hSw);(obtain ⟨a0,a1,a2,a3,a4,a5⟩:=ybu hSw.2.1);go_simp;try (with_reducible rfl))
            try simp only [pt]
            refine rd1 8 (fun K hK=>?_)
            (go_simp;go_at_call 20;(with_reducible refine (aw.out _ yaw).mono ?_);rintro e w8 ⟨rfl,rfl⟩;go_wp2_with fail)
            refine hK.out _ _ yaa (fun aA=>?_);clear hK K ag
            try simp only [pt]
            refine tkY 9 ?_;refine tkY 10 ?_;refine tkH (i:=11) (v:=?yC11v) (y:=(Or.inl ⟨by rfl,?yC11y⟩)) (h:=?yC11r);case yC11y=>(intro w hSw;(try dsimp only at hSw);(obtain ⟨G,H,M,T,O,N,L⟩:=ybo hSw.1);go_simp;try (with_reducible rfl))
            try simp only [pt]
            refine tkY 12 ?_;refine tkY 13 ?_;refine tkY 14 ?_;refine tkH (i:=15) (v:=?yC15v) (y:=(Or.inl ⟨by rfl,?yC15y⟩)) (h:=?yC15r);case yC15y=>(intro w hSw;(try dsimp only at hSw);(have aH:=hSw.2.2.2.1);go_simp;try (with_reducible rfl))
            try simp only [pt]
            refine tkY 16 ?_;refine tkY 17 ?_;refine tkH (i:=18) (v:=?yC18v) (y:=(Or.inl ⟨by rfl,?yC18y⟩)) (h:=?yC18r);case yC18y=>(intro w hSw;(try dsimp only at hSw);(obtain ⟨a0,a1,a2,a3,a4,a5⟩:=ybu hSw.2.1);go_simp;try (with_reducible rfl))
            try simp only [pt]
            refine rd1 19 (fun K hK=>?_)
            (go_simp;go_at_call 20;(with_reducible refine (aJ.out _ yaw).mono ?_);rintro e w8 ⟨rfl,rfl⟩;go_wp2_with fail)
            refine hK.out _ _ yaa (fun ay=>?_);clear hK K aA
            try simp only [pt]
            refine tkY 20 ?_;refine tkY 21 ?_;refine tkY 22 ?_;refine tkY 23 ?_;refine tkH (i:=24) (v:=?yC24v) (y:=(Or.inl ⟨by rfl,?yC24y⟩)) (h:=?yC24r);case yC24y=>(intro w hSw;(try dsimp only at hSw);(obtain ⟨G,H,M,T,O,N,L⟩:=ybo hSw.1);go_simp;try (with_reducible rfl))
            try simp only [pt]
            refine tkY 25 ?_;refine tkY 26 ?_;refine tkH (i:=27) (v:=?yC27v) (y:=(Or.inl ⟨by rfl,?yC27y⟩)) (h:=?yC27r);case yC27y=>(intro w hSw;(try dsimp only at hSw);(obtain ⟨a0,a1,a2,a3,a4,a5⟩:=ybu hSw.2.1);go_simp;try (with_reducible rfl))
            try simp only [pt]
            refine tkY 28 ?_;refine tkH (i:=29) (v:=?yC29v) (y:=(Or.inl ⟨by rfl,?yC29y⟩)) (h:=?yC29r);case yC29y=>(intro w hSw;(try dsimp only at hSw);(have hp:=hSw.2.2.2.2);go_simp;try (with_reducible rfl))
            try simp only [pt]
            refine tkY 30 ?_;refine tkH (i:=31) (v:=?yC31v) (y:=(Or.inl ⟨by rfl,?yC31y⟩)) (h:=?yC31r);case yC31y=>(intro w hSw;(try dsimp only at hSw);(obtain ⟨G,H,M,T,O,N,L⟩:=ybo hSw.1);go_simp;try (with_reducible rfl))
            try simp only [pt]
            refine tkY 32 ?_;refine tkH (i:=33) (v:=_) (y:=(yieldsIf_load_mid (by rfl) tR (.tmp 91) rfl (w.heap.size+1) 2 (by rfl) (cR R).toList _ (fun _ h=>rangeA2 h.2.1) underlying35 rfl (ybJ R))) (h:=?_)
            try simp only [pt]
            refine rd1 34 (fun K hK=>?_)
            (go_simp;go_at_call 47;(with_reducible refine (aL.out _ yaw).mono ?_);rintro e w9 ⟨rfl,aO⟩;(have HBy:Hid (Below (w.heap.size+2) J w9):=Below.trans (B:=w.heap.size+2) yaw (Below.mono aO (HS.out▸HBr.out.size)));clear aO;go_wp2_with fail)
            refine hK.out _ _ yaa (fun aV=>?_);clear hK K ay
            try simp only [pt]
            refine tkY 35 ?_;refine tkY 36 ?_;refine wpAnyH_done ya9 ?_ _;go_wp2_with fail;go_ret;exact ⟨by rw [HF.out];rfl,yaq⟩
         ·have a7:(u.num==R.vt)=false:=by simp [am]
          have bf:Hid (∀(j:Nat) (u:VtR),j < k+1->vs[j]? =some u->u.num≠R.vt):=fun j y hj h=>by
           rcases Nat.lt_or_ge j k with c |c
           ·exact HM.out j y c h
           ·obtain rfl:j=k:=by omega
            rw [ap] at h;cases h;exact am
          clear ap aS hu am;go_upto_region 6 with fail
          refine rH (S:=(fun U=>U.heap[w.heap.size]? =some (.cells (cVw x) 48 (0,0))/\U.heap[w.heap.size+1]? =some (.cells (cA d q R R.s R.ix no an) 50 (0,0))/\U.cell? ⟨bv,ov+k*15,none⟩=some (.int .i64 u.num))) ya9 yaf (fun ag=>?_);refine tkY 0 ?_;refine tkH (i:=1) (v:=?t1v) (y:=(Or.inl ⟨by rfl,?t1y⟩)) (h:=?t1r);case t1y=>(intro w hSw;(try dsimp only at hSw);(obtain ⟨G,H,M,T,O,N,L⟩:=ybo hSw.1);go_simp;try (with_reducible rfl))
          try simp only [pt]
          refine tkY 2 ?_;refine tkY 3 ?_;refine tkY 4 ?_;refine tkH (i:=5) (v:=?t5v) (y:=(Or.inl ⟨by rfl,?t5y⟩)) (h:=?t5r);case t5y=>(intro w hSw;(try dsimp only at hSw);(have bc:=hSw.2.2);go_simp;try (with_reducible rfl))
          try simp only [pt]
          refine tkY 6 ?_;refine tkY 7 ?_;refine tkH (i:=8) (v:=?t8v) (y:=(Or.inl ⟨by rfl,?t8y⟩)) (h:=?t8r);case t8y=>(intro w hSw;(try dsimp only at hSw);(obtain ⟨a0,a1,a2,a3,a4,a5⟩:=ybu hSw.2.1);go_simp;try (with_reducible rfl))
          try simp only [pt]
          refine tkY 9 ?_;refine wpAnyH_done ya9 ?_ _;clear aZ;go_wp2_with fail;refine ⟨?rel,?measure⟩;case rel=>exact ⟨k+1,by omega,by go_num,bf,(by first |exact HBr |exact lh HBr.out.drew)⟩
          case measure=>(simp [intOf]<;>omega)
        ·obtain rfl:x.V.n=k:=by omega
         have aX:fiV R.vt vs=none:=fiV_none (fun j u h=>HM.out j u (by have:=(List.getElem?_eq_some_iff.1 h).1;have:=be.out;omega) h);rw [aX] at HF;have ax:Hid (cnB ac x.b x.h vs d q R R.s R.ix no an ps qs rs=false):=HF;clear HF aX;have HF:=ax;go_wp2;go_ret;exact ⟨by rw [HF.out];rfl,HB.out.trans (HBr.out.mono (Nat.le_add_right _ 2))⟩
     ·rw [decide_eq_true h1,decide_eq_false h2,Bool.true_and,Bool.false_and] at HF;subst h1;have bo:(tx==R.ix)=false:=by simp [h2]
      go_enter func13,ntmps13;go_upto_region 1 with fail
      rw [<-HWE.out];go_wp2_with (first |(with_reducible refine yby (op:=⟨some 14,_,_,_,_,_⟩) ya9 tR (.tmp 13) rfl (w.heap.size+1) 2 rfl (cR R).toList _ aq.out underlying35 rfl (ybJ R) ?_) |(go_at_call 44;(with_reducible refine (ah.out _).mono ?_);rintro e w5 ⟨rfl,rfl⟩) |(go_at_call 45;(with_reducible refine (aj.out _ HB1.out).mono ?_);rintro e w6 ⟨rfl,ae⟩;(have HBx:Hid (Below (w.heap.size+2) J w6):=Below.mono ae (Nat.le_of_eq HS.out.symm));clear ae;clear a0 a1 a2 a3 a4 a5 Y z aa Z G H M T O N L;obtain ⟨a0,a1,a2,a3,a4,a5⟩:=ybu (HC.out w6 HBx.out).2;obtain ⟨Y,z,aa,Z⟩:=ybA (HC.out w6 HBx.out).2;obtain ⟨G,H,M,T,O,N,L⟩:=ybo (HC.out w6 HBx.out).1) |(go_at_call 46;(with_reducible refine (ak.out _).mono ?_);rintro e w7 ⟨rfl,af⟩;(have HB7:Hid (Below (w.heap.size+2) J w7):=HBx.out.trans (Below.mono af (HS.out▸HBx.out.size)));clear af;clear a0 a1 a2 a3 a4 a5 Y z aa Z G H M T O N L;obtain ⟨a0,a1,a2,a3,a4,a5⟩:=ybu (HC.out w7 HB7.out).2;obtain ⟨Y,z,aa,Z⟩:=ybA (HC.out w7 HB7.out).2;obtain ⟨G,H,M,T,O,N,L⟩:=ybo (HC.out w7 HB7.out).1));go_ret;exact ⟨by rw [HF.out];rfl,HB.out.trans (HB7.out.mono (Nat.le_add_right _ 2))⟩
    ·rw [decide_eq_false h1,Bool.false_and] at HF
     (have a9:¬st.toList=R.s.toList:=fun h=>h1 (by have:=beqD st R.s;rw [decide_eq_false h1] at this;simp [h] at this));(have bi:(st.toList==R.s.toList)=false:=by rw [<-beqD,decide_eq_false h1]);(have bh:decide (st.toList=R.s.toList)=false:=by simp [a9])
     go_enter func13,ntmps13;go_upto_region 1 with fail
     rw [<-HWE.out];go_wp2_with (first |(with_reducible refine yby (op:=⟨some 14,_,_,_,_,_⟩) ya9 tR (.tmp 13) rfl (w.heap.size+1) 2 rfl (cR R).toList _ aq.out underlying35 rfl (ybJ R) ?_) |(go_at_call 44;(with_reducible refine (ah.out _).mono ?_);rintro e w5 ⟨rfl,rfl⟩) |(go_at_call 45;(with_reducible refine (aj.out _ HB1.out).mono ?_);rintro e w6 ⟨rfl,ae⟩;(have HBx:Hid (Below (w.heap.size+2) J w6):=Below.mono ae (Nat.le_of_eq HS.out.symm));clear ae;clear a0 a1 a2 a3 a4 a5 Y z aa Z G H M T O N L;obtain ⟨a0,a1,a2,a3,a4,a5⟩:=ybu (HC.out w6 HBx.out).2;obtain ⟨Y,z,aa,Z⟩:=ybA (HC.out w6 HBx.out).2;obtain ⟨G,H,M,T,O,N,L⟩:=ybo (HC.out w6 HBx.out).1) |(go_at_call 46;(with_reducible refine (ak.out _).mono ?_);rintro e w7 ⟨rfl,af⟩;(have HB7:Hid (Below (w.heap.size+2) J w7):=HBx.out.trans (Below.mono af (HS.out▸HBx.out.size)));clear af;clear a0 a1 a2 a3 a4 a5 Y z aa Z G H M T O N L;obtain ⟨a0,a1,a2,a3,a4,a5⟩:=ybu (HC.out w7 HB7.out).2;obtain ⟨Y,z,aa,Z⟩:=ybA (HC.out w7 HB7.out).2;obtain ⟨G,H,M,T,O,N,L⟩:=ybo (HC.out w7 HB7.out).1));go_ret;exact ⟨by rw [HF.out];rfl,HB.out.trans (HB7.out.mono (Nat.le_add_right _ 2))⟩
