/- Views in memory; which accusations count. -/
import Derived.Test.YtpdledjgbgalcaaGreatDoorPo
namespace Go.Proofs.YtpdledjgbgalcaaGreatDoor
set_option maxRecDepth 100000
set_option maxHeartbeats 16000000
open Go.RowKit Go.Lib
set_option linter.unusedVariables false
set_option linter.unusedSimpArgs false
structure Vw where
 E:Hd
 V:Hd
 P:Hd
 b:Int
 h:Int
 D:Hd
 F:Hd
abbrev cVw (x:Vw):Array Value:=#[.slice x.E.a x.E.n x.E.c,.slice x.V.a x.V.n x.V.c,.slice x.P.a x.P.n x.P.c,.int .i64 x.b,.int .i64 x.h,.slice x.D.a x.D.n x.D.c,.slice x.F.a x.F.n x.F.c]
def wvB (pubs:List ByteArray) (b h:Int) (v:VtR) (d:Int) (R:Rcp) (ps qs rs:List ByteArray):Bool:=
 v.xs.contains d&&(!v.xs.contains R.hd&&(decide (0≤R.hd∧R.hd≤(pubs.length:Int) - 1)&&rvB (pubs.getD R.hd.toNat ⟨#[]⟩) b h R ps qs rs))
def wvO (pubs:List ByteArray) (b h:Int) (o:Option VtR) (d:Int) (R:Rcp) (ps qs rs:List ByteArray):Bool:=
 match o with
 |none=>false
 |some v=>wvB pubs b h v d R ps qs rs
def cnB (pubs:List ByteArray) (b h:Int) (vs:List VtR) (d q:Int) (R:Rcp) (st:ByteArray) (tx:Int) (no an:ByteArray) (ps qs rs:List ByteArray):Bool:=
 numB d q&&(tkB st tx no an&&(decide (st=R.s)&&(decide (tx=R.ix)&&wvO pubs b h (fiV R.vt vs) d R ps qs rs)))
theorem rangeA2 {w:World} {b:Nat} {t:TypeId} {d q:Int} {R:Rcp} {st:ByteArray} {tx:Int} {no an:ByteArray} (h:w.heap[b]? =some (.cells (cA d q R st tx no an) t (0,0))):w.rangeAt b 2 (cR R).toList:=fun j v hv=>by
 rw [cell_of_row w b (2+j) _ _ _ h,←Array.getElem?_toList]
 have:(cA d q R st tx no an).toList=[.int .i64 d,.int .i64 q]++((cR R).toList++[.string st,.int .i64 tx,.string no,.string an]):=rfl
 rw [this,List.getElem?_append_right (by show 2≤2+j;omega)];have hj:j < (cR R).toList.length:=(List.getElem?_eq_some_iff.1 hv).1
 show ((cR R).toList++_)[2+j - 2]? =some v
 rw [Nat.add_sub_cancel_left,List.getElem?_append_left hj];exact hv
theorem ycF {w:World} {b:Nat} {t:TypeId} {d q:Int} {R:Rcp} {st:ByteArray} {tx:Int} {no an:ByteArray} (h:w.heap[b]? =some (.cells (cA d q R st tx no an) t (0,0))):w.cell? ⟨b,16,none⟩=some (.string st)∧w.cell? ⟨b,17,none⟩=some (.int .i64 tx)∧w.cell? ⟨b,18,none⟩=some (.string no)∧w.cell? ⟨b,19,none⟩=some (.string an):=by
 refine ⟨?_,?_,?_,?_⟩<;>(rw [cell_of_row w _ _ _ _ _ h];rfl)
theorem ycm {w:World} {b:Nat} {t:TypeId} {d q:Int} {R:Rcp} {st:ByteArray} {tx:Int} {no an:ByteArray} (h:w.heap[b]? =some (.cells (cA d q R st tx no an) t (0,0))):w.cell? ⟨b,0,none⟩=some (.int .i64 d)∧w.cell? ⟨b,1,none⟩=some (.int .i64 q)∧w.cell? ⟨b,2,none⟩=some (.int .i64 R.hd)∧w.cell? ⟨b,3,none⟩=some (.int .i64 R.vt)∧w.cell? ⟨b,4,none⟩=some (.string R.s)∧w.cell? ⟨b,5,none⟩=some (.int .i64 R.ix):=by
 refine ⟨?_,?_,?_,?_,?_,?_⟩<;>(rw [cell_of_row w _ _ _ _ _ h];rfl)
theorem ybE {w:World} {b:Nat} {t:TypeId} {x:Vw} (h:w.heap[b]? =some (.cells (cVw x) t (0,0))):w.cell? ⟨b,0,none⟩=some (.slice x.E.a x.E.n x.E.c)∧w.cell? ⟨b,1,none⟩=some (.slice x.V.a x.V.n x.V.c)∧w.cell? ⟨b,2,none⟩=some (.slice x.P.a x.P.n x.P.c)∧w.cell? ⟨b,3,none⟩=some (.int .i64 x.b)∧w.cell? ⟨b,4,none⟩=some (.int .i64 x.h)∧w.cell? ⟨b,5,none⟩=some (.slice x.D.a x.D.n x.D.c)∧w.cell? ⟨b,6,none⟩=some (.slice x.F.a x.F.n x.F.c):=by
 refine ⟨?_,?_,?_,?_,?_,?_,?_⟩<;>(rw [cell_of_row w _ _ _ _ _ h];rfl)
theorem bvalid_any (x:Vw) (pubs:List ByteArray) (vs:List VtR) (d q:Int) (R:Rcp) (st:ByteArray) (tx:Int) (no an:ByteArray) (ps qs rs:List ByteArray) (B:Nat) (w:World) (hG:Glob w) (hV:VtIn w B x.V.a x.V.n vs) (hP:Sl fT w B x.P.a x.P.n pubs) (hR:RcIn w B R ps qs rs) (hB:B≤w.heap.size) (hvn:x.V.n≤1000) (hpn:x.P.n≤1000) (hpa:R.pa.n≤R.pa.c):
 Calls Tryz.prog 12 #[.agg (cVw x),.agg (cA d q R st tx no an)] w fun e w'=>e= .returned (.bool (cnB pubs x.b x.h vs d q R st tx no an ps qs rs))∧Below w.heap.size w w':=by
 have HF:Hid (cnB pubs x.b x.h vs d q R st tx no an ps qs rs=(numB d q&&(tkB st tx no an&&(decide (st=R.s)&&(decide (tx=R.ix)&&wvO pubs x.b x.h (fiV R.vt vs) d R ps qs rs))))):=rfl;have HNU:=lh (fun W=>yb3 d q W);have HTK:=lh (fun W=>isToken_any st tx no an W);obtain ⟨W1,hW1⟩:∃W1:World,W1=(w.alloc (.cells (cVw x) 29)).alloc (.cells (cA d q R st tx no an) 39):=⟨_,rfl⟩
 have hsz:W1.heap.size=w.heap.size+2:=by rw [hW1];simp
 have hge:W1.heap[w.heap.size]? =some (.cells (cVw x) 29 (0,0)):=by
  rw [hW1];exact (Below.heap_alloc _ _ _ sI).trans (heap_alloc_new w _)
 have hge2:W1.heap[w.heap.size+1]? =some (.cells (cA d q R st tx no an) 39 (0,0)):=by
  rw [hW1]
  have:=heap_alloc_new (w.alloc (.cells (cVw x) 29)) (.cells (cA d q R st tx no an) 39)
  simpa using this
 have HB:Hid (Below w.heap.size w W1):=by
  show Below ..
  rw [hW1];exact bl.alloc sI _
 have HC:Hid (∀V,Below (w.heap.size+2) W1 V→V.heap[w.heap.size]? =some (.cells (cVw x) 29 (0,0))∧V.heap[w.heap.size+1]? =some (.cells (cA d q R st tx no an) 39 (0,0))):=fun V hv=>⟨(hv.block _ om).trans hge,(hv.block _ om).trans hge2⟩
 have HX:Hid (∀V,Below (w.heap.size+2) W1 V→VtIn V B x.V.a x.V.n vs∧Sl fT V B x.P.a x.P.n pubs∧RcIn V B R ps qs rs∧B≤V.heap.size∧Below w.heap.size w V):=fun V hv=>by
  have hb:Below w.heap.size w V:=HB.out.trans (hv.mono (Nat.le_add_right _ 2));exact ⟨hV.up hb hB,hP.up hb hB,hR.up hb hB,Nat.le_trans hB hb.size,hb⟩
 have HS:=lh hsz;have HWE:=lh hW1;have HB1:Hid (Below (w.heap.size+2) W1 W1):=Below.refl _ _;have HPL:Hid (pubs.length=x.P.n):=hP.1;have HVL:Hid (vs.length=x.V.n):=hV.1.1;clear hge hge2 hsz hW1;have HIX:Hid (∀V,Below (w.heap.size+2) W1 V→Calls Tryz.prog 39 #[.slice x.V.a x.V.n x.V.c,.func (.func 40) #[] #[.pointer (some ⟨w.heap.size+1,0,none⟩)]] V (FiP R.vt vs V)):=fun V hv=>indexV_any x.V.a x.V.n x.V.c B vs (w.heap.size+1) R.vt V (HX.out V hv).1.1 (HX.out V hv).2.2.2.1 om (fun V2 h2=>(ycm (HC.out V2 (hv.trans (h2.mono (HS.out▸hv.size)))).2).2.2.2.1)
 have HCD:Hid (∀(V:World) (u:VtR) (y:Int),Below (w.heap.size+2) W1 V→u∈vs→Calls Tryz.prog 41 #[.slice u.wr.a u.wr.n u.wr.c,.int .i64 y] V fun e w'=>e= .returned (.bool (u.xs.contains y))∧V=w'):=fun V u y hv hu=>containsJ_any u.wr.a u.wr.n u.wr.c B u.xs y V ((HX.out V hv).1.2 u hu).1 ((HX.out V hv).1.2 u hu).2
 have HWI:=lh (fun W=>ybu R.hd 0 ((x.P.n:Int) - 1) W);have HRV:Hid (∀pub V,Below (w.heap.size+2) W1 V→Calls Tryz.prog 43 #[.string pub,.agg (cSc x.b x.h),.agg (cR R)] V fun e w'=>e= .returned (.bool (rvB pub x.b x.h R ps qs rs))∧Below V.heap.size V w'):=fun pub V hv=>rcverify_any pub x.b x.h R ps qs rs B V (hG.on (HX.out V hv).2.2.2.2) (HX.out V hv).2.2.1 (HX.out V hv).2.2.2.1 hpa
 have hpl0:(0:Int)≤(x.P.n:Int) - 1∨True:= .inr trivial;obtain ⟨a0,a1,a2,a3,a4,a5⟩:=ycm (HC.out W1 HB1.out).2;obtain ⟨a16,a17,a18,a19⟩:=ycF (HC.out W1 HB1.out).2;obtain ⟨v0,v1,v2,v3,v4,v5,v6⟩:=ybE (HC.out W1 HB1.out).1;clear hV hP hR hB hG hpa hpl0
 cases hnum:numB d q with
 |false=>
  rw [hnum] at HNU HF;rw [Bool.false_and] at HF;clear hnum;go_enter Tryz.func12,Tryz.ntmps12
  go_upto_region 1 with fail
  rw [←HWE.out]
  go_wp2_with (go_at_call 37;(with_reducible refine (HNU.out _).mono ?_);rintro e w5 ⟨rfl,rfl⟩)
  go_ret;exact ⟨by rw [HF.out];rfl,HB.out.trans (HB1.out.mono (Nat.le_add_right _ 2))⟩
 |true=>
  rw [hnum] at HNU HF;rw [Bool.true_and] at HF;clear hnum
  cases htk:tkB st tx no an with
  |false=>
   rw [htk] at HTK HF;rw [Bool.false_and] at HF;clear htk;go_enter Tryz.func12,Tryz.ntmps12
   go_upto_region 1 with fail
   rw [←HWE.out]
   go_wp2_with (first |(go_at_call 37;(with_reducible refine (HNU.out _).mono ?_);rintro e w5 ⟨rfl,rfl⟩) |(go_at_call 38;(with_reducible refine (HTK.out _).mono ?_);rintro e w6 ⟨rfl,hb6⟩;(have HBx:Hid (Below (w.heap.size+2) W1 w6):=Below.mono hb6 (Nat.le_of_eq HS.out.symm));clear hb6;clear a0 a1 a2 a3 a4 a5 a16 a17 a18 a19 v0 v1 v2 v3 v4 v5 v6;obtain ⟨a0,a1,a2,a3,a4,a5⟩:=ycm (HC.out w6 HBx.out).2;obtain ⟨a16,a17,a18,a19⟩:=ycF (HC.out w6 HBx.out).2;obtain ⟨v0,v1,v2,v3,v4,v5,v6⟩:=ybE (HC.out w6 HBx.out).1))
   go_ret;exact ⟨by rw [HF.out];rfl,HB.out.trans (HBx.out.mono (Nat.le_add_right _ 2))⟩
  |true=>
   rw [htk] at HTK HF;rw [Bool.true_and] at HF;clear htk
   by_cases h1:st=R.s
   ·by_cases h2:tx=R.ix
    ·rw [decide_eq_true h1,decide_eq_true h2,Bool.true_and,Bool.true_and] at HF
     subst h1;subst h2;go_enter Tryz.func12,Tryz.ntmps12
     go_upto_region 1 with fail
     rw [←HWE.out]
     go_upto_region 4 with (first |(go_at_call 37;(with_reducible refine (HNU.out _).mono ?_);rintro e w5 ⟨rfl,rfl⟩) |(go_at_call 38;(with_reducible refine (HTK.out _).mono ?_);rintro e w6 ⟨rfl,hb6⟩;(have HBx:Hid (Below (w.heap.size+2) W1 w6):=Below.mono hb6 (Nat.le_of_eq HS.out.symm));clear hb6;clear a0 a1 a2 a3 a4 a5 a16 a17 a18 a19 v0 v1 v2 v3 v4 v5 v6;obtain ⟨a0,a1,a2,a3,a4,a5⟩:=ycm (HC.out w6 HBx.out).2;obtain ⟨a16,a17,a18,a19⟩:=ycF (HC.out w6 HBx.out).2;obtain ⟨v0,v1,v2,v3,v4,v5,v6⟩:=ybE (HC.out w6 HBx.out).1) |(go_at_call 39;(with_reducible refine (HIX.out _ HBx.out).mono ?_);rintro e w7 ⟨z,rfl,hz,hb7⟩;(have HB7:Hid (Below (w.heap.size+2) W1 w7):=HBx.out.trans (Below.mono hb7 (HS.out▸HBx.out.size)));clear hb7;(have HZ:=lh hz);clear hz;clear a0 a1 a2 a3 a4 a5 a16 a17 a18 a19 v0 v1 v2 v3 v4 v5 v6;obtain ⟨a0,a1,a2,a3,a4,a5⟩:=ycm (HC.out w7 HB7.out).2;obtain ⟨a16,a17,a18,a19⟩:=ycF (HC.out w7 HB7.out).2;obtain ⟨v0,v1,v2,v3,v4,v5,v6⟩:=ybE (HC.out w7 HB7.out).1))
     rcases HZ.out with ⟨k,u,rfl,hgu,hfu⟩ |⟨rfl,hfn⟩
     ·rw [hfu] at HF
      have HF1:Hid (cnB pubs x.b x.h vs d q R R.s R.ix no an ps qs rs=(u.xs.contains d&&(!u.xs.contains R.hd&&(decide (0≤R.hd∧R.hd≤(pubs.length:Int) - 1)&&rvB (pubs.getD R.hd.toNat ⟨#[]⟩) x.b x.h R ps qs rs)))):=HF;clear HF;have HF:=HF1;have hu:=List.mem_of_getElem? hgu;have hkn:k < x.V.n:=by have:=(List.getElem?_eq_some_iff.1 hgu).1;have:=HVL.out;omega
      have hknI:(k:Int) < (x.V.n:Int):=by omega
      have hk0:(0:Int)≤(k:Int):=by omega
      obtain ⟨bv,ov,u2,hAv,_,hgu2,hcu⟩:=(HX.out w7 HB7.out).1.1.at_ (k:=k) hkn;rw [hgu] at hgu2
      cases hgu2
      have kw:=hcu 1 _ rfl;rw [←Nat.add_assoc] at kw;rw [hAv] at v1;have HC1:=lh (HCD.out w7 u d HB7.out hu);have HC2:=lh (HCD.out w7 u R.hd HB7.out hu);clear hcu hgu hfu hu hAv HF1
      cases hcd:u.xs.contains d with
      |false=>
       rw [hcd] at HC1 HF;rw [Bool.false_and] at HF;clear hcd
       go_wp2_with (go_at_call 41;(with_reducible refine HC1.out.mono ?_);rintro e w8 ⟨rfl,rfl⟩)
       go_ret;exact ⟨by rw [HF.out];rfl,HB.out.trans (HB7.out.mono (Nat.le_add_right _ 2))⟩
      |true=>
       rw [hcd] at HC1 HF;rw [Bool.true_and] at HF;clear hcd
       cases hch:u.xs.contains R.hd with
       |true=>
        rw [hch] at HC2 HF;rw [Bool.not_true,Bool.false_and] at HF;clear hch
        go_wp2_with (go_at_call 41;(first |(with_reducible refine HC1.out.mono ?_) |(with_reducible refine HC2.out.mono ?_));rintro e w8 ⟨rfl,rfl⟩)
        go_ret;exact ⟨by rw [HF.out];rfl,HB.out.trans (HB7.out.mono (Nat.le_add_right _ 2))⟩
       |false=>
        rw [hch] at HC2 HF;rw [Bool.not_false,Bool.true_and] at HF;clear hch
        go_upto_region 10 with (go_at_call 41;(first |(with_reducible refine HC1.out.mono ?_) |(with_reducible refine HC2.out.mono ?_));rintro e w8 ⟨rfl,rfl⟩)
        rw [HPL.out] at HF;have hwp:IntKind.i64.wrap ((x.P.n:Int) - 1)=(x.P.n:Int) - 1:=IntWalk.i64_in _ om
        by_cases hwi:0≤R.hd∧R.hd≤(x.P.n:Int) - 1
        ·
         rw [decide_eq_true hwi] at HF HWI;rw [Bool.true_and] at HF;obtain ⟨bp,op,pub,hAp,_,hgp,_⟩:=(HX.out w7 HB7.out).2.1.2.at_ (k:=R.hd.toNat) (by rw [HPL.out];omega);rw [ybg hgp] at HF
         have HPC:Hid (∀V,Below (w.heap.size+2) W1 V→V.cell? ⟨bp,op+R.hd.toNat,none⟩=some (.string pub)):=fun V hv=>by
          obtain ⟨b3,o3,x3,e3,_,g3,k3⟩:=(HX.out V hv).2.1.2.at_ (k:=R.hd.toNat) (by rw [HPL.out];omega);rw [hAp] at e3
          cases e3
          rw [hgp] at g3
          cases g3
          exact k3
         have hhd0:0≤R.hd:=hwi.1;have hhd1:R.hd < (x.P.n:Int):=by omega
         have HRV:=lh (HRV.out pub);clear hgp;clear a0 a1 a2 a3 a4 a5 a16 a17 a18 a19 v0 v1 v2 v3 v4 v5 v6;refine wp_region_held_drew (S:=(fun w'=>w'.heap[w.heap.size]? =some (.cells (cVw x) 29 (0,0))∧w'.heap[w.heap.size+1]? =some (.cells (cA d q R R.s R.ix no an) 39 (0,0))∧w'.cell? ⟨bp,op+R.hd.toNat,none⟩=some (.string pub))) yaV yab (fun hHeld=>?_);refine tkY 0 ?_;refine tkY 1 ?_;refine tkH (i:=2) (v:=?zB2v) (y:=(Or.inl ⟨by rfl,?zB2y⟩)) (h:=?zB2r)
         case zB2y=>(intro w hSw;(try dsimp only at hSw);(obtain ⟨v0,v1,v2,v3,v4,v5,v6⟩:=ybE hSw.1);go_simp;try (with_reducible rfl))
         try simp only [pt]
         refine tkY 3 ?_;refine tkY 4 ?_;refine rd1 5 (fun K hK=>?_)
         (go_simp;go_at_call 42;(with_reducible refine (HWI.out _).mono ?_);rintro e w8 ⟨rfl,rfl⟩;go_wp2_with fail)
         refine hK.out _ _ yab (fun hHeldzB5=>?_);clear hK K hHeld
         try simp only [pt]
         refine tkY 6 ?_;refine tkY 7 ?_;refine tkH (i:=8) (v:=?zB8v) (y:=(Or.inl ⟨by rfl,?zB8y⟩)) (h:=?zB8r)
         case zB8y=>(intro w hSw;(try dsimp only at hSw);(obtain ⟨v0,v1,v2,v3,v4,v5,v6⟩:=ybE hSw.1);go_simp;try (with_reducible rfl))
         try simp only [pt]
         refine tkY 9 ?_;refine tkY 10 ?_;refine tkH (i:=11) (v:=?zB11v) (y:=(Or.inl ⟨by rfl,?zB11y⟩)) (h:=?zB11r)
         case zB11y=>(intro w hSw;(try dsimp only at hSw);(have hp:=hSw.2.2);go_simp;try (with_reducible rfl))
         try simp only [pt]
         refine tkY 12 ?_;refine tkH (i:=13) (v:=?zB13v) (y:=(Or.inl ⟨by rfl,?zB13y⟩)) (h:=?zB13r)
         case zB13y=>(intro w hSw;(try dsimp only at hSw);(obtain ⟨v0,v1,v2,v3,v4,v5,v6⟩:=ybE hSw.1);go_simp;try (with_reducible rfl))
         try simp only [pt]
         refine tkY 14 ?_;refine tkH (i:=15) (v:=_) (y:=(yieldsIf_load_mid (by rfl) tR (.tmp 68) rfl (w.heap.size+1) 2 (by rfl) (cR R).toList _ (fun _ h=>rangeA2 h.2.1) Tryz.underlying35 rfl (ycl R))) (h:=?_)
         try simp only [pt]
         refine rd1 16 (fun K hK=>?_)
         (go_simp;go_at_call 43;(with_reducible refine (HRV.out _ yap).mono ?_);rintro e w9 ⟨rfl,hb9⟩;(have HBy:Hid (Below (w.heap.size+2) W1 w9):=Below.trans (B:=w.heap.size+2) yap (Below.mono hb9 (HS.out▸HB7.out.size)));clear hb9;go_wp2_with fail)
         refine hK.out _ _ yab (fun hHeldzB16=>?_);clear hK K hHeldzB5
         try simp only [pt]
         refine tkY 17 ?_;refine tkY 18 ?_;refine wpAnyH_done yaV ?_ _
         go_wp2_with fail
         go_ret;exact ⟨by rw [HF.out];rfl,yar⟩
        ·
         rw [decide_eq_false hwi] at HF HWI;rw [Bool.false_and] at HF;have HBy:=HB7;clear a0 a1 a2 a3 a4 a5 a16 a17 a18 a19 v0 v1 v2 v3 v4 v5 v6;refine wp_region_held_drew (S:=(fun w'=>w'.heap[w.heap.size]? =some (.cells (cVw x) 29 (0,0))∧w'.heap[w.heap.size+1]? =some (.cells (cA d q R R.s R.ix no an) 39 (0,0)))) yaV yak (fun hHeld=>?_);refine tkY 0 ?_;refine tkY 1 ?_;refine tkH (i:=2) (v:=?zA2v) (y:=(Or.inl ⟨by rfl,?zA2y⟩)) (h:=?zA2r)
         case zA2y=>(intro w hSw;(try dsimp only at hSw);(obtain ⟨v0,v1,v2,v3,v4,v5,v6⟩:=ybE hSw.1);go_simp;try (with_reducible rfl))
         try simp only [pt]
         refine tkY 3 ?_;refine tkY 4 ?_;refine rd1 5 (fun K hK=>?_)
         (go_simp;go_at_call 42;(with_reducible refine (HWI.out _).mono ?_);rintro e w8 ⟨rfl,rfl⟩;go_wp2_with fail)
         refine hK.out _ _ yak (fun hHeldzA5=>?_);clear hK K hHeld
         try simp only [pt]
         refine tkY 6 ?_;refine tkN 7 ?_;refine tkN 8 ?_;refine tkN 9 ?_;refine tkN 10 ?_;refine tkN 11 ?_;refine tkN 12 ?_;refine tkN 13 ?_;refine tkN 14 ?_;refine tkN 15 ?_;refine tkN 16 ?_;refine tkY 17 ?_;refine tkY 18 ?_;refine wpAnyH_done yaV ?_ _
         go_wp2_with fail
         go_ret;exact ⟨by rw [HF.out];rfl,yar⟩
     ·rw [hfn] at HF
      have HF1:Hid (cnB pubs x.b x.h vs d q R R.s R.ix no an ps qs rs=false):=HF;clear HF;have HF:=HF1;clear HF1 hfn;go_wp2;go_ret;exact ⟨by rw [HF.out];rfl,HB.out.trans (HB7.out.mono (Nat.le_add_right _ 2))⟩
    ·rw [decide_eq_true h1,decide_eq_false h2,Bool.true_and,Bool.false_and] at HF
     subst h1;have h2I:(tx==R.ix)=false:=by simp [h2]
     go_enter Tryz.func12,Tryz.ntmps12
     go_upto_region 1 with fail
     rw [←HWE.out]
     go_wp2_with (first |(go_at_call 37;(with_reducible refine (HNU.out _).mono ?_);rintro e w5 ⟨rfl,rfl⟩) |(go_at_call 38;(with_reducible refine (HTK.out _).mono ?_);rintro e w6 ⟨rfl,hb6⟩;(have HBx:Hid (Below (w.heap.size+2) W1 w6):=Below.mono hb6 (Nat.le_of_eq HS.out.symm));clear hb6;clear a0 a1 a2 a3 a4 a5 a16 a17 a18 a19 v0 v1 v2 v3 v4 v5 v6;obtain ⟨a0,a1,a2,a3,a4,a5⟩:=ycm (HC.out w6 HBx.out).2;obtain ⟨a16,a17,a18,a19⟩:=ycF (HC.out w6 HBx.out).2;obtain ⟨v0,v1,v2,v3,v4,v5,v6⟩:=ybE (HC.out w6 HBx.out).1))
     go_ret;exact ⟨by rw [HF.out];rfl,HB.out.trans (HBx.out.mono (Nat.le_add_right _ 2))⟩
   ·rw [decide_eq_false h1,Bool.false_and] at HF
    (have h1t:¬st.toList=R.s.toList:=fun h=>h1 (by have:=beqD st R.s;rw [decide_eq_false h1] at this;simp [h] at this));(have h1I:(st.toList==R.s.toList)=false:=by rw [←beqD,decide_eq_false h1]);(have h1D:decide (st.toList=R.s.toList)=false:=by simp [h1t])
    go_enter Tryz.func12,Tryz.ntmps12
    go_upto_region 1 with fail
    rw [←HWE.out]
    go_wp2_with (first |(go_at_call 37;(with_reducible refine (HNU.out _).mono ?_);rintro e w5 ⟨rfl,rfl⟩) |(go_at_call 38;(with_reducible refine (HTK.out _).mono ?_);rintro e w6 ⟨rfl,hb6⟩;(have HBx:Hid (Below (w.heap.size+2) W1 w6):=Below.mono hb6 (Nat.le_of_eq HS.out.symm));clear hb6;clear a0 a1 a2 a3 a4 a5 a16 a17 a18 a19 v0 v1 v2 v3 v4 v5 v6;obtain ⟨a0,a1,a2,a3,a4,a5⟩:=ycm (HC.out w6 HBx.out).2;obtain ⟨a16,a17,a18,a19⟩:=ycF (HC.out w6 HBx.out).2;obtain ⟨v0,v1,v2,v3,v4,v5,v6⟩:=ybE (HC.out w6 HBx.out).1))
    go_ret;exact ⟨by rw [HF.out];rfl,HB.out.trans (HBx.out.mono (Nat.le_add_right _ 2))⟩
