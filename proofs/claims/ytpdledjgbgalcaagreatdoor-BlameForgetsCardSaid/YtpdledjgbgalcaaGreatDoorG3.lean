/- The law of forgetful devices, walked. -/
import Derived.Test.YtpdledjgbgalcaaGreatDoorPqb
import Derived.Test.YtpdledjgbgalcaaGreatDoorPa
namespace Go.Proofs.YtpdledjgbgalcaaGreatDoor
set_option maxRecDepth 100000
set_option maxHeartbeats 8000000
open Go.RowKit Go.Lib
set_option linter.unusedVariables false
set_option linter.unusedSimpArgs false
theorem vw_more {V:World} {x:Vw} {es:List EnR} {A:Option Addr} {k c:Nat} {vs:List VtR} {pubs drs:List ByteArray} {fks:List Int} (h:VwIn V V.heap.size x es vs pubs drs fks) {es':List EnR} (he:SlN fEn 6 V V.heap.size A k es') (hk:∀e∈es',EnOk V V.heap.size e) (hc:k≤c) (hl:k≤1000):VwIn V V.heap.size (x.setE A k c) es' vs pubs drs fks:=
 ⟨⟨he,hk⟩,h.V,h.P,h.D,h.F,by show k≤_;omega,hc,h.cs.2.2.1,h.cs.2.2.2.1,h.cs.2.2.2.2.1,h.cs.2.2.2.2.2⟩
theorem vw_with {w w':World} {x:Vw} {es:List EnR} {vs:List VtR} {pubs drs:List ByteArray} {fks:List Int} {A:Option Addr} {n c:Nat} {e:EnR} (hV:VwIn w w.heap.size x es vs pubs drs fks) (hb:Below w.heap.size w w') (ho:OwnN fEn 6 55 w' w.heap.size (.slice A n c) (es++[e])) (hbd:Sl fB w w.heap.size e.bd.a e.bd.n e.bs) (hby:Byt e.bs) (hbc:e.bd.n≤e.bd.c) (hd:int64 e.dv) (hq:int64 e.sq) (hl:es.length≤900):
 VwIn w' w'.heap.size (x.setE A n c) (es++[e]) vs pubs drs fks∧n=es.length+1:=by
 obtain ⟨A',c',hv,hc,hs,_⟩:=OwnN.shape yb6 ho;injection hv with e1 e2 e3;subst e1 e3;have hn:n=es.length+1:=by rw [e2];simp
 have h1:=(hV.up hb nl).more hb.size;refine ⟨vw_more h1 (by rw [e2];exact hs) (fun a ha=>?_) (by rw [e2];exact hc) om,hn⟩;rcases List.mem_append.1 ha with ha |ha
 ·exact h1.E.2 a ha
 ·obtain rfl:a=e:=by simpa using ha
  exact ⟨(hbd.up hb nl).more' hb.size,hby,hbc,trivial,hd,hq⟩
theorem vw_with2 {w w':World} {x:Vw} {es:List EnR} {vs:List VtR} {pubs drs:List ByteArray} {fks:List Int} {A:Option Addr} {n c:Nat} {e:EnR} (hV:VwIn w w.heap.size x es vs pubs drs fks) (hb:Below w.heap.size w w') (ho:OwnN fEn 6 55 w' w.heap.size (.slice A n c) (es++[e])) (hbd:Sl fB w' w'.heap.size e.bd.a e.bd.n e.bs) (hby:Byt e.bs) (hbc:e.bd.n≤e.bd.c) (hd:int64 e.dv) (hq:int64 e.sq) (hl:es.length≤900):
 VwIn w' w'.heap.size (x.setE A n c) (es++[e]) vs pubs drs fks∧n=es.length+1:=by
 obtain ⟨A',c',hv,hc,hs,_⟩:=OwnN.shape yb6 ho;injection hv with e1 e2 e3;subst e1 e3;have hn:n=es.length+1:=by rw [e2];simp
 have h1:=(hV.up hb nl).more hb.size;refine ⟨vw_more h1 (by rw [e2];exact hs) (fun a ha=>?_) (by rw [e2];exact hc) om,hn⟩;rcases List.mem_append.1 ha with ha |ha
 ·exact h1.E.2 a ha
 ·obtain rfl:a=e:=by simpa using ha
  exact ⟨hbd,hby,hbc,trivial,hd,hq⟩
theorem ybF (y:Vw):(Tryz.prog.info? 29).map (·.size)=some (cVw y).toList.length:=by kernel_rfl
theorem ybU {w:World} {b:Nat} {t:TypeId} {y:Vw} (h:w.heap[b]? =some (.cells (cVw y) t (0,0))):w.rangeAt b 0 (cVw y).toList:=fun j v hv=>by
 rw [Nat.zero_add,cell_of_row w b j _ _ _ h];rw [←Array.getElem?_toList];exact hv
theorem encM_byt (q:Nat) (xs:List Int) (hq:q≤11):Byt ((q:Int)::encV xs):=Byt.app (xs:=[(q:Int)]) (fun x hx=>by rw [List.mem_singleton.1 hx];omega) (encV_byt xs)
theorem with_aq (x:Vw) (es:List EnR) (dv sq:Int) (st:ByteArray) (xs:List Int) (bd:Hd) (w:World) (hE:SlN fEn 6 w w.heap.size x.E.a x.E.n es) (hl:es.length≤1000):
 Calls Tryz.prog 33 #[.agg (cVw x),.int .i64 dv,.int .i64 sq,.int .i64 7,.slice bd.a bd.n bd.c] w fun e w'=>∃A n c,e= .returned (.agg (cVw (x.setE A n c)))∧OwnN fEn 6 55 w' w.heap.size (.slice A n c) (es++[enC dv sq st xs bd])∧Below w.heap.size w w':=by
 unfold enC;exact with_any x es dv sq 7 bd (encA 1 3 st 0 xs [st]) w.heap.size w hE nl hl
theorem with_aq2 (x:Vw) (A1:Option Addr) (n1 k1:Nat) (es:List EnR) (dv sq:Int) (st:ByteArray) (xs:List Int) (Ac:Option Addr) (nc cc:Nat) (w:World) (hE:SlN fEn 6 w w.heap.size A1 n1 es) (hl:es.length≤1000):
 Calls Tryz.prog 33 #[.agg (cVw (x.setE A1 n1 k1)),.int .i64 dv,.int .i64 sq,.int .i64 7,.slice Ac nc cc] w fun e w'=>∃A n c,e= .returned (.agg (cVw (x.setE A n c)))∧OwnN fEn 6 55 w' w.heap.size (.slice A n c) (es++[enC dv sq st xs ⟨Ac,nc,cc⟩])∧Below w.heap.size w w':=
 with_aq (x.setE A1 n1 k1) es dv sq st xs ⟨Ac,nc,cc⟩ w hE hl
theorem step_litI {w:World} {ops:Array Oper} {o:Oper} {a:Act} {K:Act→World→Prop} {Q:Exit→Act→World→Prop} {E:Prop} (hgd:o.guard=none) (t e:TypeId) {y:Operand} (ho:o.op= .buildSlice t 1 #[(0,y)]) (i:TypeInfo) (z:Value) (ht:Tryz.prog.underlying t=some (.slice e)) (hi:Tryz.prog.info? e=some i) (hz:i.zero=some z) (hs:i.size=1) (hzs:z.cells.size=1) (k:Int) (hy:a.eval y= .int .i64 k)
 (h:∀g w',Hid (Sl I w' w'.heap.size (some ⟨g,0,none⟩) 1 [k])→Hid (Below w.heap.size w w')→K (a.put o.dst (.slice (some ⟨g,0,none⟩) 1 1)) w'):if Region.wanted o (yielded ops a.tmps)=true then Oper.wp Tryz.prog o a w K Q else E:=by
 have hw:Region.wanted o (yielded ops a.tmps)=true:=by simp [Region.wanted,hgd]
 rw [if_pos hw];have hrun:=yb1 ht hi hz hs hzs om om (.int .i64 k) rfl w;unfold Oper.wp;simp [execOp,ho,hy,hrun,Result.andThen];have hg:(w.alloc (.cells #[.int .i64 k] e)).heap[w.heap.size]? =some (.cells #[.int .i64 k] e (0,0)):=heap_alloc_new w _;exact h _ _ ⟨rfl,SL.of_block (t:=e) (fr:=(0,0)) (xs:=([k]:List Int)) hg (lt_of_block hg)⟩ bl
theorem Tryz.infoVwF:(Tryz.prog.info? 29).map (fun i=>(i.zero,i.size,i.bytes))=some (some (.agg zVw),7,136):=by kernel_rfl
def aqP55:Array (Nat × Operand):=#[(0,.const (.int .i64 1)),(1,.const (.int .i64 3))]
abbrev aqC55:Array Value:=#[.int .i64 1,.int .i64 3,.int .i64 0,.int .i64 0,.string ⟨#[]⟩,.int .i64 0,.int .i64 0,.int .i64 0,.int .i64 0,.int .i64 0,.int .i64 0,.string ⟨#[]⟩,.slice none 0 0,.int .i64 0,.slice none 0 0,.slice none 0 0,.string ⟨#[]⟩,.int .i64 0,.string ⟨#[]⟩,.string ⟨#[]⟩]
theorem aqB55 (a:Act):Tryz.prog.built 39 (aqP55.map fun (i,x)=>(i,a.eval x)).toList=some aqC55:=by kernel_rfl
theorem bsA_pos (st:ByteArray) (n sr:Nat):0 < (bsA st n sr).length:=by
 unfold bsA encAc;simp only [List.length_append]
 have:=encPosF (encRc (rcS st n sr (lfF st n sr) nH nH nH) [] (ptF st n sr) []).length
 omega
theorem lawForgets_any (A:Option Addr) (n c sr more B:Nat) (xs:List Int) (peer:Int) (w:World) (hG:Glob w) (hx:Sl fB w B A n xs) (hxb:Byt xs) (hc:n≤c) (hsr:sr≤255) (hmo:more≤255) (hB:B≤w.heap.size):
 Calls Tryz.prog 7 #[.slice A n c,.int .u8 sr,.int .i64 peer,.int .u8 more] w fun e w'=>e= .returned (.bool true)∧Below w.heap.size w w':=by
 have HAW:Hid (∀V,Below w.heap.size w V→Calls Tryz.prog 11 #[] V fun e w'=>e= .returned (.bool true)∧Below V.heap.size V w'):=fun V hv=>awake_any V (hG.on hv)
 have HB0:Hid (Below w.heap.size w w):=Below.refl _ _
 by_cases hn:1≤n∧n≤200∧0≤peer∧peer≤11
 ·
  obtain ⟨hn1,hn2,hp1,hp2⟩:=hn;have g1:¬(n:Int) < 1:=by omega
  have g2:¬(200:Int) < (n:Int):=by omega
  have g3:¬peer < 0:=by omega
  have g4:¬(12:Int)≤peer:=by omega
  have hxl:xs.length=n:=hx.1;obtain ⟨pr,hpr⟩:∃p:Nat,peer=(p:Int):=⟨peer.toNat,by omega⟩
  have hst:(leafS xs).size=32:=ybI _;have HX:Hid (∀V,Below w.heap.size w V→Sl fB V B A n xs∧B≤V.heap.size∧Glob V):=fun V hv=>⟨hx.up hv hB,Nat.le_trans hB hv.size,hG.on hv⟩
  have HPI:=lh (piece_any A n c B xs w hc hx hB om om hxb);have HAC:Hid (∀(A':Option Addr) (V:World),Calls Tryz.prog 30 #[.agg #[.string (leafS xs),.int .i64 0,.slice A n c,.slice A' 1 1],.int .i64 sr] V (AcdP (leafS xs) n sr V)):=fun A' V=>accused_any2 (leafS xs) hst A A' n c 1 sr hn1 om hsr V
  have hwsr:IntKind.i64.wrap (sr:Int)=sr:=IntWalk.i64_in _ om;have hwmo:IntKind.i64.wrap (more:Int)=more:=IntWalk.i64_in _ om;have hwm3:IntKind.i64.wrap (3+(more:Int))=3+(more:Int):=IntWalk.i64_in _ om;have HXB:=lh hxb;have HXL:=lh hxl;have HST:=lh hst;have HNC:=lh hc;have HMO:=lh hmo;have HPR:=lh hpr;have HN1:=lh hn1;have HN2:=lh hn2;have HSR:=lh hsr;have HP12:Hid (pr≤11):=by show _≤_;omega
  clear hG hx hxb hc hB hst hxl hpr;go_enter Tryz.func7,Tryz.ntmps7
  go_upto_region 4 with (go_at_call 29;(with_reducible refine HPI.out.mono ?_);rintro e w3 ⟨A',rfl,hs3,hb3⟩;(have HS3:=lh hs3);(have HB3:=lh hb3);clear hs3 hb3)
  obtain ⟨W4,hW4⟩:∃W:World,W=w3.alloc (.cells #[.string (leafS xs),.int .i64 0,.slice A n c,.slice A' 1 1] 42):=⟨_,rfl⟩
  have hg9:W4.heap[w3.heap.size]? =some (.cells #[.string (leafS xs),.int .i64 0,.slice A n c,.slice A' 1 1] 42 (0,0)):=by rw [hW4];exact heap_alloc_new w3 _
  have HB34:Hid (Below w3.heap.size w3 W4):=by show Below ..;rw [hW4];exact bl
  have HC9:Hid (∀V,Below W4.heap.size W4 V→V.cell? ⟨w3.heap.size,0,none⟩=some (.string (leafS xs))∧V.cell? ⟨w3.heap.size,1,none⟩=some (.int .i64 0)∧V.cell? ⟨w3.heap.size,2,none⟩=some (.slice A n c)∧V.cell? ⟨w3.heap.size,3,none⟩=some (.slice A' 1 1)):=fun V hv=>by
   have q:=(hv.block _ (lt_of_block hg9)).trans hg9;refine ⟨?_,?_,?_,?_⟩<;>(rw [cell_of_row V _ _ _ _ _ q];rfl)
  have HB4:Hid (Below w.heap.size w W4):=HB3.out.trans (HB34.out.mono HB3.out.size);rw [←hW4];clear hW4 hg9;obtain ⟨st,hstE⟩:∃s,leafS xs=s:=⟨_,rfl⟩
  rw [hstE] at HC9 HAC HST HS3 ⊢;have HSTE:=lh hstE;clear hstE;obtain ⟨c0,c1,c2,c3⟩:=HC9.out W4 br
  go_upto_region 5 with (go_at_call 30;(with_reducible refine (HAC.out A' _).mono ?_);rintro e w5 ⟨x,bd,wr,rfl,hv5,hxb5,hbn,hb5⟩;(have HV5:=lh hv5);(have HXB5:=lh hxb5);(have HBN:=lh hbn);(have HB45:=lh hb5);clear hv5 hxb5 hbn hb5)
  clear c0 c1 c2 c3;obtain ⟨W6,hW6⟩:∃W:World,W=w5.alloc (.cells (cVw x) 29):=⟨_,rfl⟩
  have hg10:W6.heap[w5.heap.size]? =some (.cells (cVw x) 29 (0,0)):=by rw [hW6];exact heap_alloc_new w5 _
  have HB56:Hid (Below w5.heap.size w5 W6):=by show Below ..;rw [hW6];exact bl
  have HG10:Hid (∀V,Below W6.heap.size W6 V→V.heap[w5.heap.size]? =some (.cells (cVw x) 29 (0,0))):=fun V hv=>(hv.block _ (lt_of_block hg10)).trans hg10
  have HB46:Hid (Below W4.heap.size W4 W6):=HB45.out.trans (HB56.out.mono HB45.out.size);have HB6:Hid (Below w.heap.size w W6):=HB4.out.trans (HB46.out.mono HB4.out.size)
  have HV:Hid (∀V,Below W6.heap.size W6 V→VwIn V V.heap.size x [enA st n sr bd] [vtA wr] (pksF sr) [] []):=fun V hv=>by
   have h1:=HB56.out.trans (hv.mono HB56.out.size);exact (HV5.out.up h1 nl).more h1.size
  rw [←hW6];clear hW6 hg10;obtain ⟨W7,hW7⟩:∃W:World,W=W6.alloc (.cells #[.int .i64 0,.int .i64 (3+(more:Int))] 3):=⟨_,rfl⟩
  have hg7:W7.heap[W6.heap.size]? =some (.cells #[.int .i64 0,.int .i64 (3+(more:Int))] 3 (0,0)):=by rw [hW7];exact heap_alloc_new W6 _
  have HB67:Hid (Below W6.heap.size W6 W7):=by show Below ..;rw [hW7];exact bl
  have HEM:Hid (Calls Tryz.prog 31 #[.int .i64 peer,.slice (some ⟨W6.heap.size,0,none⟩) 2 2] W7 (Slc2 fB ((pr:Int)::encV [0,3+(more:Int)]) 0 W7)):=by
   have h1:=emeet_any peer (some ⟨W6.heap.size,0,none⟩) 2 [0,3+(more:Int)] 2 W7 W7.heap.size ⟨rfl,SL.of_block (t:=3) (fr:=(0,0)) (xs:=([0,3+(more:Int)]:List Int)) hg7 (lt_of_block hg7)⟩ nl om;refine h1.mono ?_;rintro e w' (⟨_,h⟩ |⟨h,_⟩)
   ·rw [HPR.out] at h
    exact h
   ·exfalso
    rw [(cv_met more HMO.out).2,HPR.out] at h;have h2:=HP12.out;simp [inB] at h;omega
  have HW7:=lh hW7
  have HEQ:Hid (∀V,Below W4.heap.size W4 V→Calls Tryz.prog 32 #[accZ 1 3,.agg #[.string st,.int .i64 0,.slice A n c,.slice A' 1 1]] V fun e w'=>∃Ac nc cc,e= .returned (.tuple #[.slice Ac nc cc,.int .i64 0])∧nc≤cc∧Sl fB w' w'.heap.size Ac nc (encA 1 3 st 0 xs [st])∧Below V.heap.size V w'):=fun V hv=>by
   have hwv:=HB4.out.trans (hv.mono HB4.out.size);have h3:=HB34.out.trans (hv.mono HB34.out.size);have hp:PcIn V V.heap.size ⟨st,0,⟨A,n,c⟩,⟨A',1,1⟩⟩ xs [st]:=⟨(HX.out V hwv).1.more' (HX.out V hwv).2.1,(HS3.out.up h3 nl).more' h3.size,HNC.out,Nat.le_refl _⟩;refine (eacq_any 1 3 ⟨st,0,⟨A,n,c⟩,⟨A',1,1⟩⟩ xs [st] V.heap.size V hp nl).mono ?_;rintro e w' (⟨_,h⟩ |⟨h,_⟩)
   ·exact h
   ·exfalso
    have h1:=HN1.out;have h2:=HN2.out;have h4:=HST.out;simp [numB,shB,sumsB,h4] at h;omega
  clear hg7 hW7
  go_upto_region 6 with (go_at_call 31;rw [←HW7.out];(with_reducible refine HEM.out.mono ?_);rintro e w8 ⟨Am,nm,cm,rfl,hcm,hsm,hb8⟩;(have HCM:=lh hcm);(have HSM:=lh hsm);(have HB68:Hid (Below W6.heap.size W6 w8):=HB67.out.trans (hb8.mono HB67.out.size));clear hcm hsm hb8)
  have HB48:Hid (Below W4.heap.size W4 w8):=HB46.out.trans (HB68.out.mono HB46.out.size);obtain ⟨c0,c1,c2,c3⟩:=HC9.out w8 HB48.out
  go_upto_region 9 with (first
   |(with_reducible refine ya6 (o:=⟨some 55,_,_,_,_,_⟩) rfl 39 aqP55 yaV aqC55 (aqB55 _) ?_)
   |(go_at_call 32;(with_reducible refine (HEQ.out _ HB48.out).mono ?_);rintro e w9 ⟨Ac,nc,cc,rfl,hcc,hsc,hb9⟩;(have HCC:=lh hcc);(have HSC:=lh hsc);(have HB89:=lh hb9);clear hcc hsc hb9))
  clear c0 c1 c2 c3;have HB69:Hid (Below W6.heap.size W6 w9):=HB68.out.trans (HB89.out.mono HB68.out.size)
  have HSM9:Hid (∀V,Below w9.heap.size w9 V→Sl fB V V.heap.size Am nm ((pr:Int)::encV [0,3+(more:Int)])):=fun V hv=>by
   have h1:=HB89.out.trans (hv.mono HB89.out.size);exact (HSM.out.up h1 nl).more' h1.size
  have HSC9:Hid (∀V,Below w9.heap.size w9 V→Sl fB V V.heap.size Ac nc (encA 1 3 st 0 xs [st])):=fun V hv=>(HSC.out.up hv nl).more' hv.size
  have HV9:Hid (∀V,Below w9.heap.size w9 V→VwIn V V.heap.size x [enA st n sr bd] [vtA wr] (pksF sr) [] []):=fun V hv=>HV.out V (HB69.out.trans (hv.mono HB69.out.size))
  have HG109:=lh (HG10.out w9 HB69.out);have hxn:=HXB5.out;have HW1:=lh (with_any x [enA st n sr bd] 2 1 9 ⟨Am,nm,cm⟩ ((pr:Int)::encV [0,3+(more:Int)]) w9.heap.size w9 (HV9.out w9 br).E.1 nl sI);clear hxn HEM HEQ HSM HSC HS3
  go_upto_region 10 with (first
   |(with_reducible refine wpList_load_row (o:=⟨some 66,_,_,_,_,_⟩) rfl 29 (.tmp 10) rfl w5.heap.size rfl 29 (cVw x) _ _ HG109.out Tryz.underlying29 rfl (ycz _) ?_)
   |(go_at_call 33;(with_reducible refine HW1.out.mono ?_);rintro e w10 ⟨A1,n1,k1,rfl,ho1,hb10⟩;(have HO1:=lh ho1);(have HB910:=lh hb10);clear ho1 hb10))
  obtain ⟨W11,hW11⟩:∃W:World,W=w10.alloc (.cells (cVw (x.setE A1 n1 k1)) 29):=⟨_,rfl⟩
  have hg15:W11.heap[w10.heap.size]? =some (.cells (cVw (x.setE A1 n1 k1)) 29 (0,0)):=by rw [hW11];exact heap_alloc_new w10 _
  have HB1011:Hid (Below w10.heap.size w10 W11):=by show Below ..;rw [hW11];exact bl
  have HB911:Hid (Below w9.heap.size w9 W11):=HB910.out.trans (HB1011.out.mono HB910.out.size);have HG15:Hid (∀V,Below W11.heap.size W11 V→V.heap[w10.heap.size]? =some (.cells (cVw (x.setE A1 n1 k1)) 29 (0,0))):=fun V hv=>(hv.block _ (lt_of_block hg15)).trans hg15
  rw [←hW11];clear hW11 hg15;have hnm:=(HSM9.out w9 br).1;have hvm:=cv_met more HMO.out;obtain ⟨eM,heM⟩:∃e,enM pr [0,3+(more:Int)] ⟨Am,nm,cm⟩=e:=⟨_,rfl⟩
  have hvw:=vw_with (e:=enM pr [0,3+(more:Int)] ⟨Am,nm,cm⟩) (HV9.out w9 br) HB910.out HO1.out (HSM9.out w9 br) (encM_byt pr _ HP12.out) HCM.out (by unfold int64 enM;simp) (by unfold int64 enM;simp) sI;have hn1:n1=2:=hvw.2
  have HV1:Hid (∀V,Below W11.heap.size W11 V→VwIn V V.heap.size (x.setE A1 n1 k1) [enA st n sr bd,eM] [vtA wr] (pksF sr) [] []):=fun V hv=>by
   have h1:=HB1011.out.trans (hv.mono HB1011.out.size);rw [←heM];exact (hvw.1.up h1 nl).more h1.size
  have hxb:=HXB5.out;have hu1:UnE [enA st n sr bd,eM]:=by rw [←heM];unfold UnE;simp [enA,enM]
  have hk1:∀e∈[eM],e.k≠6:=fun e he=>by rw [List.mem_singleton.1 he,←heM];show ¬((9:Int)=6);decide
  have hs1:=sees (x:=x.setE A1 n1 k1) (wr:=wr) (drs:=[]) (t:=true) HST.out HN1.out (by have:=HN2.out;omega) HSR.out hu1 hk1 (fun hf=>op_open hxb.1 HST.out HN1.out (by have:=HN2.out;omega) HSR.out hf rfl (by rw [←heM];simp [pcE_M]))
  have hmt:mtsE mtX (frE [enA st n sr bd,eM]) 2=[(eM,nrm [0,3+(more:Int)])]:=by
   rw [hs1.1,←heM];exact mts_one (l:=[enA st n sr bd]) (r:=[]) hvm.2 HP12.out (fun e he=>by rw [List.mem_singleton.1 he];show ¬((6:Int)=9);decide) (fun e he=>by cases he)
  have hak:akF (mtsE mtX (frE [enA st n sr bd,eM]) 2) 1 3=some eM:=by rw [hmt];exact ak_of true hvm.1
  have hok1:VwOk (x.setE A1 n1 k1) [enA st n sr bd,eM]:=by
   refine ⟨by show n1≤1000;omega,by show x.V.n≤1000∧x.P.n≤1000∧x.D.n≤1000;omega,fun e he=>?_⟩;simp at he;rcases he with rfl |rfl
   ·exact HBN.out
   ·rw [←heM];show nm≤1000000;rw [←hnm];have:=yc0 [0,3+(more:Int)] hvm.2;simp;omega
  have HPF:Hid (Calls Tryz.prog 26 #[.agg (cVw (x.setE A1 n1 k1)),.int .i64 2] W11 (PfP (enA st n sr bd) eM W11)):=by
   have hXw:=HX.out W11 (HB6.out.trans ((HB69.out.mono HB6.out.size).trans (HB911.out.mono (Nat.le_trans HB6.out.size HB69.out.size))));have hbp:0 < bd.n:=by have h1:=(HV5.out.E.2 _ (List.mem_singleton.2 rfl)).1.1;have h2:=bsA_pos st n sr;show 0 < bd.n;have h3:(bsA st n sr).length=bd.n:=h1;omega
   have hmp:0 < eM.bd.n:=by rw [←heM];show 0 < nm;rw [←hnm];simp
   exact proof_any (x.setE A1 n1 k1) [enA st n sr bd,eM] [vtA wr] (pksF sr) [] [] W11.heap.size W11 hXw.2.2 (HV1.out W11 br) nl hok1 (by show n1≤400;omega) 2 (acA st n sr) (enA st n sr bd) eM hs1.2.1 rfl hak sI sI hbp hmp
  have HN12:=lh hn1;have HEM:=lh heM;have HOK1:=lh hok1;have HSE1:=lh hs1;have HAK1:=lh hak;have HNM:=lh hnm;have HG15W:=lh (HG15.out W11 br);clear hn1 heM hok1 hs1 hak hmt hk1 hu1 hxb hvw hnm hvm HW1
  go_upto_region 11 with (first
   |(with_reducible refine wpList_load_row (o:=⟨some 70,_,_,_,_,_⟩) rfl 29 (.tmp 15) rfl w10.heap.size rfl 29 (cVw (x.setE A1 n1 k1)) _ _ HG15W.out Tryz.underlying29 rfl (ycz _) ?_)
   |(go_at_call 26;(with_reducible refine HPF.out.mono ?_);rintro e w12 ⟨gp,B1,m1,B2,m2,rfl,hrp,hgp,hsp,hb12⟩;(have HRP:=lh hrp);(have HGP:=lh hgp);(have HSP:=lh hsp);(have HB1112:=lh hb12);clear hrp hgp hsp hb12))
  clear HPF HG15W HB0;have HB1:Hid (Below w.heap.size w W11):=HB6.out.trans ((HB69.out.mono HB6.out.size).trans (HB911.out.mono (Nat.le_trans HB6.out.size HB69.out.size)));have HB12:Hid (Below w.heap.size w w12):=HB1.out.trans (HB1112.out.mono HB1.out.size);have HK15:Hid (∀V,Below w12.heap.size w12 V→V.heap[w10.heap.size]? =some (.cells (cVw (x.setE A1 n1 k1)) 29 (0,0))):=fun V hv=>HG15.out V (HB1112.out.trans (hv.mono HB1112.out.size))
  have HV12:Hid (∀V,Below w12.heap.size w12 V→VwIn V V.heap.size (x.setE A1 n1 k1) [enA st n sr bd,eM] [vtA wr] (pksF sr) [] []):=fun V hv=>HV1.out V (HB1112.out.trans (hv.mono HB1112.out.size))
  have HSC12:Hid (∀V,Below w12.heap.size w12 V→Sl fB V V.heap.size Ac nc (encA 1 3 st 0 xs [st])):=fun V hv=>HSC9.out V (HB911.out.trans ((HB1112.out.trans (hv.mono HB1112.out.size)).mono HB911.out.size))
  have HW2:Hid (∀(dv sq:Int) (V:World),Below w12.heap.size w12 V→Calls Tryz.prog 33 #[.agg (cVw (x.setE A1 n1 k1)),.int .i64 dv,.int .i64 sq,.int .i64 7,.slice Ac nc cc] V fun e w'=>∃A9 n9 c9,e= .returned (.agg (cVw (x.setE A9 n9 c9)))∧OwnN fEn 6 55 w' V.heap.size (.slice A9 n9 c9) ([enA st n sr bd,eM]++[enC dv sq st xs ⟨Ac,nc,cc⟩])∧Below V.heap.size V w'):=fun dv sq V hv=>
   with_aq2 x A1 n1 k1 _ dv sq st xs Ac nc cc V (HV12.out V hv).E.1 (Nat.le_of_ble_eq_true rfl)
  have HW22:=lh (fun V hv=>HW2.out 2 2 V hv);obtain ⟨z0,hz0,hz1,hz2,hz3⟩:=info_parts Tryz.infoVwF;have HZ0:=lh hz0;have HZ1:=lh hz1;have HD12:Hid (Below w12.heap.size w12 w12.drew):=br.drew;clear hz0 hz1 hz2 hz3
  go_cut [18,19] from 74 (fun p q wx=>∃g18 g19 A2 n2 k2,p= .pointer (some ⟨g18,0,none⟩)∧q= .pointer (some ⟨g19,0,none⟩)∧Hid (Below w12.heap.size w12 wx)∧Hid (wx.heap[g18]? =some (.cells (cVw (x.setE A2 n2 k2)) 29 (0,0)))∧Hid (wx.heap[g19]? =some (.cells (cVw (x.setE A1 n1 k1)) 29 (0,0)))∧Hid (OwnN fEn 6 55 wx w12.heap.size (.slice A2 n2 k2) ([enA st n sr bd,eM]++[enC 2 2 st xs ⟨Ac,nc,cc⟩]))∧Hid (g18≠g19∧w12.heap.size≤g18∧w12.heap.size≤g19∧∀k,(Value.slice A2 n2 k2).ownBlock=some k→k≠g19))
  case first=>
   refine wp_region_held_drew (S:=(fun w'=>w'.heap[w10.heap.size]? =some (.cells (cVw (x.setE A1 n1 k1)) 29 (0,0)))) yaV (by exact HK15.out _ HD12.out) (fun hHeld=>?_);refine tkH (i:=0) (v:=_) (y:=(yieldsIf_load_mid (by rfl) 29 (.tmp 15) rfl w10.heap.size 0 (by rfl) (cVw (x.setE A1 n1 k1)).toList _ (fun _ h=>ybU h) Tryz.underlying29 rfl (ybF (x.setE A1 n1 k1)))) (h:=?_)
   try simp only [pt]
   refine tkY 1 ?_;refine tkH (i:=3) (v:=_) (y:=(yieldsIf_load_mid (by rfl) 29 (.tmp 15) rfl w10.heap.size 0 (by rfl) (cVw (x.setE A1 n1 k1)).toList _ (fun _ h=>ybU h) Tryz.underlying29 rfl (ybF (x.setE A1 n1 k1)))) (h:=?_)
   try simp only [pt]
   iterate 3
    all_goals
     (first |refine rb3 2 4 5 (fun K hK=>?_) (fun K hK=>?_) (fun K hK=>?_) |refine rb2 4 5 (fun K hK=>?_) (fun K hK=>?_) |refine rb2 2 5 (fun K hK=>?_) (fun K hK=>?_) |refine rb2 2 4 (fun K hK=>?_) (fun K hK=>?_) |refine rb1 2 (fun K hK=>?_) |refine rb1 4 (fun K hK=>?_) |refine rb1 5 (fun K hK=>?_))<;>(first
     |((refine ybW (o:=⟨some 18,_,_,_,_,_⟩) rfl 29 rfl z0 _ HZ0.out HZ1.out ?_);intro g18 w14 HG18 HB14n HQ14;(have HB14:Hid (Below w12.heap.size w12 w14):=by first |exact HB13.out.trans (HB14n.out.mono HB13.out.size) |exact HB15.out.trans (HB14n.out.mono HB15.out.size) |exact (Below.refl _ w12).drew.trans (HB14n.out));(have HS18:Hid (w12.heap.size≤g18):=by (have h:=HQ14.out.1);first |exact Nat.le_of_eq h.symm |exact Nat.le_trans HB13.out.size (Nat.le_of_eq h.symm) |exact Nat.le_trans HB15.out.size (Nat.le_of_eq h.symm));(try (have HNE18:Hid (∀k,(Value.slice A2 n2 k2).ownBlock=some k→k≠g18):=fun k hk e=>by have h1:=(World.ownsRow.lt HO2.out _ hk).2;have h2:=HQ14.out.1;omega));(try (have HNN:Hid (g18≠g19):=by have h1:=lt_of_block HG19.out;have h2:=HQ14.out.1;show _≠_;omega));(try (have HO2:=lh (OwnN.on HO2.out HB14n.out)));(try (have HG19:=lh ((HB14n.out.block _ (lt_of_block HG19.out)).trans HG19.out))))
     |((refine ybW (o:=⟨some 19,_,_,_,_,_⟩) rfl 29 rfl z0 _ HZ0.out HZ1.out ?_);intro g19 w15 HG19 HB15n HQ15;(have HB15:Hid (Below w12.heap.size w12 w15):=by first |exact HB13.out.trans (HB15n.out.mono HB13.out.size) |exact HB14.out.trans (HB15n.out.mono HB14.out.size) |exact (Below.refl _ w12).drew.trans (HB15n.out));(have HS19:Hid (w12.heap.size≤g19):=by (have h:=HQ15.out.1);first |exact Nat.le_of_eq h.symm |exact Nat.le_trans HB13.out.size (Nat.le_of_eq h.symm) |exact Nat.le_trans HB14.out.size (Nat.le_of_eq h.symm));(try (have HNE19:Hid (∀k,(Value.slice A2 n2 k2).ownBlock=some k→k≠g19):=fun k hk e=>by have h1:=(World.ownsRow.lt HO2.out _ hk).2;have h2:=HQ15.out.1;omega));(try (have HNN:Hid (g18≠g19):=by have h1:=lt_of_block HG18.out;have h2:=HQ15.out.1;show _≠_;omega));(try (have HO2:=lh (OwnN.on HO2.out HB15n.out)));(try (have HG18:=lh ((HB15n.out.block _ (lt_of_block HG18.out)).trans HG18.out))))
     |(go_simp;go_at_call 33;(with_reducible refine (HW22.out _ (by first |exact HB15.out |exact HB14.out |exact HD12.out)).mono ?_);rintro e w13 ⟨A2,n2,k2,rfl,ho2,hb13⟩;(have HB13:Hid (Below w12.heap.size w12 w13):=by first |exact HB15.out.trans (hb13.mono HB15.out.size) |exact HB14.out.trans (hb13.mono HB14.out.size) |exact (Below.refl _ w12).drew.trans (hb13));(try (have HNE18:Hid (∀k,(Value.slice A2 n2 k2).ownBlock=some k→k≠g18):=fun k hk e=>by have h1:=(World.ownsRow.lt ho2 _ hk).1;have h2:=lt_of_block HG18.out;omega));(try (have HNE19:Hid (∀k,(Value.slice A2 n2 k2).ownBlock=some k→k≠g19):=fun k hk e=>by have h1:=(World.ownsRow.lt ho2 _ hk).1;have h2:=lt_of_block HG19.out;omega));(have HO2:Hid (OwnN fEn 6 55 w13 w12.heap.size (.slice A2 n2 k2) ([enA st n sr bd,eM]++[enC 2 2 st xs ⟨Ac,nc,cc⟩])):=World.ownsRow.mono ho2 (by first |exact HB15.out.size |exact HB14.out.size |exact Nat.le_refl _));(try (have HG18:=lh ((hb13.block _ (lt_of_block HG18.out)).trans HG18.out)));(try (have HG19:=lh ((hb13.block _ (lt_of_block HG19.out)).trans HG19.out)));clear ho2 hb13;go_wp2_with fail)
     )<;>(refine hK.out _ _ (by first |exact HK15.out _ HB13.out |exact HK15.out _ HB14.out |exact HK15.out _ HB15.out) (fun hHeldZ=>?_))<;>(clear hK K)<;>(try simp only [pt])
   all_goals
    refine rd1 6 (fun K hK=>?_)
    ((refine ybd (g:=g18) rfl 29 (.tmp 18) (.tmp 76) rfl 29 zVw (cVw (x.setE A2 n2 k2)) rfl rfl HG18.out (ycz _) rfl (cVw_all _) ?_);intro w16 HG18 HB16n;(have HB16:Hid (Below w12.heap.size w12 w16):=by first |exact HB13.out.trans (HB16n.out.below HB13.out.size (fun i hi=>by subst hi;exact HS18.out)) |exact HB14.out.trans (HB16n.out.below HB14.out.size (fun i hi=>by subst hi;exact HS18.out)) |exact HB15.out.trans (HB16n.out.below HB15.out.size (fun i hi=>by subst hi;exact HS18.out)));(have HO2:Hid (OwnN fEn 6 55 w16 w12.heap.size (.slice A2 n2 k2) ([enA st n sr bd,eM]++[enC 2 2 st xs ⟨Ac,nc,cc⟩])):=World.ownsRow.kept HO2.out HB16n.out.grownBy (.inr (fun e=>HNE18.out _ e rfl)));(have HG19:=lh ((HB16n.out.block _ (lt_of_block HG19.out) (by have:=HNN.out;omega)).trans HG19.out)))
    refine hK.out _ _ (by exact HK15.out _ HB16.out) (fun hHeldp4=>?_);clear hK K hHeldZ
    try simp only [pt]
    refine rd1 7 (fun K hK=>?_)
    ((refine ybd (g:=g19) rfl 29 (.tmp 19) (.tmp 77) rfl 29 zVw (cVw (x.setE A1 n1 k1)) rfl rfl HG19.out (ycz _) rfl (cVw_all _) ?_);intro w17 HG19 HB17n;(have HB17:Hid (Below w12.heap.size w12 w17):=by first |exact HB16.out.trans (HB17n.out.below HB16.out.size (fun i hi=>by subst hi;exact HS19.out)));(have HO2:Hid (OwnN fEn 6 55 w17 w12.heap.size (.slice A2 n2 k2) ([enA st n sr bd,eM]++[enC 2 2 st xs ⟨Ac,nc,cc⟩])):=World.ownsRow.kept HO2.out HB17n.out.grownBy (.inr (fun e=>HNE19.out _ e rfl)));(have HG18:=lh ((HB17n.out.block _ (lt_of_block HG18.out) (by have:=HNN.out;omega)).trans HG18.out)))
    refine hK.out _ _ (by exact HK15.out _ HB17.out) (fun hHeldp5=>?_);clear hK K hHeldp4
    try simp only [pt]
    refine wpAnyH_done yaV ?_ _
    go_wp2_with fail
    go_meet
    case rel=>exact ⟨g18,g19,A2,n2,k2,rfl,rfl,HB17,HG18,HG19,HO2,⟨HNN.out,HS18.out,HS19.out,HNE19.out⟩⟩
  case rest=>
   obtain ⟨g18,g19,A2,n2,k2,rfl,rfl,HBX,HG18,HG19,HO2,HNN⟩:=hcut;have HB4c:Hid (Below W4.heap.size W4 wc):=HB46.out.trans ((HB69.out.trans ((HB911.out.trans ((HB1112.out.trans (HBX.out.mono HB1112.out.size)).mono HB911.out.size)).mono HB69.out.size)).mono HB46.out.size);obtain ⟨c0,c1,c2,c3⟩:=HC9.out wc HB4c.out;obtain ⟨d0,d1,d2,d3,d4,d5,d6⟩:=ybE HG19.out;have hf5:=frozen_of_row wc g19 5 _ _ HG19.out;have hlt19:=lt_of_block HG19.out;have d5':(wc.alloc (.cells #[.string st] 9)).cell? ⟨g19,5,none⟩=some (.slice x.D.a x.D.n x.D.c):=by rw [cell_of_row _ g19 5 _ _ _ ((Below.heap_alloc wc _ _ hlt19).trans HG19.out)];rfl
   have hf5':(wc.alloc (.cells #[.string st] 9)).frozen? ⟨g19,5,none⟩=false:=frozen_of_row _ g19 5 _ _ ((Below.heap_alloc wc _ _ hlt19).trans HG19.out);clear hlt19
   go_upto_region 13 with fail
   obtain ⟨W13,hW13⟩:∃W:World,W=(wc.alloc (.cells #[.string st] 9)).setCell ⟨g19,5,none⟩ (.slice (some ⟨wc.heap.size,0,none⟩) 1 1):=⟨_,rfl⟩
   obtain ⟨xd,hxd⟩:∃xd:Vw,xd=⟨⟨A1,n1,k1⟩,x.V,x.P,x.b,x.h,⟨some ⟨wc.heap.size,0,none⟩,1,1⟩,x.F⟩:=⟨_,rfl⟩
   have hal:Below wc.heap.size wc (wc.alloc (.cells #[.string st] 9)):=bl;have hlt19:=lt_of_block HG19.out;have hlt18:=lt_of_block HG18.out;have hbw:But (fun i=>i=g19) (wc.alloc (.cells #[.string st] 9)) W13:=by rw [hW13];exact But.setCell (p:=fun i=>i=g19) (x:=⟨g19,5,none⟩) (But.refl _ _) (.inl rfl) _
   have hgd:W13.heap[g19]? =some (.cells (cVw xd) 29 (0,0)):=by rw [hW13,hxd];exact heap_setCell_same _ g19 5 _ _ _ ((Below.heap_alloc wc _ _ hlt19).trans HG19.out)
   have hgs:W13.heap[g18]? =some (.cells (cVw (x.setE A2 n2 k2)) 29 (0,0)):=(hbw.block g18 yaW HNN.out.1).trans ((Below.heap_alloc wc _ _ hlt18).trans HG18.out);have hgn:W13.heap[wc.heap.size]? =some (.cells #[.string st] 9 (0,0)):=(hbw.block wc.heap.size sI om).trans (heap_alloc_new wc _);have ho2:OwnN fEn 6 55 W13 w12.heap.size (.slice A2 n2 k2) ([enA st n sr bd,eM]++[enC 2 2 st xs ⟨Ac,nc,cc⟩]):=World.ownsRow.kept (OwnN.on HO2.out hal) hbw.grownBy (.inr (fun e=>HNN.out.2.2.2 _ e rfl));have HB13:Hid (Below w12.heap.size w12 W13):=(HBX.out.trans (hal.mono HBX.out.size)).trans (hbw.below (Nat.le_trans HBX.out.size hal.size) (fun i hi=>by subst hi;exact HNN.out.2.2.1));have hv13:=HV12.out W13 HB13.out;obtain ⟨A9,c9,hv9,hc9,hs9,_⟩:=OwnN.shape yb6 ho2
   have HVS:Hid (∀V,Below W13.heap.size W13 V→VwIn V V.heap.size (x.setE A2 n2 k2) ([enA st n sr bd,eM]++[enC 2 2 st xs ⟨Ac,nc,cc⟩]) [vtA wr] (pksF sr) [] []):=by
    injection hv9 with e1 e2 e3;subst e1 e3
    have h1:VwIn W13 W13.heap.size (x.setE A2 n2 k2) ([enA st n sr bd,eM]++[enC 2 2 st xs ⟨Ac,nc,cc⟩]) [vtA wr] (pksF sr) [] []:=by
     refine vw_more (x:=x.setE A1 n1 k1) hv13 (by rw [e2];exact hs9) (fun a ha=>?_) (by rw [e2];exact hc9) (by rw [e2];simp);rcases List.mem_append.1 ha with ha |ha
     ·exact hv13.E.2 a ha
     ·obtain rfl:a=enC 2 2 st xs ⟨Ac,nc,cc⟩:=by simpa using ha
      exact ⟨HSC12.out W13 HB13.out,encA_byt HXB.out,HCC.out,trivial,by unfold int64 enC;simp,by unfold int64 enC;simp⟩
    exact fun V hv=>(h1.up hv nl).more hv.size
   have HVD:Hid (∀V,Below W13.heap.size W13 V→VwIn V V.heap.size xd [enA st n sr bd,eM] [vtA wr] (pksF sr) [st] []):=by
    have h1:VwIn W13 W13.heap.size xd [enA st n sr bd,eM] [vtA wr] (pksF sr) [st] []:=by
     rw [hxd];have h2:=hv13.cs;exact ⟨hv13.E,hv13.V,hv13.P,⟨rfl,SL.of_block (t:=9) (fr:=(0,0)) (xs:=[st]) hgn (lt_of_block hgn)⟩,hv13.F,h2.1,h2.2.1,h2.2.2.1,h2.2.2.2.1,Nat.le_refl _,h2.2.2.2.2.2⟩
    exact fun V hv=>(h1.up hv nl).more hv.size
   have HXD:=lh hxd;have HGD:=lh hgd;have HGS:=lh hgs;have HN2':Hid (n2=3):=by injection hv9
   rw [←hW13];clear hW13 hxd hal hlt19 hlt18 hbw hgd hgs hgn ho2 hv13 hv9 hc9 hs9 c0 c1 c2 c3 d0 d1 d2 d3 d4 d5 d6 hf5 d5' hf5' HG18 HG19 HO2 HW22 HZ0 HZ1 HD12;have HB6X:Hid (Below W6.heap.size W6 W13):=HB69.out.trans ((HB911.out.trans ((HB1112.out.trans (HB13.out.mono HB1112.out.size)).mono HB911.out.size)).mono HB69.out.size);have HBwX:Hid (Below w.heap.size w W13):=HB6.out.trans (HB6X.out.mono HB6.out.size);obtain ⟨bE,oE,e0,hEa,hEb,he0,hEc⟩:=(HV.out W6 br).E.1.at_ (k:=0) (by have:=HXB5.out.2.1;omega);obtain rfl:enA st n sr bd=e0:=by simpa using he0
   have HKS:Hid (∀V,Below W13.heap.size W13 V→(V.heap[w10.heap.size]? =some (.cells (cVw (x.setE A1 n1 k1)) 29 (0,0))∧V.heap[w5.heap.size]? =some (.cells (cVw x) 29 (0,0)))∧V.rangeAt gp 0 (fEn {enA st n sr bd with bd:=⟨B1,bd.n,m1⟩})∧V.rangeAt bE oE (fEn (enA st n sr bd))):=fun V hv=>by
    have h12:=HB13.out.trans (hv.mono HB13.out.size);have h6:=HB6X.out.trans (hv.mono HB6X.out.size);refine ⟨⟨HK15.out V h12,HG10.out V h6⟩,fun j v hj=>?_,fun j v hj=>?_⟩
    ·have h1:=HRP.out j v ((List.getElem?_append_left (List.getElem?_eq_some_iff.1 hj).1).trans hj)
     exact (World.cell?_of_block (h12.block gp HGP.out)).trans h1
    ·have h1:=hEc j v hj
     rw [Nat.zero_mul,Nat.zero_add] at h1;exact (World.cell?_of_block (h6.block bE hEb)).trans h1
   have HSE:Hid (∀V,Below W13.heap.size W13 V→Calls Tryz.prog 28 #[.agg (fEn {enA st n sr bd with bd:=⟨B1,bd.n,m1⟩}).toArray,.agg (fEn (enA st n sr bd)).toArray] V fun e w'=>e= .returned (.bool true)∧Below V.heap.size V w'):=fun V hv=>by
    have h12:=HB13.out.trans (hv.mono HB13.out.size);have h6:=HB6X.out.trans (hv.mono HB6X.out.size);exact sameEntry_eq (enA st n sr bd) ⟨B1,bd.n,m1⟩ bd V.heap.size V ((HSP.out.up h12 nl).more' h12.size) ((HV.out V h6).E.2 _ (List.mem_singleton.2 rfl)).1 nl
   have HNA:Hid (∀V,Below W13.heap.size W13 V→Calls Tryz.prog 24 #[.agg (cVw (x.setE A1 n1 k1))] V (NwI [2] V V.heap.size V)):=fun V hv=>by
    have h12:=HB13.out.trans (hv.mono HB13.out.size);have h1:=ycy (x.setE A1 n1 k1) [enA st n sr bd,eM] [vtA wr] (pksF sr) [] [] V.heap.size V (HX.out V (HBwX.out.trans (hv.mono HBwX.out.size))).2.2 (HV12.out V h12) nl HOK1.out (by show x.F.n≤500;have:=HXB5.out;omega) (by show n1≤400;have:=HN12.out;omega);have h3:opnV (x.setE A1 n1 k1) [enA st n sr bd,eM] [vtA wr] (pksF sr) []=[acA st n sr]:=HSE1.out.2.2;rw [h3] at h1;have h2:=(nm_one st n sr (mtsE mtX (frE [enA st n sr bd,eM])) true (by rw [HAK1.out];rfl)).1;rw [h2] at h1;exact h1
   have HD13:Hid (Below W13.heap.size W13 W13.drew):=br.drew;clear hEc he0 hEb;have HIN:Hid (∀(CA CB:Option Addr) (ca cb:Nat) (V:World),Sl I V V.heap.size CA 1 [2]→Sl I V V.heap.size CB 1 [2]→Calls Tryz.prog 23 #[.slice CA 1 ca,.slice CB 1 cb] V fun e w'=>e= .returned (.bool true)∧∃r,w'=V.drewN r):=fun CA CB ca cb V h1 h2=>ints_any CA CB 1 1 [2] [2] ca cb V V.heap.size h1 h2 om om
   obtain ⟨i0,hi0,hi1,hi2,_⟩:=info_parts Tryz.infoIF;have HJ0:=lh hi0;have HJ1:=lh hi1;have HJ2:=lh hi2;clear hi0 hi1 hi2
   go_cut [107] from 83 (fun p wx=>p= .bool false∧Hid (Below W13.heap.size W13 wx))
   case first=>
    refine wp_region_held_drew (S:=(fun w'=>(w'.heap[w10.heap.size]? =some (.cells (cVw (x.setE A1 n1 k1)) 29 (0,0))∧w'.heap[w5.heap.size]? =some (.cells (cVw x) 29 (0,0)))∧w'.rangeAt gp 0 (fEn {enA st n sr bd with bd:=⟨B1,bd.n,m1⟩})∧w'.rangeAt bE oE (fEn (enA st n sr bd)))) yaV (by exact HKS.out _ HD13.out) (fun hHeld=>?_);refine tkH (i:=0) (v:=_) (y:=(yieldsIf_load_mid (by rfl) 29 (.tmp 15) rfl w10.heap.size 0 (by rfl) (cVw (x.setE A1 n1 k1)).toList _ (fun _ h=>ybU h.1.1) Tryz.underlying29 rfl (ybF (x.setE A1 n1 k1)))) (h:=?_)
    try simp only [pt]
    iterate 2
     all_goals
      (first |refine rb2 1 2 (fun K hK=>?_) (fun K hK=>?_) |refine rb1 1 (fun K hK=>?_) |refine rb1 2 (fun K hK=>?_))<;>(first
      |((refine step_litI (o:=⟨some 85,_,_,_,_,_⟩) rfl 27 3 rfl i0 (.int .i64 0) Tryz.underlying27 HJ0.out HJ1.out HJ2.out rfl 2 rfl ?_);intro g15 w15 HSL HB15n;(have HB15:Hid (Below W13.heap.size W13 w15):=by first |exact HB14.out.trans (HB15n.out.mono HB14.out.size) |exact HD13.out.trans HB15n.out);(try (have HSN:=lh ((HSN.out.up HB15n.out nl).more' HB15n.out.size))))
      |(go_simp;go_at_call 24;(with_reducible refine (HNA.out _ (by first |exact HB15.out |exact HD13.out)).mono ?_);rintro e w14 ⟨v,rfl,ho,hb14⟩;(obtain ⟨CN,cN,hv,hc14,hs14,_⟩:=ho.shape);rw [show ([2]:List Int).length=1 from rfl] at hv;subst hv;(have HSN:Hid (Sl I w14 w14.heap.size CN 1 [2]):=⟨rfl,hs14⟩);(have HB14:Hid (Below W13.heap.size W13 w14):=by first |exact HB15.out.trans (hb14.mono HB15.out.size) |exact HD13.out.trans hb14);(try (have HSL:=lh ((HSL.out.up hb14 nl).more' hb14.size)));clear ho hc14 hs14 hb14;go_wp2_with fail)
      )<;>(refine hK.out _ _ (by first |exact HKS.out _ HB14.out |exact HKS.out _ HB15.out) (fun hHeldZ=>?_))<;>(clear hK K)<;>(try simp only [pt])
    all_goals
     refine rd1 3 (fun K hK=>?_)
     (go_simp;go_at_call 23;(with_reducible refine (HIN.out _ _ _ _ _ HSN.out HSL.out).mono ?_);rintro e w16 ⟨rfl,r,hr⟩;(have HB16:Hid (Below W13.heap.size W13 w16):=by rw [hr];first |exact ya0 HB15.out r |exact ya0 HB14.out r);clear hr;go_wp2_with fail)
     refine hK.out _ _ (by exact HKS.out _ HB16.out) (fun hHelds2=>?_);clear hK K hHeldZ
     try simp only [pt]
     refine tkY 4 ?_;refine tkY 5 ?_;refine tkY 6 ?_;refine tkY 7 ?_;refine tkY 8 ?_;refine tkY 9 ?_;refine tkY 10 ?_;refine tkY 11 ?_;refine tkY 12 ?_;refine tkY 13 ?_;refine tkY 14 ?_;refine tkY 15 ?_;refine tkY 16 ?_;refine tkH (i:=17) (v:=_) (y:=(yieldsIf_load_mid (by rfl) 55 (.tmp 99) rfl gp 0 (by rfl) (fEn {enA st n sr bd with bd:=⟨B1,bd.n,m1⟩}) _ (fun _ h=>h.2.1) Tryz.underlying55 rfl (sizeEnL {enA st n sr bd with bd:=⟨B1,bd.n,m1⟩}))) (h:=?_)
     try simp only [pt]
     refine tkY 18 ?_;refine tkH (i:=19) (v:=_) (y:=(Or.inl ⟨by rfl,by (intro w hSw;(try dsimp only at hSw);obtain ⟨⟨_,hq⟩,_,_⟩:=hSw;obtain ⟨v0,v1,v2,v3,v4,v5,v6⟩:=ybE hq;go_simp;try (with_reducible rfl))⟩)) (h:=?_)
     try simp only [pt]
     refine tkH (i:=20) (v:=_) (y:=(Or.inl ⟨by rfl,by (intro w hSw;(try dsimp only at hSw);have hE0:0 < x.E.n:=(by have:=HXB5.out.2.1;omega);go_simp;try (with_reducible rfl))⟩)) (h:=?_)
     try simp only [pt]
     refine tkH (i:=21) (v:=_) (y:=(yieldsIf_load_mid (by rfl) 55 (.tmp 103) rfl bE oE (by rfl) (fEn (enA st n sr bd)) _ (fun _ h=>h.2.2) Tryz.underlying55 rfl (sizeEnL (enA st n sr bd)))) (h:=?_)
     try simp only [pt]
     refine rd1 22 (fun K hK=>?_)
     (go_simp;go_at_call 28;(with_reducible refine (HSE.out _ HB16.out).mono ?_);rintro e w17 ⟨rfl,hb17⟩;(have HB17:Hid (Below W13.heap.size W13 w17):=HB16.out.trans (hb17.mono HB16.out.size));clear hb17;go_wp2_with fail)
     refine hK.out _ _ (by exact HKS.out _ HB17.out) (fun hHelds21=>?_);clear hK K hHelds2
     try simp only [pt]
     refine tkY 23 ?_;refine tkY 24 ?_;refine wpAnyH_done yaV ?_ _
     go_wp2_with fail
     go_meet
     case rel=>exact ⟨rfl,HB17⟩
   case rest=>
    obtain ⟨rfl,HBY⟩:=hcut;clear hEa;obtain ⟨z0,hz0,hz1,hz2,hz3⟩:=info_parts Tryz.infoVwF;have HZ0:=lh hz0;have HZ1:=lh hz1;clear hz0 hz1 hz2 hz3;have HGK:=lh (HKS.out wc HBY.out).1.1;have HB12c:Hid (Below w12.heap.size w12 wc):=HB13.out.trans (HBY.out.mono HB13.out.size);have HW4:=lh (HW2.out 1 4 wc HB12c.out)
    go_upto_region 16 with (first
     |(with_reducible refine wpList_load_row (o:=⟨some 108,_,_,_,_,_⟩) rfl 29 (.tmp 15) rfl w10.heap.size rfl 29 (cVw (x.setE A1 n1 k1)) _ _ HGK.out Tryz.underlying29 rfl (ycz _) ?_)
     |(go_at_call 33;(with_reducible refine HW4.out.mono ?_);rintro e w14 ⟨A5,n5,k5,rfl,ho5,hb14⟩;(have HO5:=lh ho5);(have HB14:=lh hb14);clear ho5 hb14))
    obtain ⟨W15,hW15⟩:∃W:World,W=w14.alloc (.cells (cVw (x.setE A5 n5 k5)) 29):=⟨_,rfl⟩
    have hgo:W15.heap[w14.heap.size]? =some (.cells (cVw (x.setE A5 n5 k5)) 29 (0,0)):=by rw [hW15];exact heap_alloc_new w14 _
    have HB1415:Hid (Below w14.heap.size w14 W15):=by show Below ..;rw [hW15];exact bl
    have HBc15:Hid (Below wc.heap.size wc W15):=HB14.out.trans (HB1415.out.mono HB14.out.size);have HB15:Hid (Below W13.heap.size W13 W15):=HBY.out.trans (HBc15.out.mono HBY.out.size);have hvo:=vw_with (x:=x.setE A1 n1 k1) (e:=enC 1 4 st xs ⟨Ac,nc,cc⟩) (HV12.out wc HB12c.out) HB14.out HO5.out (HSC12.out wc HB12c.out) (encA_byt HXB.out) HCC.out (by unfold int64 enC;simp) (by unfold int64 enC;simp) sI;have HN5:Hid (n5=3):=hvo.2
    have HVO:Hid (∀V,Below W15.heap.size W15 V→VwIn V V.heap.size (x.setE A5 n5 k5) [enA st n sr bd,eM,enC 1 4 st xs ⟨Ac,nc,cc⟩] [vtA wr] (pksF sr) [] []):=fun V hv=>by
     have h1:=HB1415.out.trans (hv.mono HB1415.out.size);exact (hvo.1.up h1 nl).more h1.size
    have HGO:Hid (∀V,Below W15.heap.size W15 V→V.heap[w14.heap.size]? =some (.cells (cVw (x.setE A5 n5 k5)) 29 (0,0))):=fun V hv=>(hv.block _ (lt_of_block hgo)).trans hgo
    rw [←hW15];clear hW15 hgo hvo
    have HRE:Hid (∀(C:Option Addr) (V:World),Sl I V V.heap.size C 2 [9,2]→Calls Tryz.prog 34 #[.int .i64 peer,.slice C 2 2] V (Slc fB ((pr:Int)::encV [9,2]) V)):=fun C V hC=>by
     rw [HPR.out];exact remeet_any pr C 2 [9,2] 2 V V.heap.size hC nl om om ydQ.2 HP12.out
    have HW6:Hid (∀(Ae:Option Addr) (ne ce:Nat) (V:World),Below W15.heap.size W15 V→Calls Tryz.prog 33 #[.agg (cVw x),.int .i64 2,.int .i64 1,.int .i64 9,.slice Ae ne ce] V fun e w'=>∃A9 n9 c9,e= .returned (.agg (cVw (x.setE A9 n9 c9)))∧OwnN fEn 6 55 w' V.heap.size (.slice A9 n9 c9) ([enA st n sr bd]++[enM pr [9,2] ⟨Ae,ne,ce⟩])∧Below V.heap.size V w'):=fun Ae ne ce V hv=>
     with_any x [enA st n sr bd] 2 1 9 ⟨Ae,ne,ce⟩ ((pr:Int)::encV [9,2]) V.heap.size V (HV.out V (HB6X.out.trans ((HB15.out.trans (hv.mono HB15.out.size)).mono HB6X.out.size))).E.1 nl sI
    have HK16:Hid (∀V,Below W15.heap.size W15 V→V.heap[w5.heap.size]? =some (.cells (cVw x) 29 (0,0))):=fun V hv=>(HKS.out V (HB15.out.trans (hv.mono HB15.out.size))).1.2
    have HDD:Hid (Below W15.heap.size W15 W15.drew):=br.drew
    go_cut [21] from 111 (fun p wx=>∃g21 A6 n6 k6 Ae ne ce,p= .pointer (some ⟨g21,0,none⟩)∧Hid (Below W15.heap.size W15 wx)∧Hid (wx.heap[g21]? =some (.cells (cVw (x.setE A6 n6 k6)) 29 (0,0)))∧Hid (OwnN fEn 6 55 wx W15.heap.size (.slice A6 n6 k6) ([enA st n sr bd]++[enM pr [9,2] ⟨Ae,ne,ce⟩]))∧Hid (Sl fB wx wx.heap.size Ae ne ((pr:Int)::encV [9,2]))∧Hid (ne≤ce))
    case first=>
     refine wp_region_held_drew (S:=(fun w'=>w'.heap[w5.heap.size]? =some (.cells (cVw x) 29 (0,0)))) yaV (by exact HK16.out _ HDD.out) (fun hHeld=>?_);refine tkH (i:=0) (v:=_) (y:=(yieldsIf_load_mid (by rfl) 29 (.tmp 10) rfl w5.heap.size 0 (by rfl) (cVw x).toList _ (fun _ h=>ybU h) Tryz.underlying29 rfl (ybF x))) (h:=?_)
     try simp only [pt]
     refine tkY 1 ?_
     iterate 4
      all_goals
       (first |refine rb2 2 5 (fun K hK=>?_) (fun K hK=>?_) |refine rb2 3 5 (fun K hK=>?_) (fun K hK=>?_) |refine rb2 4 5 (fun K hK=>?_) (fun K hK=>?_) |refine rb1 2 (fun K hK=>?_) |refine rb1 3 (fun K hK=>?_) |refine rb1 4 (fun K hK=>?_) |refine rb1 5 (fun K hK=>?_))<;>(first
       |((refine ybW (o:=⟨some 21,_,_,_,_,_⟩) rfl 29 rfl z0 _ HZ0.out HZ1.out ?_);intro g21 w19 HG21 HB19n HQ19;(have HB19:Hid (Below W15.heap.size W15 w19):=by first |exact HB18.out.trans (HB19n.out.mono HB18.out.size) |exact HB17.out.trans (HB19n.out.mono HB17.out.size) |exact HB16.out.trans (HB19n.out.mono HB16.out.size) |exact HDD.out.trans (HB19n.out.mono HDD.out.size));(have HS21:Hid (W15.heap.size≤g21):=by (have h:=HQ19.out.1);first |exact Nat.le_trans HB18.out.size (Nat.le_of_eq h.symm) |exact Nat.le_trans HB17.out.size (Nat.le_of_eq h.symm) |exact Nat.le_trans HB16.out.size (Nat.le_of_eq h.symm) |exact Nat.le_of_eq h.symm);(try (have HNE21:Hid (∀k,(Value.slice A6 n6 k6).ownBlock=some k→k≠g21):=fun k hk e=>by have h1:=(World.ownsRow.lt HO6.out _ hk).2;have h2:=HQ19.out.1;omega));(try (have HO6:=lh (OwnN.on HO6.out HB19n.out)));(try (have HSE2:=lh ((HSE2.out.up HB19n.out nl).more' HB19n.out.size)));(try (have HSL2:=lh ((HSL2.out.up HB19n.out nl).more' HB19n.out.size))))
       |((refine step_litI2 rfl 27 3 rfl i0 Tryz.underlying27 HJ0.out HJ1.out HJ2.out 9 2 rfl rfl ?_);intro g16 w16 HSL2 HB16n;(have HB16:Hid (Below W15.heap.size W15 w16):=by first |exact HB19.out.trans (HB16n.out.mono HB19.out.size) |exact HDD.out.trans (HB16n.out.mono HDD.out.size));(try (have HG21:=lh ((HB16n.out.block _ (lt_of_block HG21.out)).trans HG21.out))))
       |(go_simp;go_at_call 34;(with_reducible refine (HRE.out _ _ HSL2.out).mono ?_);rintro e w17 ⟨Ae,ne,ce,rfl,hce,hse,hb17⟩;(have HCE:=lh hce);(have HSE2:=lh hse);(have HB17:Hid (Below W15.heap.size W15 w17):=by first |exact HB19.out.trans (hb17.mono HB19.out.size) |exact HB16.out.trans (hb17.mono HB16.out.size));(try (have HG21:=lh ((hb17.block _ (lt_of_block HG21.out)).trans HG21.out)));clear hce hse hb17;go_wp2_with fail)
       |(go_simp;go_at_call 33;(with_reducible refine (HW6.out _ _ _ _ (by first |exact HB19.out |exact HB17.out)).mono ?_);rintro e w18 ⟨A6,n6,k6,rfl,ho6,hb18⟩;(have HB18:Hid (Below W15.heap.size W15 w18):=by first |exact HB19.out.trans (hb18.mono HB19.out.size) |exact HB17.out.trans (hb18.mono HB17.out.size));(try (have HNE21:Hid (∀k,(Value.slice A6 n6 k6).ownBlock=some k→k≠g21):=fun k hk e=>by have h1:=(World.ownsRow.lt ho6 _ hk).1;have h2:=lt_of_block HG21.out;omega));(have HO6:Hid (OwnN fEn 6 55 w18 W15.heap.size (.slice A6 n6 k6) ([enA st n sr bd]++[enM pr [9,2] ⟨Ae,ne,ce⟩])):=World.ownsRow.mono ho6 (by first |exact HB19.out.size |exact HB17.out.size));(try (have HSE2:=lh ((HSE2.out.up hb18 nl).more' hb18.size)));(try (have HG21:=lh ((hb18.block _ (lt_of_block HG21.out)).trans HG21.out)));clear ho6 hb18;go_wp2_with fail)
       )<;>(refine hK.out _ _ (by first |exact HK16.out _ HB16.out |exact HK16.out _ HB17.out |exact HK16.out _ HB18.out |exact HK16.out _ HB19.out) (fun hHeldZ=>?_))<;>(clear hK K)<;>(try simp only [pt])
     all_goals
      refine rd1 6 (fun K hK=>?_)
      ((refine ybd (g:=g21) rfl 29 (.tmp 21) (.tmp 115) rfl 29 zVw (cVw (x.setE A6 n6 k6)) rfl rfl HG21.out (ycz _) rfl (cVw_all _) ?_);intro w20 HG21n HB20n;(have HB20:Hid (Below W15.heap.size W15 w20):=by first |exact HB18.out.trans (HB20n.out.below HB18.out.size (fun i hi=>by subst hi;exact HS21.out)) |exact HB19.out.trans (HB20n.out.below HB19.out.size (fun i hi=>by subst hi;exact HS21.out)));(have HSE2:=lh (Sl.offV (x:=⟨⟨none,0,0⟩,⟨none,0,0⟩,⟨none,0,0⟩,0,0,⟨none,0,0⟩,⟨none,0,0⟩⟩) HSE2.out HG21.out HB20n.out));(have HO6:Hid (OwnN fEn 6 55 w20 W15.heap.size (.slice A6 n6 k6) ([enA st n sr bd]++[enM pr [9,2] ⟨Ae,ne,ce⟩])):=World.ownsRow.kept HO6.out HB20n.out.grownBy (.inr (fun e=>HNE21.out _ e rfl)));(have HG21:=HG21n))
      refine hK.out _ _ (by exact HK16.out _ HB20.out) (fun hHeldq3=>?_);clear hK K hHeldZ
      try simp only [pt]
      refine wpAnyH_done yaV ?_ _
      go_wp2_with fail
      go_meet
      case rel=>exact ⟨g21,A6,n6,k6,Ae,ne,ce,rfl,HB20,HG21,HO6,HSE2,HCE⟩
    case rest=>
     obtain ⟨g21,A6,n6,k6,Ae,ne,ce,rfl,HBZ,HG21,HO6,HSE2,HCE⟩:=hcut
     have HWW:Hid (∀V,Below wc.heap.size wc V→Below W15.heap.size W15 V∧Below W13.heap.size W13 V∧Below W6.heap.size W6 V∧Below w.heap.size w V):=fun V hv=>by
      have h1:=HBZ.out.trans (hv.mono HBZ.out.size);have h2:=HB15.out.trans (h1.mono HB15.out.size);have h3:=HB6X.out.trans (h2.mono HB6X.out.size);exact ⟨h1,h2,h3,HB6.out.trans (h3.mono HB6.out.size)⟩
     have hxb:=HXB5.out;have hE1:x.E.n=1:=hxb.2.1;have hst:=HST.out;have h1n:=HN1.out;have h2n:=HN2.out;have h3n:=HSR.out;have hn65:n≤65536:=by show _≤_;omega
     have hve:=vw_with2 (x:=x) (e:=enM pr [9,2] ⟨Ae,ne,ce⟩) (HV.out W15 (HB6X.out.trans (HB15.out.mono HB6X.out.size))) HBZ.out HO6.out HSE2.out (encM_byt pr _ HP12.out) HCE.out (by unfold int64 enM;simp) (by unfold int64 enM;simp) sI;have hn6:n6=2:=hve.2
     have hncl:nc≤1000000:=by
      have h1:(encA 1 3 st 0 xs [st]).length=nc:=(HSC12.out w12 br).1;have h2:=encA_len (d:=1) (q:=3) (ix:=0) (xs:=xs) (ys:=[st]) hst (by have:=HXL.out;omega) sI (fun y hy=>by rw [List.mem_singleton.1 hy];exact hst);omega
     have hnel:ne≤1000000:=by
      have h1:((pr:Int)::encV [9,2]).length=ne:=HSE2.out.1;have h2:=yc0 [9,2] ydQ.2;simp only [List.length_cons,List.length_nil] at h1 h2;omega
     have hnm:=HNM.out;have hbn:=HBN.out;have hn1:=HN12.out;have hn2:=HN2'.out;have hn5:=HN5.out;have okV:VwOk x [enA st n sr bd]:=⟨by omega,by omega,fun e he=>by rw [List.mem_singleton.1 he];exact hbn⟩
     have okE:VwOk (x.setE A6 n6 k6) [enA st n sr bd,enM pr [9,2] ⟨Ae,ne,ce⟩]:=⟨by show n6≤1000;omega,by show x.V.n≤1000∧x.P.n≤1000∧x.D.n≤1000;omega,fun e he=>by
      simp only [List.mem_cons,List.not_mem_nil,or_false] at he;rcases he with rfl |rfl
      ·exact hbn
      ·exact hnel⟩
     have heMn:eM.bd.n≤1000000:=(HOK1.out.2.2 eM sI)
     have okO:VwOk (x.setE A5 n5 k5) [enA st n sr bd,eM,enC 1 4 st xs ⟨Ac,nc,cc⟩]:=⟨by show n5≤1000;omega,by show x.V.n≤1000∧x.P.n≤1000∧x.D.n≤1000;omega,fun e he=>by
      simp only [List.mem_cons,List.not_mem_nil,or_false] at he;rcases he with rfl |rfl |rfl
      ·exact hbn
      ·exact heMn
      ·exact hncl⟩
     have okS:VwOk (x.setE A2 n2 k2) [enA st n sr bd,eM,enC 2 2 st xs ⟨Ac,nc,cc⟩]:=⟨by show n2≤1000;omega,by show x.V.n≤1000∧x.P.n≤1000∧x.D.n≤1000;omega,fun e he=>by
      simp only [List.mem_cons,List.not_mem_nil,or_false] at he;rcases he with rfl |rfl |rfl
      ·exact hbn
      ·exact heMn
      ·exact hncl⟩
     have hmk:eM.k=9∧eM.dv=2∧eM.sq=1:=by rw [←HEM.out];exact ⟨rfl,rfl,rfl⟩
     have HCV:Hid (∀V,Below wc.heap.size wc V→Calls Tryz.prog 19 #[.agg (cVw x)] V (NwI [2] V V.heap.size V)):=fun V hv=>by
      obtain ⟨_,_,h6,hw⟩:=HWW.out V hv;have h1:=ycN x [enA st n sr bd] [vtA wr] (pksF sr) [] [] V.heap.size V (HX.out V hw).2.2 (HV.out V h6) nl okV;rw [(see_v hxb.1 hst h1n hn65 h3n).1] at h1;exact h1
     have HCN:Hid (∀V,Below wc.heap.size wc V→Calls Tryz.prog 24 #[.agg (cVw x)] V (NwI [] V V.heap.size V)):=fun V hv=>by
      obtain ⟨_,_,h6,hw⟩:=HWW.out V hv;have h1:=ycy x [enA st n sr bd] [vtA wr] (pksF sr) [] [] V.heap.size V (HX.out V hw).2.2 (HV.out V h6) nl okV om om;rw [(see_v hxb.1 hst h1n hn65 h3n).2] at h1;exact h1
     have HCE2:Hid (∀V,Below wc.heap.size wc V→Calls Tryz.prog 24 #[.agg (cVw (x.setE A6 n6 k6))] V (NwI [] V V.heap.size V)):=fun V hv=>by
      obtain ⟨_,_,_,hw⟩:=HWW.out V hv;have h1:=ycy (x.setE A6 n6 k6) [enA st n sr bd,enM pr [9,2] ⟨Ae,ne,ce⟩] [vtA wr] (pksF sr) [] [] V.heap.size V (HX.out V hw).2.2 ((hve.1.up hv nl).more hv.size) nl okE (by show x.F.n≤500;omega) (by show n6≤400;omega);rw [see_early (x:=x.setE A6 n6 k6) hxb.1 hst h1n hn65 h3n HP12.out _] at h1;exact h1
     have HCO:Hid (∀V,Below wc.heap.size wc V→Calls Tryz.prog 24 #[.agg (cVw (x.setE A5 n5 k5))] V (NwI [2] V V.heap.size V)):=fun V hv=>by
      obtain ⟨h15,_,_,hw⟩:=HWW.out V hv;have h1:=ycy (x.setE A5 n5 k5) [enA st n sr bd,eM,enC 1 4 st xs ⟨Ac,nc,cc⟩] [vtA wr] (pksF sr) [] [] V.heap.size V (HX.out V hw).2.2 (HVO.out V h15) nl okO (by show x.F.n≤500;omega) (by show n5≤400;omega);rw [←HEM.out,see_other (x:=x.setE A5 n5 k5) hxb.1 HSTE.out HXL.out hst h1n h2n h3n HP12.out HMO.out _ _] at h1;exact h1
     have HCS:Hid (∀V,Below wc.heap.size wc V→Calls Tryz.prog 24 #[.agg (cVw (x.setE A2 n2 k2))] V (NwI [] V V.heap.size V)∧Calls Tryz.prog 19 #[.agg (cVw (x.setE A2 n2 k2))] V (NwI [] V V.heap.size V)):=fun V hv=>by
      obtain ⟨_,h13,_,hw⟩:=HWW.out V hv;have h1:=ycy (x.setE A2 n2 k2) [enA st n sr bd,eM,enC 2 2 st xs ⟨Ac,nc,cc⟩] [vtA wr] (pksF sr) [] [] V.heap.size V (HX.out V hw).2.2 (HVS.out V h13) nl okS (by show x.F.n≤500;omega) (by show n2≤400;omega);have h2:=ycN (x.setE A2 n2 k2) [enA st n sr bd,eM,enC 2 2 st xs ⟨Ac,nc,cc⟩] [vtA wr] (pksF sr) [] [] V.heap.size V (HX.out V hw).2.2 (HVS.out V h13) nl okS;have h3:=(see_shown (x:=x.setE A2 n2 k2) (wr:=wr) (bd:=bd) HSTE.out HXL.out hst h1n h2n h3n eM hmk ⟨Ac,nc,cc⟩ (mtsE mtX (frE [enA st n sr bd,eM,enC 2 2 st xs ⟨Ac,nc,cc⟩]))).1;rw [h3] at h1;have h4:=(see_shown (x:=x.setE A2 n2 k2) (wr:=wr) (bd:=bd) HSTE.out HXL.out hst h1n h2n h3n eM hmk ⟨Ac,nc,cc⟩ (fun _=>[])).2;rw [h4] at h2;exact ⟨h1,h2⟩
     have okD:VwOk xd [enA st n sr bd,eM]:=by
      rw [HXD.out];exact ⟨by show n1≤1000;omega,by show x.V.n≤1000∧x.P.n≤1000∧1≤1000;omega,HOK1.out.2.2⟩
     have HCD:Hid (∀V,Below wc.heap.size wc V→Calls Tryz.prog 19 #[.agg (cVw xd)] V (NwI [] V V.heap.size V)):=fun V hv=>by
      obtain ⟨_,h13,_,hw⟩:=HWW.out V hv;have h2:=ycN xd [enA st n sr bd,eM] [vtA wr] (pksF sr) [st] [] V.heap.size V (HX.out V hw).2.2 (HVD.out V h13) nl okD;rw [see_dropped (x:=xd) hst h1n hn65 h3n eM hmk] at h2;exact h2
     have HAWc:Hid (∀V,Below wc.heap.size wc V→Calls Tryz.prog 11 #[] V fun e w'=>e= .returned (.bool true)∧Below V.heap.size V w'):=fun V hv=>HAW.out V (HWW.out V hv).2.2.2
     have HK5:Hid (∀V,Below wc.heap.size wc V→V.rangeAt w5.heap.size 0 (cVw x).toList):=fun V hv=>ybU (HG10.out V (HWW.out V hv).2.2.1)
     have HK21:Hid (∀V,Below wc.heap.size wc V→V.rangeAt g21 0 (cVw (x.setE A6 n6 k6)).toList):=fun V hv=>ybU ((hv.block _ (lt_of_block HG21.out)).trans HG21.out)
     have HK20:Hid (∀V,Below wc.heap.size wc V→V.rangeAt w14.heap.size 0 (cVw (x.setE A5 n5 k5)).toList):=fun V hv=>ybU (HGO.out V (HWW.out V hv).1)
     have HK18:Hid (∀V,Below wc.heap.size wc V→V.rangeAt g18 0 (cVw (x.setE A2 n2 k2)).toList):=fun V hv=>ybU (((HWW.out V hv).2.1.block _ (lt_of_block HGS.out)).trans HGS.out)
     have HK19:Hid (∀V,Below wc.heap.size wc V→V.rangeAt g19 0 (cVw xd).toList):=fun V hv=>ybU (((HWW.out V hv).2.1.block _ (lt_of_block HGD.out)).trans HGD.out)
     have HZ:Hid (Below wc.heap.size wc wc):=Below.refl _ _;clear hxb hE1 hst h1n h2n h3n hn65 hve hn6 hncl hnel hnm hbn hn1 hn2 hn5 okV okE okO okS okD heMn hmk
     go_wp2_with (first
      |(go_at_call 11;(with_reducible refine (HAWc.out _ HZ.out).mono ?_);rintro e w' ⟨rfl,hb⟩;(have HZ:Hid (Below wc.heap.size wc _):=HZ.out.trans (hb.mono HZ.out.size));clear hb)
      |(with_reducible refine ybc (op:=⟨some 118,_,_,_,_,_⟩) yaV 29 (.tmp 10) rfl w5.heap.size 0 rfl (cVw x).toList _ (HK5.out _ HZ.out) Tryz.underlying29 rfl (ybF x) ?_)
      |(go_at_call 19;(with_reducible refine (HCV.out _ HZ.out).mono ?_);rintro e w' ⟨v,rfl,ho,hb⟩;(obtain ⟨Q1,cQ1,hv,hc,hps,_⟩:=ho.shape);rw [show ([2]:List Int).length=1 from rfl] at hv;subst hv;(have HQ1:Hid (Sl I _ _ Q1 1 [2]):=⟨rfl,hps⟩);(have HZ:Hid (Below wc.heap.size wc _):=HZ.out.trans (hb.mono HZ.out.size));clear ho hc hps hb)
      |((with_reducible refine wpList_litI (op:=⟨some 120,_,_,_,_,_⟩) yaV 27 3 rfl i0 (.int .i64 0) Tryz.underlying27 HJ0.out HJ1.out HJ2.out rfl 2 rfl ?_);intro g w' hsl hbl;(have HL:=hsl);(have HQ1:=lh ((HQ1.out.up hbl.out nl).more' hbl.out.size));(have HZ:Hid (Below wc.heap.size wc _):=HZ.out.trans (hbl.out.mono HZ.out.size));clear hsl hbl)
      |(go_at_call 23;(with_reducible refine (HIN.out _ _ _ _ _ HQ1.out HL.out).mono ?_);rintro e w' ⟨rfl,r,rfl⟩;(have HZ:Hid (Below wc.heap.size wc _):=ya0 HZ.out r);clear HQ1 HL)
      |(with_reducible refine ybc (op:=⟨some 124,_,_,_,_,_⟩) yaV 29 (.tmp 10) rfl w5.heap.size 0 rfl (cVw x).toList _ (HK5.out _ HZ.out) Tryz.underlying29 rfl (ybF x) ?_)
      |(go_at_call 24;(with_reducible refine (HCN.out _ HZ.out).mono ?_);rintro e w' ⟨v,rfl,ho,hb⟩;(obtain ⟨Q2,cQ2,hv,hc,hps,_⟩:=ho.shape);rw [show ([]:List Int).length=0 from rfl] at hv;subst hv;(have HZ:Hid (Below wc.heap.size wc _):=HZ.out.trans (hb.mono HZ.out.size));clear ho hc hps hb)
      |(with_reducible refine ybc (op:=⟨some 130,_,_,_,_,_⟩) yaV 29 (.tmp 21) rfl g21 0 rfl (cVw (x.setE A6 n6 k6)).toList _ (HK21.out _ HZ.out) Tryz.underlying29 rfl (ybF (x.setE A6 n6 k6)) ?_)
      |(go_at_call 24;(with_reducible refine (HCE2.out _ HZ.out).mono ?_);rintro e w' ⟨v,rfl,ho,hb⟩;(obtain ⟨Q3,cQ3,hv,hc,hps,_⟩:=ho.shape);rw [show ([]:List Int).length=0 from rfl] at hv;subst hv;(have HZ:Hid (Below wc.heap.size wc _):=HZ.out.trans (hb.mono HZ.out.size));clear ho hc hps hb)
      |(with_reducible refine ybc (op:=⟨some 136,_,_,_,_,_⟩) yaV 29 (.tmp 20) rfl w14.heap.size 0 rfl (cVw (x.setE A5 n5 k5)).toList _ (HK20.out _ HZ.out) Tryz.underlying29 rfl (ybF (x.setE A5 n5 k5)) ?_)
      |(go_at_call 24;(with_reducible refine (HCO.out _ HZ.out).mono ?_);rintro e w' ⟨v,rfl,ho,hb⟩;(obtain ⟨Q4,cQ4,hv,hc,hps,_⟩:=ho.shape);rw [show ([2]:List Int).length=1 from rfl] at hv;subst hv;(have HQ4:Hid (Sl I _ _ Q4 1 [2]):=⟨rfl,hps⟩);(have HZ:Hid (Below wc.heap.size wc _):=HZ.out.trans (hb.mono HZ.out.size));clear ho hc hps hb)
      |((with_reducible refine wpList_litI (op:=⟨some 138,_,_,_,_,_⟩) yaV 27 3 rfl i0 (.int .i64 0) Tryz.underlying27 HJ0.out HJ1.out HJ2.out rfl 2 rfl ?_);intro g w' hsl hbl;(have HL:=hsl);(have HQ4:=lh ((HQ4.out.up hbl.out nl).more' hbl.out.size));(have HZ:Hid (Below wc.heap.size wc _):=HZ.out.trans (hbl.out.mono HZ.out.size));clear hsl hbl)
      |(go_at_call 23;(with_reducible refine (HIN.out _ _ _ _ _ HQ4.out HL.out).mono ?_);rintro e w' ⟨rfl,r,rfl⟩;(have HZ:Hid (Below wc.heap.size wc _):=ya0 HZ.out r);clear HQ4 HL)
      |(with_reducible refine ybc (op:=⟨some 142,_,_,_,_,_⟩) yaV 29 (.tmp 18) rfl g18 0 rfl (cVw (x.setE A2 n2 k2)).toList _ (HK18.out _ HZ.out) Tryz.underlying29 rfl (ybF (x.setE A2 n2 k2)) ?_)
      |(go_at_call 24;(with_reducible refine (HCS.out _ HZ.out).1.mono ?_);rintro e w' ⟨v,rfl,ho,hb⟩;(obtain ⟨Q5,cQ5,hv,hc,hps,_⟩:=ho.shape);rw [show ([]:List Int).length=0 from rfl] at hv;subst hv;(have HZ:Hid (Below wc.heap.size wc _):=HZ.out.trans (hb.mono HZ.out.size));clear ho hc hps hb)
      |(with_reducible refine ybc (op:=⟨some 148,_,_,_,_,_⟩) yaV 29 (.tmp 18) rfl g18 0 rfl (cVw (x.setE A2 n2 k2)).toList _ (HK18.out _ HZ.out) Tryz.underlying29 rfl (ybF (x.setE A2 n2 k2)) ?_)
      |(go_at_call 19;(with_reducible refine (HCS.out _ HZ.out).2.mono ?_);rintro e w' ⟨v,rfl,ho,hb⟩;(obtain ⟨Q6,cQ6,hv,hc,hps,_⟩:=ho.shape);rw [show ([]:List Int).length=0 from rfl] at hv;subst hv;(have HZ:Hid (Below wc.heap.size wc _):=HZ.out.trans (hb.mono HZ.out.size));clear ho hc hps hb)
      |(with_reducible refine ybc (op:=⟨some 154,_,_,_,_,_⟩) yaV 29 (.tmp 19) rfl g19 0 rfl (cVw xd).toList _ (HK19.out _ HZ.out) Tryz.underlying29 rfl (ybF xd) ?_)
      |(go_at_call 19;(with_reducible refine (HCD.out _ HZ.out).mono ?_);rintro e w' ⟨v,rfl,ho,hb⟩;(obtain ⟨Q7,cQ7,hv,hc,hps,_⟩:=ho.shape);rw [show ([]:List Int).length=0 from rfl] at hv;subst hv;(have HZ:Hid (Below wc.heap.size wc _):=HZ.out.trans (hb.mono HZ.out.size));clear ho hc hps hb))
     go_ret;exact ⟨rfl,(HWW.out _ HZ.out).2.2.2⟩
 ·
  clear hx hG hxb;go_enter Tryz.func7,Tryz.ntmps7
  by_cases a1:(n:Int) < 1
  ·skip
   go_wp2_with (go_at_call 11;(with_reducible refine (HAW.out _ HB0.out).mono ?_);rintro e w9 ⟨rfl,hb9⟩;(have HB9:=lh hb9);clear hb9)
   go_ret;exact ⟨rfl,HB9.out⟩
  ·by_cases a2:(200:Int) < (n:Int)
   ·skip
    go_wp2_with (go_at_call 11;(with_reducible refine (HAW.out _ HB0.out).mono ?_);rintro e w9 ⟨rfl,hb9⟩;(have HB9:=lh hb9);clear hb9)
    go_ret;exact ⟨rfl,HB9.out⟩
   ·by_cases a3:peer < 0
    ·skip
     go_wp2_with (go_at_call 11;(with_reducible refine (HAW.out _ HB0.out).mono ?_);rintro e w9 ⟨rfl,hb9⟩;(have HB9:=lh hb9);clear hb9)
     go_ret;exact ⟨rfl,HB9.out⟩
    ·have a4:(12:Int)≤peer:=by omega
     go_wp2_with (go_at_call 11;(with_reducible refine (HAW.out _ HB0.out).mono ?_);rintro e w9 ⟨rfl,hb9⟩;(have HB9:=lh hb9);clear hb9)
     go_ret;exact ⟨rfl,HB9.out⟩
