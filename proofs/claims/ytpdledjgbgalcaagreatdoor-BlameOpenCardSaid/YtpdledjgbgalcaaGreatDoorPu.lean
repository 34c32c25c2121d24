import Derived.Test.YtpdledjgbgalcaaGreatDoorPt
namespace Go.Proofs.YtpdledjgbgalcaaGreatDoor
set_option maxRecDepth 100000
set_option maxHeartbeats 16000000
open Go.RowKit Go.Lib Go.Proofs.Tryz
set_option linter.unusedVariables false
set_option linter.unusedSimpArgs false
def drB (drs:List ByteArray) (s:ByteArray):Bool:=drs.any fun y=>decide (y=s)
theorem drB_iff {drs:List ByteArray} {s:ByteArray}:drB drs s=true↔s∈drs:=by simp [drB]
theorem containsT_any (A:Option Addr) (n c B:Nat) (xs:List ByteArray) (s:ByteArray) (w:World) (G:Sl fT w B A n xs) (hl:n<=9223372036854775807):
 Calls prog 173 #[.slice A n c,.string s] w fun e H=>e= .returned (.bool (drB xs s))/\w=H:=by
 obtain ⟨rfl,G⟩:=G
 by_cases h0:0 < xs.length
 ·obtain ⟨b,J,rfl,L,K⟩:=G h0;refine (Tryz.slices_Contains_string b J xs.length c xs s w nl hl (fun j hj=>?_)).mono ?_
  ·have h1:=K j xs[j] (List.getElem?_eq_getElem hj);rw [List.getD_eq_getElem?_getD,List.getElem?_eq_getElem hj];exact h1
  ·rintro e H ⟨rfl,rfl⟩;refine ⟨?_,rfl⟩;rw [List.take_length]
   have:containsS xs s=drB xs s:=by
    rw [Bool.eq_iff_iff,containsS_iff,drB_iff]
   rw [this]
 ·obtain rfl:xs=[]:=List.eq_nil_of_length_eq_zero om;refine (Tryz.slices_Contains_string_empty A c s w).mono ?_;rintro e H ⟨rfl,rfl⟩;exact ⟨rfl,rfl⟩
theorem cjv {w:World} {g:Nat} {x:Vw} {A:Option Addr} {n c H G:Nat} {t:TypeId} (h:w.heap[g]? =some (.cells (cJ x A n c H G) t (0,0))):w.cell? ⟨g,0,none⟩=some (.slice x.E.a x.E.n x.E.c)/\w.cell? ⟨g,1,none⟩=some (.slice x.V.a x.V.n x.V.c)/\w.cell? ⟨g,2,none⟩=some (.slice x.P.a x.P.n x.P.c)/\w.cell? ⟨g,3,none⟩=some (.int .i64 x.b)/\w.cell? ⟨g,4,none⟩=some (.int .i64 x.h)/\w.cell? ⟨g,5,none⟩=some (.slice x.D.a x.D.n x.D.c)/\w.cell? ⟨g,6,none⟩=some (.slice x.F.a x.F.n x.F.c):=by
 refine ⟨?_,?_,?_,?_,?_,?_,?_⟩<;>(rw [cell_of_row w _ _ _ _ _ h];rfl)
def opB (drs:List ByteArray) (pl:List PcX) (R:Rcp) (cn:Bool):Bool:= !drB drs R.s&&(!(pl.any fun p=>aqB R p.st p.ix p.xs p.ys)&&cn)
theorem opB_dropped {drs:List ByteArray} {pl:List PcX} {R:Rcp} {cn:Bool} (h:drB drs R.s=true):opB drs pl R cn=false:=by simp [opB,h]
theorem opB_shown {G:List ByteArray} {pl:List PcX} {R:Rcp} {H:Bool} {k:Nat} {p:PcX} (h:pl[k]? =some p) (ha:aqB R p.st p.ix p.xs p.ys=true):opB G pl R H=false:=by
 have:pl.any (fun p=>aqB R p.st p.ix p.xs p.ys)=true:=List.any_eq_true.2 ⟨p,List.mem_of_getElem? h,ha⟩;simp [opB,this]
theorem opB_rest {G:List ByteArray} {pl:List PcX} {R:Rcp} {H:Bool} (hd:drB G R.s=false) (h:∀(k:Nat) (p:PcX),pl[k]? =some p->aqB R p.st p.ix p.xs p.ys=false):opB G pl R H=H:=by
 have:pl.any (fun p=>aqB R p.st p.ix p.xs p.ys)=false:=by
  rw [List.any_eq_false];intro p hp;obtain ⟨k,J⟩:=List.getElem?_of_mem hp;rw [h k p J]
  decide
 simp [opB,this,hd]
theorem jopen_any (x:Vw) (es:List EnR) (vs:List VtR) (T O:List ByteArray) (aH:List Int) (aX:Nat->Rl) (s k kS kM:Nat) (l:List EnR) (A:Option Addr) (n c:Nat) (mN mS mM:Lit->Value) (aT:Int->Int->Bool) (N:Int->Int->Int->List PcX) (aV:Int->List (EnR × List Int)) (d q:Int) (R:Rcp) (st:ByteArray) (M:Int) (no an:ByteArray) (ps qs rs:List ByteArray) (B:Nat) (w:World) (hG:Glob w)
 (hJ:JSt w aX s k kS kM x l A n c mN mS mM aT N aV) (hV:VwIn w B x es vs T O aH) (hR:RcIn w B R ps qs rs) (hB:B<=w.heap.size) (ak:x.V.n<=1000/\x.P.n<=1000/\x.D.n<=1000) (aI:R.pa.n<=R.pa.c) (hd:int64 d) (hq:int64 q) (hh:int64 R.hd) (aN:∀p∈N d q R.hd,p.xs.length<=1000000/\p.ys.length<=1000000/\Byt p.xs) (aF:(N d q R.hd).length<=1000000):
 Calls prog 104 #[.pointer (some ⟨s+3,0,none⟩),.agg (cA d q R st M no an)] w fun e Y=>e= .returned (.bool (opB O (N d q R.hd) R (cnB T x.b x.h vs d q R st M no an ps qs rs)))/\Below w.heap.size w Y:=by
 obtain ⟨G,ae⟩:∃G:World,G=w.alloc (.cells (cA d q R st M no an) 39):=⟨_,rfl⟩
 have am:Below w.heap.size w G:=by rw [ae];exact bl
 have aL:G.heap.size=w.heap.size+1:=by rw [ae];simp
 have ar:G.heap[w.heap.size]? =some (.cells (cA d q R st M no an) 39 (0,0)):=by rw [ae];exact zy w _
 have ao:=hJ.on am;have HC:Hid (∀V,Below G.heap.size G V->V.heap[w.heap.size]? =some (.cells (cA d q R st M no an) 39 (0,0))/\V.heap[s+3]? =some (.cells (cJ x A n c (s+1) (s+2)) 168 (0,0))):=fun V L=>⟨(L.block _ (lb ar)).trans ar,(ao.on L).jd⟩
 have HX:Hid (∀V,Below G.heap.size G V->VwIn V B x es vs T O aH/\RcIn V B R ps qs rs/\Glob V/\B<=V.heap.size):=fun V L=>by
  have h1:Below w.heap.size w V:=bt am L;exact ⟨hV.up h1 hB,hR.up h1 hB,hG.on h1,Nat.le_trans hB h1.size⟩
 obtain ⟨cn,au⟩:=gx (cnB T x.b x.h vs d q R st M no an ps qs rs)
 have aW:Hid (∀V,Below G.heap.size G V->Calls prog 12 #[.agg (cVw x),.agg (cA d q R st M no an)] V fun e Y=>e= .returned (.bool cn)/\Below V.heap.size V Y):=fun V L=>by
  obtain ⟨h1,h2,h3,h4⟩:=HX.out V L;rw [<-au];exact bvalid_any x T vs d q R st M no an ps qs rs B V h3 h1.V h1.P h2 h4 ak.1 ak.2.1 aI
 have ac:Hid (∀V,Below G.heap.size G V->Calls prog 173 #[.slice x.D.a x.D.n x.D.c,.string R.s] V fun e Y=>e= .returned (.bool (drB O R.s))/\V=Y):=fun V L=>containsT_any _ _ _ B _ _ V (HX.out V L).1.D (by have:=ak.2.2;omega);obtain ⟨H,ai,ay,aS,aA⟩:=ao.shr d q R.hd hd hq hh;obtain ⟨PA,aU,aC,aQ,az,_⟩:=OwnN.shape fPc_len ay;have HPL:Hid ((N d q R.hd).length=H.length):=by show _=_;rw [<-ai];simp
 have HPM:Hid (H.length<=1000000):=by show _<=_;rw [<-HPL.out];exact aF
 have HPG:Hid (∀(j:Nat) (p:PcR),H[j]? =some p->(N d q R.hd)[j]? =some p.x):=fun j p h=>by rw [<-ai,List.getElem?_map,h];rfl
 have aE:Hid (∀(j:Nat) (p:PcX),(N d q R.hd)[j]? =some p->∃r:PcR,H[j]? =some r/\r.x=p):=fun j p h=>by
  rw [<-ai,List.getElem?_map] at h;obtain ⟨r,h1,h2⟩:=Option.map_eq_some_iff.1 h;exact ⟨r,h1,h2⟩
 have aG:Hid (∀V,Below G.heap.size G V->(Instr.lookup 165 (.map (some (s+1))) (pR d q R.hd) false).run prog V= .ok (.slice PA H.length aU) V):=fun V L=>by
  rw [<-aC];exact (ao.on L).shm.look (Maps.Keyed.of_law Rep.law) underlying165 (Rep.zero V) (kR_of hd hq hh)
 have aw:Hid (∀V,Below G.heap.size G V->∀p∈H,Calls prog 15 #[.agg (cA d q R st M no an),.agg #[.string p.x.st,.int .i64 p.x.ix,.slice p.d.a p.d.n p.d.c,.slice p.q.a p.q.n p.q.c]] V fun e Y=>e= .returned (.bool (aqB R p.x.st p.x.ix p.x.xs p.x.ys))/\Below V.heap.size V Y):=fun V L p hp=>by
  obtain ⟨h1,h2,h3,h4⟩:=HX.out V L;obtain ⟨⟨g1,_⟩,⟨g2,_⟩,g3,g4⟩:=aA p hp;have g5:p.x∈N d q R.hd:=by rw [<-ai];exact List.mem_map_of_mem hp
  obtain ⟨g6,g7,g8⟩:=aN _ g5;exact acquits_any d q R st M no an p.x.st p.x.ix p.d.a p.q.a p.d.n p.d.c p.q.n p.q.c G.heap.size p.x.xs p.x.ys V h3 g3 g4 (g1.up L nl) (g2.up L nl) L.size (by have:=g1.1;omega) (by have:=g2.1;omega) g8
 have aK:=lh az;have HB1:=lh am;have HS1:=lh aL;have HWE:=lh ae;have z:Hid (Below G.heap.size G G):=Below.refl _ _;obtain ⟨z0,z1,z2,z3,z4,z5⟩:=ybu (HC.out G z.out).1;obtain ⟨v0,v1,v2,v3,v4,v5,v6⟩:=cjv (HC.out G z.out).2;have v8:=cj8 (HC.out G z.out).2;rw [au];generalize N d q R.hd=pl at*;clear hG hJ hV hR hB ak aI hd hq hh aN aF am aL ar ao au ai ay aS aA aC aQ az ae;rcases Bool.eq_false_or_eq_true (drB O R.s) with hdr |hdr
 ·rw [hdr] at ac;have ah:Hid (opB O pl R cn=false):=opB_dropped hdr;clear hdr;go_enter func104,ntmps104;go_upto_region 1 with fail
  rw [<-HWE.out];go_quiet ((go_at_call 173;with_reducible exact Calls.quiet_of_same (same_of (ac.out _ (ybd z.out _)))));go_wp2_with fail;go_ret;exact ⟨by rw [ah.out];rfl,ybd HB1.out _⟩
 ·rw [hdr] at ac;have Z:Hid (∀(j:Nat) (p:PcR),j < 0->H[j]? =some p->aqB R p.x.st p.x.ix p.x.xs p.x.ys=false):=fun j p hj=>absurd hj om;have aY:=lh hdr;clear hdr;go_enter func104,ntmps104;go_upto_region 1 with fail
  rw [<-HWE.out];go_quiet ((go_at_call 173;with_reducible exact Calls.quiet_of_same (same_of (ac.out _ (ybd z.out _)))));go_wp2_with fail;generalize W:World.drewN G _=W2;have aa:Hid (Below G.heap.size G W2):=by show Below ..;rw [<-W];exact ybd z.out _
  clear z0 z1 z2 z3 z4 z5 v0 v1 v2 v3 v4 v5 v6 v8 W;obtain ⟨z0,z1,z2,z3,z4,z5⟩:=ybu (HC.out W2 aa.out).1;have v8:=cj8 (HC.out W2 aa.out).2;have aO:=fun a=>aG.out (W2.drewN a) (ybd aa.out _);unfold pR at aO;go_quiet (fail);generalize W:World.drewN W2 _=W3;have aD:Hid (Below G.heap.size G W3):=by show Below ..;rw [<-W];exact ybd aa.out _
  clear z0 z1 z2 z3 z4 z5 v8 W aO aa aG ac;go_wp2_with fail
  go_loopw [32] (fun i wr=>∃k:Nat,k<=H.length/\i= .int .i64 k/\Hid (∀(j:Nat) (p:PcR),j < k->H[j]? =some p->aqB R p.x.st p.x.ix p.x.xs p.x.ys=false)/\Hid (Below G.heap.size G wr)) (fun i _=>H.length - (intOf i).toNat)
  case atStart=>exact ⟨0,Nat.zero_le _,rfl,Z,aD⟩
  case round=>
   clear Z aD;obtain ⟨k,hk,rfl,Z,HBr⟩:=hrel;have aZ:=HPM.out
   by_cases hlt:k < H.length
   ·
    obtain ⟨b,J,p,rfl,a1,hp,ag⟩:=(aK.out.up HBr.out nl).at_ hlt;have a0:(k:Int) < (H.length:Int):=by omega
    have x0:wr.cell? ⟨b,J+k*4,none⟩=some (.string p.x.st):=by rw [show J+k*4=J+(k*4+0) by omega];exact ag 0 _ rfl
    have x1:wr.cell? ⟨b,J+k*4+1,none⟩=some (.int .i64 p.x.ix):=by rw [show J+k*4+1=J+(k*4+1) by omega];exact ag 1 _ rfl
    have x2:wr.cell? ⟨b,J+k*4+2,none⟩=some (.slice p.d.a p.d.n p.d.c):=by rw [show J+k*4+2=J+(k*4+2) by omega];exact ag 2 _ rfl
    have x3:wr.cell? ⟨b,J+k*4+3,none⟩=some (.slice p.q.a p.q.n p.q.c):=by rw [show J+k*4+3=J+(k*4+3) by omega];exact ag 3 _ rfl
    have HP:=lh hp;have aj:=lh (fun V L=>aw.out V L p (List.mem_of_getElem? hp));clear ag hp;go_upto_region 6 with fail
    obtain ⟨W4,W⟩:∃W4:World,W4=wr.alloc (.cells #[.string p.x.st,.int .i64 p.x.ix,.slice p.d.a p.d.n p.d.c,.slice p.q.a p.q.n p.q.c] 42):=⟨_,rfl⟩
    have aJ:W4.heap[wr.heap.size]? =some (.cells #[.string p.x.st,.int .i64 p.x.ix,.slice p.d.a p.d.n p.d.c,.slice p.q.a p.q.n p.q.c] 42 (0,0)):=by rw [W];exact zy wr _
    have U:Hid (Below G.heap.size G W4):=by show Below ..;rw [W];exact HBr.out.alloc HBr.out.size _
    rw [<-W];obtain ⟨q0,q1,q2,q3⟩:=c4rows aJ;have aM:=lh (yc7 (HC.out W4 U.out).1);obtain ⟨ab,ap⟩:=gx (aqB R p.x.st p.x.ix p.x.xs p.x.ys);rw [ap] at aj;have aP:=lh ap;clear W aJ x0 x1 x2 x3 ap aw
    cases ab with
    |true=>
     have ah:Hid (opB O pl R cn=false):=opB_shown (HPG.out _ _ HP.out) aP.out;go_wp2_with (first |(with_reducible refine wpList_load_mid rfl 39 (.tmp 3) rfl w.heap.size 0 rfl (cA d q R st M no an).toList _ aM.out underlying39 rfl (sizeAL d q R st M no an) ?_) |(go_at_call 15;(with_reducible refine (aj.out _ U.out).mono ?_);rintro e W5 ⟨rfl,af⟩;(have aq:Hid (Below G.heap.size G W5):=U.out.trans (Below.mono af U.out.size));clear af));go_ret;exact ⟨by rw [ah.out];rfl,bt HB1.out aq.out⟩
    |false=>
     go_wp2_with (first |(with_reducible refine wpList_load_mid rfl 39 (.tmp 3) rfl w.heap.size 0 rfl (cA d q R st M no an).toList _ aM.out underlying39 rfl (sizeAL d q R st M no an) ?_) |(go_at_call 15;(with_reducible refine (aj.out _ U.out).mono ?_);rintro e W5 ⟨rfl,af⟩;(have aq:Hid (Below G.heap.size G W5):=U.out.trans (Below.mono af U.out.size));clear af))
     go_roundw
     case rel=>exact ⟨k+1,by omega,by go_num,fun j r hj hr=>by
      by_cases h:j < k
      ·exact Z.out j r h hr
      ·obtain rfl:j=k:=by omega
       rw [HP.out] at hr;injection hr with hr
       rw [<-hr];exact aP.out,aq.out⟩
     case measure=>simp [intOf];omega
   ·
    obtain rfl:k=H.length:=by omega
    have HBx:=HBr
    have ah:Hid (opB O pl R cn=cn):=opB_rest aY.out (fun j p h=>by
     obtain ⟨r,h1,h2⟩:=aE.out j p h;rw [<-h2]
     exact Z.out j r (List.getElem?_eq_some_iff.1 h1).1 h1)
    clear aw aK HPG aE Z;go_upto_region 9 with fail
    refine rH (S:=(fun Y=>Y.heap[w.heap.size]? =some (.cells (cA d q R st M no an) 39 (0,0))/\Y.heap[s+3]? =some (.cells (cJ x A n c (s+1) (s+2)) 168 (0,0)))) ya9 (by exact HC.out _ yaz) (fun ax=>?_)
    (iterate 3 refine tkA ?_)
    refine tkH (i:=3) (v:=?o4v) (y:=(Or.inl ⟨by rfl,?o4y⟩)) (h:=?o4r);case o4y=>(intro w hSw;(try dsimp only at hSw);obtain ⟨v0,v1,v2,v3,v4,v5,v6⟩:=cjv hSw.2;go_simp;try (with_reducible rfl))
    try simp only [pt]
    refine tkH (i:=4) (v:=_) (y:=(yieldsIf_load_mid (by rfl) 39 (.tmp 3) rfl w.heap.size 0 (by rfl) (cA d q R st M no an).toList _ (fun _ h=>yc7 h.1) underlying39 rfl (sizeAL d q R st M no an))) (h:=?_)
    try simp only [pt]
    refine rd1 5 (fun K hK=>?_)
    (go_simp;go_at_call 12;(with_reducible refine (aW.out _ yaz).mono ?_);rintro e w9 ⟨rfl,aB⟩;(have HBy:Hid (Below G.heap.size G w9):=Below.trans yaz (Below.mono aB (by have:=HBx.out.size;exact this)));clear aB;go_wp2_with fail)
    refine hK.out _ _ (by first |exact HC.out _ HBy.out |exact HC.out _ yaz) (fun aR=>?_);clear hK K ax
    try simp only [pt]
    refine tkY 6 ?_;refine wpAnyH_done ya9 ?_ _;go_wp2_with fail;go_ret;exact ⟨by rw [ah.out];rfl,by first |exact bt HB1.out HBy.out |exact (bt HB1.out HBy.out).drew⟩
theorem foldl_set:∀(l:List Value) (k:Nat) (cs:Array Value),k+l.length<=cs.size->
 (((l.zipIdx k).foldl (fun cs (p:Value × Nat)=>cs.setIfInBounds (0+p.2) p.1) cs).size=cs.size/\∀i,((l.zipIdx k).foldl (fun cs (p:Value × Nat)=>cs.setIfInBounds (0+p.2) p.1) cs)[i]? =if k<=i/\i < k+l.length then l[i - k]? else cs[i]?)
 | [],k,cs,_=>by
   refine ⟨rfl,fun i=>?_⟩;rw [if_neg (by simp only [List.length_nil];omega)];rfl
 |v::l,k,cs,h=>by
  simp only [List.length_cons] at h;obtain ⟨h1,h2⟩:=foldl_set l (k+1) (cs.setIfInBounds (0+k) v) yba;rw [List.zipIdx_cons,List.foldl_cons];refine ⟨by rw [h1];simp,fun i=>?_⟩;rw [h2 i]
  by_cases hi:i=k
  ·subst hi;rw [if_neg om,if_pos sI,Nat.zero_add,Nat.sub_self,Array.getElem?_setIfInBounds,if_pos rfl,if_pos om];rfl
  ·by_cases G:k+1<=i/\i < k+1+l.length
   ·rw [if_pos G,if_pos yba];have:i - k=(i - (k+1))+1:=by omega
    rw [this,List.getElem?_cons_succ]
   ·rw [if_neg G,if_neg yba,Nat.zero_add,Array.getElem?_setIfInBounds_ne om]
theorem foldl_all (cs base:Array Value) (h:cs.size=base.size):cs.zipIdx.foldl (fun a (p:Value × Nat)=>a.setIfInBounds (0+p.2) p.1) base=cs:=by
 obtain ⟨l⟩:=cs;have G:l.length=base.size:=h;rw [<-Array.foldl_toList,Array.toList_zipIdx];obtain ⟨h1,h2⟩:=foldl_set l 0 base om;apply Array.ext_getElem?;intro i;rw [h2 i]
 by_cases hi:i < l.length
 ·rw [if_pos ⟨Nat.zero_le _,by omega⟩];simp
 ·rw [if_neg om,Array.getElem?_eq_none om,Array.getElem?_eq_none (by simpa using hi)]
theorem run_buildSlice1 {P:Program} {t e:TypeId} {i:TypeInfo} {z:Value} {s:Nat} (ht:P.underlying t=some (.slice e)) (hi:P.info? e=some i) (H:i.zero=some z) (hs:i.size=s) (J:z.cells.size=s) (h0:0 < s) (K:s<=16777216) (v:Value) (G:v.cells.size=s) (w:World):
 (Instr.buildSlice t 1 #[(0,v)]).run P w= .ok (.slice (some ⟨w.heap.size,0,none⟩) 1 1) (w.alloc (.cells v.cells e)):=by
 have h1:¬16777216 < s:=by omega
 have h2:¬s=0:=by omega
 have hf:Instr.fill (fun i=>some (i*s,s)) ((Array.range (1*s)).map (z.cells[· % z.cells.size]!)) [(0,v)]=some v.cells:=by
  unfold Instr.fill;simp only [Nat.zero_mul,G,ne_eq,not_true_eq_false,decide_false,Bool.false_or,Nat.zero_add,Array.size_map,Array.size_range,Nat.one_mul,Nat.lt_irrefl,gt_iff_lt];have:=foldl_all v.cells ((Array.range s).map (z.cells[· % z.cells.size]!)) (by simp [G]);simp only [Nat.zero_add] at this;unfold Instr.fill;exact congrArg some this
 simp only [Nat.one_mul] at hf;simp [Instr.buildSlice,run_underlying ht,sizeOf,typeInfo,zeroValue,hi,H,hs,h1,h2,hf,newRow]
theorem ybN {P:Program} {ops:Array Oper} {G:List Oper} {op:Oper} {a:Act} {w:World} {Q:Exit->Act->World->Prop} (L:Region.wanted op (yielded ops a.tmps)=true) (H:TypeId) (x:Operand) (O:op.op= .load H x)
 (b o:Nat) (J:a.eval x= .pointer (some ⟨b,o,none⟩)) (cs:List Value) (d:TypeDesc) (N:w.rangeAt b o cs)
 (K:P.underlying H=some d) (hd:d.isRow=true) (hi:(P.info? H).map (·.size)=some cs.length)
 (h:wpList P ops Q G (a.put op.dst (.agg cs.toArray)) w):wpList P ops Q (op::G) a w:=
 BigFrame.wpList_want L fun _ M=>wp_load_mid H x O b o J cs d N K hd hi (M _ _ h)
theorem ybP {P:Program} {ops:Array Oper} {G:List Oper} {o:Oper} {a:Act} {w:World} {Q:Exit->Act->World->Prop} (J:o.guard=none) (t:TypeId) (x:Operand) (W:o.op= .buildSlice t 1 #[(0,x)])
 (e:TypeId) (i:TypeInfo) (z:Value) (s:Nat) (ht:P.underlying t=some (.slice e)) (hi:P.info? e=some i) (T:i.zero=some z) (hs:i.size=s) (M:z.cells.size=s) (h0:0 < s) (L:s<=16777216) (cs:Array Value) (N:a.eval x= .agg cs) (U:cs.size=s)
 (h:wpList P ops Q G (a.put o.dst (.slice (some ⟨w.heap.size,0,none⟩) 1 1)) (w.alloc (.cells cs e))):wpList P ops Q (o::G) a w:=by
 refine wpList_plain J fun K O=>?_;have H:=run_buildSlice1 ht hi T hs M h0 L (.agg cs) U w;unfold Oper.wp;simp [execOp,W,N,H,Result.andThen];exact O _ _ h
structure AcR where
 a:Ac
 pa:Hd
 pb:Hd
 pc:Hd
abbrev AcR.R (r:AcR):Rcp:=rHd r.a.R r.pa r.pb r.pc
abbrev cAr (r:AcR):Array Value:=cA r.a.d r.a.q r.R r.a.st r.a.ix r.a.no r.a.an
abbrev fAr (r:AcR):List Value:=(cAr r).toList
theorem ycf:∀r,(fAr r).length=20:=fun _=>rfl
theorem fAr_one (r:AcR):∀u∈fAr r,u.oneCell'=true:=fun u G=>by
 simp only [fAr,cAr,cA,List.mem_cons,List.not_mem_nil,or_false] at G;rcases G with rfl |rfl |rfl |rfl |rfl |rfl |rfl |rfl |rfl |rfl |rfl |rfl |rfl |rfl |rfl |rfl |rfl |rfl |rfl |rfl<;>rfl
def ArO (w:World) (base:Nat) (r:AcR):Prop:=RcO w base r.R r.a.ps r.a.qs r.a.rs
theorem ArO.rcIn {w:World} {base:Nat} {r:AcR} (h:ArO w base r):RcIn w w.heap.size r.R r.a.ps r.a.qs r.a.rs/\r.R.pa.n<=r.R.pa.c:=by
 refine ⟨RcO.rcIn h,?_⟩;obtain ⟨A,c,G,K,_⟩:=h.1.shape;injection G with h7 h8 h9
 show r.pa.n<=r.pa.c;have J:r.pa.n=r.a.ps.length:=h8;have H:r.pa.c=c:=h9;omega
theorem ArO.on {w w':World} {base:Nat} {r:AcR} (h:ArO w base r) (hb:Below w.heap.size w w'):ArO w' base r:=RcO.on h hb
theorem ydN {α β:Type} {f:α->Value} {N:β->List Value} {s:Nat} {w:World} {base base':Nat} {e K:TypeId} {v J:Value} {xs:List α} {ys:List β} (h:Own f e w base v xs) (W:OwnN N s K w base' J ys) (H:e≠K):v.ownBlock=none∨v.ownBlock≠J.ownBlock:=by
 rcases h.2 with ⟨rfl,h0⟩ |⟨g,cap,Y,rfl,h1,O,h2⟩
 ·exact .inl rfl
 ·right
  rcases W.2 with ⟨rfl,h0⟩ |⟨U,M,L,rfl,Z,G,z⟩
  ·intro e;cases e
  ·intro e;have T:g=U:=by injection e
   subst T;rw [O] at G;injection G with G;injection G with _ ht _;exact H ht
theorem ArO.grown {α:Type} {f:α->List Value} {s:Nat} {t:TypeId} {w K:World} {base base':Nat} {v:Value} {xs:List α} {r:AcR} (h:ArO w base r) (J:OwnN f s t w base' v xs) (H:w.grownBy K v.ownBlock) (G:9≠t):ArO K base r:=
 ⟨World.ownsRow.kept h.1 H (ydN h.1 J G),World.ownsRow.kept h.2.1 H (ydN h.2.1 J G),World.ownsRow.kept h.2.2 H (ydN h.2.2 J G)⟩
structure CgR where
 r:AcR
 e:EnR
abbrev fCg (c:CgR):List Value:=fAr c.r++fEn c.e
theorem fCg_len:∀c,(fCg c).length=26:=fun _=>rfl
theorem fCg_one (c:CgR):∀u∈fCg c,u.oneCell'=true:=fun u hu=>by
 rcases List.mem_append.1 hu with h |h
 ·exact fAr_one _ u h
 ·exact fEn_one _ u h
theorem Tryz.infoCg:(prog.info? 109).map (fun i=>(i.zero.map (·.cells.size),i.size,i.bytes))=some (some 26,26,320):=by kernel_rfl
theorem Tryz.infoAr:(prog.info? 39).map (fun i=>(i.zero.map (·.cells.size),i.size,i.bytes))=some (some 20,20,248):=by kernel_rfl
theorem ycK {P:Program} {e:TypeId} {n s b:Nat} (h:(P.info? e).map (fun i=>(i.zero.map (·.cells.size),i.size,i.bytes))=some (some n,s,b)):∃i z,P.info? e=some i/\i.zero=some z/\i.size=s/\i.bytes=b/\z.cells.size=n:=by
 obtain ⟨i,h1,h2⟩:=Option.map_eq_some_iff.1 h;injection h2 with h3 h4;injection h4 with h5 h6;obtain ⟨z,G,H⟩:=Option.map_eq_some_iff.1 h3;exact ⟨i,z,h1,G,h5,h6,H⟩
abbrev nHd (l:List ByteArray):Hd:=⟨none,l.length,0⟩
def cnF (pubs:List ByteArray) (b h:Int) (vs:List VtR) (a:Ac):Bool:=cnB pubs b h vs a.d a.q (rHd a.R (nHd a.ps) (nHd a.qs) (nHd a.rs)) a.st a.ix a.no a.an a.ps a.qs a.rs
theorem cnB_hd (J:List ByteArray) (b h:Int) (vs:List VtR) (d q:Int) (R:Rcp) (st:ByteArray) (ix:Int) (no an:ByteArray) (ps qs rs:List ByteArray) {pa pb pc K H G:Hd} (h1:pb.n=H.n) (h2:pc.n=G.n):
 cnB J b h vs d q (rHd R pa pb pc) st ix no an ps qs rs=cnB J b h vs d q (rHd R K H G) st ix no an ps qs rs:=by
 obtain ⟨O,T,c1⟩:=pb;obtain ⟨N,W,c2⟩:=H;obtain ⟨L,Y,c3⟩:=pc;obtain ⟨M,U,c4⟩:=G;dsimp only at h1 h2;subst h1;subst h2;rfl
def opF (drs:List ByteArray) (pcs:Int->Int->Int->List PcX) (cn:Ac->Bool) (a:Ac):Bool:=opB drs (pcs a.d a.q a.R.hd) a.R (cn a)
def cgE (op:Ac->Bool) (e:EnR):Option (Ac × EnR):=if e.k=6/\(acX e).er=0/\op (acX e)=true then some (acX e,e) else none
def cgL (op:Ac->Bool) (l:List EnR):List (Ac × EnR):=l.filterMap (cgE op)
theorem yc5 {op:Ac->Bool} {l:List EnR} {k:Nat} {e:EnR} (h:l[k]? =some e):cgL op (l.take (k+1))=cgL op (l.take k)++(cgE op e).toList:=by
 unfold cgL;rw [List.take_add_one,h,List.filterMap_append];cases h:cgE op e<;>simp [h]
theorem ydO (op:Ac->Bool) (l:List EnR):(cgL op l).length<=l.length:=List.length_filterMap_le _ _
theorem acF_int (k d q:Int) (bs:List Int):int64 (acF k d q bs).d/\int64 (acF k d q bs).q/\int64 (acF k d q bs).R.hd:=by
 have G:int64 0:=⟨by decide,by decide⟩;unfold acF
 split
 ·split
  ·next h1=>
   split
   ·next h2=>
    simp only [numB,decide_eq_true_eq] at h1;unfold okT at h2;rw [Bool.and_eq_true] at h2;have H:=h2.2;unfold okR at H;rw [Bool.and_eq_true] at H;have J:=(yb2 H.2).1;refine ⟨⟨?_,?_⟩,⟨?_,?_⟩,?_,?_⟩
    ·show -9223372036854775808<=d;omega
    ·show d<=9223372036854775807;omega
    ·show -9223372036854775808<=q;omega
    ·show q<=9223372036854775807;omega
    ·exact Int.le_trans de J.1
    ·exact Int.le_trans J.2 de
   ·exact ⟨G,G,G⟩
  ·exact ⟨G,G,G⟩
 ·exact ⟨G,G,G⟩
theorem aqX_ok {e:EnR} (h1:Byt e.bs) (h2:e.bs.length<=1000000):(aqX e).x.xs.length<=1000000/\(aqX e).x.ys.length<=1000000/\Byt (aqX e).x.xs:=by
 have H:(dA4 e.bs).1.length<=e.bs.length:=rY_len;have G:(dA6 e.bs).1.length=(dA5 e.bs).1.toNat:=ycd _ _ _;have J:(dA5 e.bs).1<=((16:Nat):Int):=yds.2;unfold aqX aqF
 split
 ·split
  ·refine ⟨by dsimp only;omega,by dsimp only;omega,?_⟩;exact rY_rng h1
  ·exact ⟨by simp,by simp,fun _ h=>by cases h⟩
 ·exact ⟨by simp,by simp,fun _ h=>by cases h⟩
theorem pcsE_ok {l:List EnR} (hl:∀e∈l,Byt e.bs/\e.bs.length<=1000000) {d q y:Int}:∀p∈pcsE aqX l d q y,p.xs.length<=1000000/\p.ys.length<=1000000/\Byt p.xs:=fun p hp=>by
 obtain ⟨e,G,h⟩:=List.mem_filterMap.1 hp;unfold pcE at h
 split at h
 ·injection h with h
  subst h;exact aqX_ok (hl e G).1 (hl e G).2
 ·cases h
def CgR1 (op:Ac->Bool) (l:List EnR) (w wr:World) (v:Value):Prop:=
 Below w.heap.size w wr/\∃cs:List CgR,OwnN fCg 26 109 wr w.heap.size v cs/\(∀c∈cs,ArO wr w.heap.size c.r)/\cs.map (fun c=>(c.r.a,c.e))=cgL op l
def CgP (op:Ac->Bool) (l:List EnR) (w:World) (e:Ending) (w':World):Prop:=∃v,e= .returned v/\CgR1 op l w w' v
theorem CgR1.on {op:Ac->Bool} {l:List EnR} {w wr H:World} {v:Value} (h:CgR1 op l w wr v) (G:Below wr.heap.size wr H):CgR1 op l w H v:=by
 obtain ⟨h1,cs,h2,K,J⟩:=h;exact ⟨bt h1 G,cs,h2.on G,fun c L=>(K c L).on G,J⟩
def cgP38:Array (Nat × Operand):=#[(0,.tmp 36),(1,.tmp 37)]
theorem cgB38 (a:Act) (c:CgR) (h0:a.eval (.tmp 36)= .agg (cAr c.r)) (h1:a.eval (.tmp 37)= .agg (fEn c.e).toArray):prog.built 109 (cgP38.map fun (i,x)=>(i,a.eval x)).toList=some (fCg c).toArray:=by
 rw [Array.toList_map];show prog.built 109 [(0,a.eval (.tmp 36)),(1,a.eval (.tmp 37))]=_;rw [h0,h1]
 kernel_rfl
theorem charges_any (op:Ac->Bool) (a0:Nat->Rl) (s k kS kM:Nat) (x:Vw) (l:List EnR) (A:Option Addr) (n c:Nat) (mN mS mM:Lit->Value) (aQ:Int->Int->Bool) (aS:Int->Int->Int->List PcX) (aT:Int->List (EnR × List Int)) (B:Nat) (w:World) (hJ:JSt w a0 s k kS kM x l A n c mN mS mM aQ aS aT) (hE:∀e∈l,EnOk w B e/\e.bd.n<=1000000) (hB:B<=w.heap.size) (hn:l.length<=1000)
 (aC:∀V,Below w.heap.size w V->∀e∈l,∀r:AcR,r.a=acX e->(∃b,ArO V b r)->Calls prog 104 #[.pointer (some ⟨s+3,0,none⟩),.agg (cAr r)] V fun e w'=>e= .returned (.bool (op r.a))/\Below V.heap.size V w'):
 Calls prog 51 #[.pointer (some ⟨s+3,0,none⟩)] w (CgP op l w):=by
 obtain ⟨A1,c1,aV,a3,aA,_⟩:=OwnN.shape ydK hJ.ent.1;injection aV with g1 g2 g3;subst g1;subst g2;subst g3;have aW:=lh aA;have v7:=cj7 hJ.jd;have HE:=lh hE;have aD:=lh hB;have au:=lh aC;have aB:Hid (Below w.heap.size w w):=Below.refl _ _;obtain ⟨i0,z0,aH,aL,aG,aI,ay⟩:=ycK Tryz.infoCg;have aJ:=lh aH;have aE:=lh aL;have az:=lh aG;have a4:=lh aI;have aF:=lh ay;clear hJ hE hB aC a3 aA aH aL aG aI ay;go_enter func51,ntmps51
 go_wp2_with fail
 clear v7
 go_loopw [3,16] (fun v i wr=>∃k:Nat,k<=l.length/\i= .int .i64 k/\Hid (CgR1 op (l.take k) w wr v)) (fun _ i _=>l.length - (intOf i).toNat)
 case atStart=>exact ⟨0,Nat.zero_le _,rfl,aB.out,[],OwnN.nil,(fun _ h=>by cases h),rfl⟩
 case round=>
  clear aB;obtain ⟨k,hk,rfl,HR⟩:=hrel;have HBr:Hid (Below w.heap.size w wr):=HR.out.1
  by_cases hlt:k < l.length
  ·obtain ⟨b,G,e,rfl,bb,he,Z⟩:=(aW.out.up HBr.out nl).at_ hlt;have a8:(k:Int) < (l.length:Int):=by omega
   obtain ⟨dv,sq,ek,dy,bd,pr,bs⟩:=e;have x0:wr.cell? ⟨b,G+k*6,none⟩=some (.int .i64 dv):=by rw [show G+k*6=G+(k*6+0) by omega];exact Z 0 _ rfl
   have x1:wr.cell? ⟨b,G+k*6+1,none⟩=some (.int .i64 sq):=by rw [show G+k*6+1=G+(k*6+1) by omega];exact Z 1 _ rfl
   have x2:wr.cell? ⟨b,G+k*6+2,none⟩=some (.int .i64 ek):=by rw [show G+k*6+2=G+(k*6+2) by omega];exact Z 2 _ rfl
   have x3:wr.cell? ⟨b,G+k*6+3,none⟩=some (.int .i64 dy):=by rw [show G+k*6+3=G+(k*6+3) by omega];exact Z 3 _ rfl
   have x4:wr.cell? ⟨b,G+k*6+4,none⟩=some (.slice bd.a bd.n bd.c):=by rw [show G+k*6+4=G+(k*6+4) by omega];exact Z 4 _ rfl
   have x5:wr.cell? ⟨b,G+k*6+5,none⟩=some (.string pr):=by rw [show G+k*6+5=G+(k*6+5) by omega];exact Z 5 _ rfl
   have HG:=lh he;have HM:Hid ((⟨dv,sq,ek,dy,bd,pr,bs⟩:EnR)∈l):=List.mem_of_getElem? he;have aN:=lh (HE.out _ HM.out);clear Z he;go_upto_region 6 with fail
   obtain ⟨H,hW⟩:∃H:World,H=wr.alloc (.cells #[.int .i64 dv,.int .i64 sq,.int .i64 ek,.int .i64 dy,.slice bd.a bd.n bd.c,.string pr] 55):=⟨_,rfl⟩
   have ap:H.heap[wr.heap.size]? =some (.cells #[.int .i64 dv,.int .i64 sq,.int .i64 ek,.int .i64 dy,.slice bd.a bd.n bd.c,.string pr] 55 (0,0)):=by rw [hW];exact zy wr _
   have aM:Below wr.heap.size wr H:=by rw [hW];exact bl
   have O:=lh (HR.out.on aM);have aa:=lh ap;have a1:Hid (w.heap.size<=wr.heap.size):=HBr.out.size;rw [<-hW];obtain ⟨y0,y1,y2,y3,y4,y5⟩:=cen ap;clear hW ap aM x0 x1 x2 x3 x4 x5 HR HBr
   by_cases h6:ek=6
   ·subst h6;obtain ⟨a,ha⟩:∃a:Ac,acX ⟨dv,sq,6,dy,bd,pr,bs⟩=a:=⟨_,rfl⟩
    have ax:Hid (Calls prog 105 #[.agg #[.int .i64 dv,.int .i64 sq,.int .i64 6,.int .i64 dy,.slice bd.a bd.n bd.c,.string pr]] H (AcP a H)):=by
     have h:=ac_any ⟨dv,sq,6,dy,bd,pr,bs⟩ B H (aN.out.1.up O.out.1 aD.out) (lT aD.out O.out.1.size) aN.out.2;rw [ha] at h;exact h
    have HAE:=lh ha;clear ha
    by_cases h0:a.er=0
    ·
     obtain ⟨ob,aO⟩:=gx (op a);have ai:=lh aO;have be:(Value.int .i64 a.er)= .int .i64 0:=by rw [h0]
     have a5:=lh h0;clear aO h0
     cases ob with
     |true=>
      have Y:Hid (cgL op (l.take (k+1))=cgL op (l.take k)++[(a,⟨dv,sq,6,dy,bd,pr,bs⟩)]):=by
       show _=_;rw [yc5 HG.out];unfold cgE;rw [HAE.out,if_pos ⟨rfl,a5.out,ai.out⟩];rfl
      go_upto_region 8 with (first |(go_at_call 105;(with_reducible refine ax.out.mono ?_);rintro e W3 ⟨pa,pb,pc,rfl,ho,T⟩;(have ak:Hid (ArO W3 H.heap.size ⟨a,pa,pb,pc⟩):=ho);(have ac:=lh T);(have ae:Hid ((W3.alloc (.cells zA 39)).heap[W3.heap.size]? =some (.cells zA 39 (0,0))):=zy W3 _);clear ho T) |((with_reducible refine ybc (o:=⟨none,_,_,_,_,_⟩) rfl 39 (.tmp 7) (.tmp 26) rfl W3.heap.size 39 _ _ rfl rfl ae.out (ydJ a.d a.q (rHd a.R pa pb pc) a.st a.ix a.no a.an) rfl (ydV a.d a.q (rHd a.R pa pb pc) a.st a.ix a.no a.an) ?_);intro L U z;(have J:Hid (Below W3.heap.size W3 L):=((Below.refl _ W3).alloc nl (.cells zA 39)).trans (z.out.below sI (fun i hi=>by subst hi;omega)));(have M:Hid (Below H.heap.size H L):=bt ac.out J.out)))
      have aj:Hid (ArO L H.heap.size ⟨a,pa,pb,pc⟩):=RcO.on ak.out J.out;have W:Hid (L.heap[wr.heap.size]? =some (.cells #[.int .i64 dv,.int .i64 sq,.int .i64 6,.int .i64 dy,.slice bd.a bd.n bd.c,.string pr] 55 (0,0))):=(M.out.block _ (lb aa.out)).trans aa.out;have aw:Hid (wr.heap.size<=H.heap.size):=Nat.le_of_lt (lb aa.out);have ar:=lh (yc7 U.out);have N:=au.out L (bt O.out.1 M.out) _ HM.out ⟨a,pa,pb,pc⟩ HAE.out.symm ⟨_,aj.out⟩;rw [show op (AcR.mk a pa pb pc).a=_ from ai.out] at N;have N:=lh N;go_upto_region 9 with (first |(with_reducible refine ybN (op:=⟨some 32,_,_,_,_,_⟩) ya9 39 (.tmp 7) rfl W3.heap.size 0 rfl (cA a.d a.q (rHd a.R pa pb pc) a.st a.ix a.no a.an).toList _ ar.out underlying39 rfl (sizeAL _ _ _ _ _ _ _) ?_) |(go_at_call 104;(with_reducible refine N.out.mono ?_);rintro e W5 ⟨rfl,K⟩;(have ah:=lh K);(have HG5:Hid (W5.heap[W3.heap.size]? =some (.cells (cA a.d a.q (rHd a.R pa pb pc) a.st a.ix a.no a.an) 39 (0,0))/\W5.heap[wr.heap.size]? =some (.cells #[.int .i64 dv,.int .i64 sq,.int .i64 6,.int .i64 dy,.slice bd.a bd.n bd.c,.string pr] 55 (0,0))):=⟨(K.block _ (lb U.out)).trans U.out,(K.block _ (lb W.out)).trans W.out⟩);clear K))
      clear y0 y1 y2 y3 y4 y5;obtain ⟨y0,y1,y2,y3,y4,y5⟩:=cen HG5.out.2;have aX:=lh (O.out.on (bt M.out ah.out));obtain ⟨aK,cs,ao,aq,af⟩:=aX.out
      have aR:cs.length<=k:=by
       have h1:cs.length=(cgL op (l.take k)).length:=by rw [<-af];simp
       have h2:=ydO op (l.take k);have h3:(l.take k).length<=k:=List.length_take_le _ _;omega
      have a2:Hid ((cs.length+1)*320<=140737488355328):=by show _<=_;omega
      have aY:Hid (cs.length+1<=maxLen):=by show _<=_;unfold maxLen;omega
      have ag:=lh ao;have a7:=lh aq;have aZ:=lh af;have HBW:=lh aK;have a6:=lh (yc7 HG5.out.1);have aP:Hid (ArO W5 w.heap.size ⟨a,pa,pb,pc⟩):=RcO.low (aj.out.on ah.out) (lT a1.out aw.out);clear ao aq af aK aR
      go_wp2_with (first
       |(with_reducible refine wpList_load_mid rfl 39 (.tmp 7) rfl W3.heap.size 0 rfl (cA a.d a.q (rHd a.R pa pb pc) a.st a.ix a.no a.an).toList _ a6.out underlying39 rfl (sizeAL _ _ _ _ _ _ _) ?_)
       |(with_reducible refine ybi (o:=⟨some 38,_,_,_,_,_⟩) rfl 109 cgP38 ya9 (fCg ⟨⟨a,pa,pb,pc⟩,⟨dv,sq,6,dy,bd,pr,bs⟩⟩).toArray (cgB38 _ ⟨⟨a,pa,pb,pc⟩,⟨dv,sq,6,dy,bd,pr,bs⟩⟩ rfl rfl) ?_)
       |(with_reducible refine ybP (o:=⟨some 39,_,_,_,_,_⟩) rfl 104 (.tmp 38) rfl 109 i0 z0 26 underlying104 aJ.out aE.out az.out aF.out om om (fCg ⟨⟨a,pa,pb,pc⟩,⟨dv,sq,6,dy,bd,pr,bs⟩⟩).toArray rfl rfl ?_)
       |((with_reducible refine ycb (o:=⟨some 40,_,_,_,_,_⟩) (f:=fCg) fCg_len om rfl (.tmp 35) (.tmp 39) 104 rfl 109 i0 z0 320 underlying104 aJ.out aE.out az.out a4.out aF.out u3 cs w.heap.size rfl ag.out ⟨⟨a,pa,pb,pc⟩,⟨dv,sq,6,dy,bd,pr,bs⟩⟩ 1 rfl fCg_one a2.out aY.out HBW.out.size ?_);intro v6 W6 aU am a9))
      go_roundw
      case rel=>exact ⟨k+1,by omega,by go_num,OwnN.below ag.out HBW.out nl HBW.out.size am.out,cs++[⟨⟨a,pa,pb,pc⟩,⟨dv,sq,6,dy,bd,pr,bs⟩⟩],aU.out,(fun c hc=>by
       rcases List.mem_append.1 hc with h |h
       ·exact ArO.grown (a7.out c h) ag.out am.out de
       ·obtain rfl:c=⟨⟨a,pa,pb,pc⟩,⟨dv,sq,6,dy,bd,pr,bs⟩⟩:=by simpa using h
        exact ArO.grown aP.out ag.out am.out de),by rw [Y.out,List.map_append,aZ.out];rfl⟩
      case measure=>simp [intOf];omega
     |false=>
      have Y:Hid (cgL op (l.take (k+1))=cgL op (l.take k)):=by
       show _=_;rw [yc5 HG.out];unfold cgE;rw [HAE.out,if_neg (fun h=>by have:=h.2.2;rw [ai.out] at this;cases this)];simp
      go_upto_region 8 with (first |(go_at_call 105;(with_reducible refine ax.out.mono ?_);rintro e W3 ⟨pa,pb,pc,rfl,ho,T⟩;(have ak:Hid (ArO W3 H.heap.size ⟨a,pa,pb,pc⟩):=ho);(have ac:=lh T);(have ae:Hid ((W3.alloc (.cells zA 39)).heap[W3.heap.size]? =some (.cells zA 39 (0,0))):=zy W3 _);clear ho T) |((with_reducible refine ybc (o:=⟨none,_,_,_,_,_⟩) rfl 39 (.tmp 7) (.tmp 26) rfl W3.heap.size 39 _ _ rfl rfl ae.out (ydJ a.d a.q (rHd a.R pa pb pc) a.st a.ix a.no a.an) rfl (ydV a.d a.q (rHd a.R pa pb pc) a.st a.ix a.no a.an) ?_);intro L U z;(have J:Hid (Below W3.heap.size W3 L):=((Below.refl _ W3).alloc nl (.cells zA 39)).trans (z.out.below sI (fun i hi=>by subst hi;omega)));(have M:Hid (Below H.heap.size H L):=bt ac.out J.out)))
      have aj:Hid (ArO L H.heap.size ⟨a,pa,pb,pc⟩):=RcO.on ak.out J.out;have W:Hid (L.heap[wr.heap.size]? =some (.cells #[.int .i64 dv,.int .i64 sq,.int .i64 6,.int .i64 dy,.slice bd.a bd.n bd.c,.string pr] 55 (0,0))):=(M.out.block _ (lb aa.out)).trans aa.out;have aw:Hid (wr.heap.size<=H.heap.size):=Nat.le_of_lt (lb aa.out);have ar:=lh (yc7 U.out);have N:=au.out L (bt O.out.1 M.out) _ HM.out ⟨a,pa,pb,pc⟩ HAE.out.symm ⟨_,aj.out⟩;rw [show op (AcR.mk a pa pb pc).a=_ from ai.out] at N;have N:=lh N;go_wp2_with (first |(with_reducible refine ybN (op:=⟨some 32,_,_,_,_,_⟩) ya9 39 (.tmp 7) rfl W3.heap.size 0 rfl (cA a.d a.q (rHd a.R pa pb pc) a.st a.ix a.no a.an).toList _ ar.out underlying39 rfl (sizeAL _ _ _ _ _ _ _) ?_) |(go_at_call 104;(with_reducible refine N.out.mono ?_);rintro e W5 ⟨rfl,K⟩;(have ah:=lh K);(have HG5:Hid (W5.heap[W3.heap.size]? =some (.cells (cA a.d a.q (rHd a.R pa pb pc) a.st a.ix a.no a.an) 39 (0,0))/\W5.heap[wr.heap.size]? =some (.cells #[.int .i64 dv,.int .i64 sq,.int .i64 6,.int .i64 dy,.slice bd.a bd.n bd.c,.string pr] 55 (0,0))):=⟨(K.block _ (lb U.out)).trans U.out,(K.block _ (lb W.out)).trans W.out⟩);clear K));go_roundw;case rel=>exact ⟨k+1,by omega,by go_num,by rw [show CgR1 op (l.take (k+1))=CgR1 op (l.take k) by funext w1 w2 v;unfold CgR1;rw [Y.out]];exact O.out.on (bt M.out ah.out)⟩
      case measure=>simp [intOf];omega
    ·
     have Y:Hid (cgL op (l.take (k+1))=cgL op (l.take k)):=by
      show _=_;rw [yc5 HG.out];unfold cgE;rw [HAE.out,if_neg (fun h=>h0 h.2.1)];simp
     have ba:(a.er==0)=false:=by simp [h0]
     clear h0;go_wp2_with (first |(go_at_call 105;(with_reducible refine ax.out.mono ?_);rintro e W3 ⟨pa,pb,pc,rfl,ho,T⟩;(have ak:Hid (ArO W3 H.heap.size ⟨a,pa,pb,pc⟩):=ho);(have ac:=lh T);(have ae:Hid ((W3.alloc (.cells zA 39)).heap[W3.heap.size]? =some (.cells zA 39 (0,0))):=zy W3 _);clear ho T) |((with_reducible refine ybc (o:=⟨none,_,_,_,_,_⟩) rfl 39 (.tmp 7) (.tmp 26) rfl W3.heap.size 39 _ _ rfl rfl ae.out (ydJ a.d a.q (rHd a.R pa pb pc) a.st a.ix a.no a.an) rfl (ydV a.d a.q (rHd a.R pa pb pc) a.st a.ix a.no a.an) ?_);intro L U z;(have J:Hid (Below W3.heap.size W3 L):=((Below.refl _ W3).alloc nl (.cells zA 39)).trans (z.out.below sI (fun i hi=>by subst hi;omega)));(have M:Hid (Below H.heap.size H L):=bt ac.out J.out)));go_roundw;case rel=>exact ⟨k+1,by omega,by go_num,by rw [show CgR1 op (l.take (k+1))=CgR1 op (l.take k) by funext w1 w2 v;unfold CgR1;rw [Y.out]];exact O.out.on M.out⟩
     case measure=>simp [intOf];omega
   ·
    have Y:Hid (cgL op (l.take (k+1))=cgL op (l.take k)):=by
     show _=_;rw [yc5 HG.out];unfold cgE;rw [if_neg (fun h=>h6 h.1)];simp
    have bc:(ek != 6)=true:=by simp [h6]
    clear h6;go_wp2_with fail;go_roundw;case rel=>exact ⟨k+1,by omega,by go_num,by rw [show CgR1 op (l.take (k+1))=CgR1 op (l.take k) by funext w1 w2 v;unfold CgR1;rw [Y.out]];exact O.out⟩
    case measure=>simp [intOf];omega
  ·obtain rfl:k=l.length:=by omega
   rw [List.take_length] at HR;go_wp2_with fail;go_ret;exact ⟨_,rfl,HR.out⟩
theorem ydf {H:List EnR} {e:EnR} (h:e∈frE H):e∈H:=by
 have J:∀(l G:List EnR),e∈l.foldl putE G->e∈G∨e∈l:=by
  intro l
  induction l with
  |nil=>intro G h;exact .inl h
  |cons a t K=>
   intro G h;rcases K _ h with h |h
   ·rcases putE_mem h with h |h
    ·exact .inl h
    ·exact .inr (h▸List.mem_cons_self)
   ·exact .inr (List.mem_cons_of_mem _ h)
 rcases J H [] h with h |h
 ·cases h
 ·exact h
theorem yci (es:List EnR):(frE es).length<=es.length:=by
 have:=ydd es es.length;rwa [List.take_length] at this
theorem VwIn.more {w:World} {B O:Nat} {x:Vw} {M:List EnR} {vs:List VtR} {H J:List ByteArray} {K:List Int} (h:VwIn w B x M vs H J K) (G:B<=O):VwIn w O x M vs H J K:=
 ⟨⟨h.E.1.more G,fun e L=>⟨(h.E.2 e L).1.more' G,(h.E.2 e L).2⟩⟩,⟨h.V.1.more G,fun v N=>⟨(h.V.2 v N).1.more' G,(h.V.2 v N).2⟩⟩,h.P.more' G,h.D.more' G,h.F.more' G,h.cs⟩
def VwOk (x:Vw) (es:List EnR):Prop:=x.E.n<=1000/\(x.V.n<=1000/\x.P.n<=1000/\x.D.n<=1000)/\∀e∈es,e.bd.n<=1000000
def opV (x:Vw) (es:List EnR) (vs:List VtR) (pubs drs:List ByteArray):Ac->Bool:=opF drs (pcsE aqX (frE es)) (cnF pubs x.b x.h vs)
theorem pcsE_len (l:List EnR) (d q y:Int):(pcsE aqX l d q y).length<=l.length:=List.length_filterMap_le _ _
theorem charges_of (T:Nat->Rl) (s k Y kM:Nat) (x:Vw) (G:List EnR) (vs:List VtR) (H K:List ByteArray) (W:List Int) (A:Option Addr) (n c:Nat) (mN Z z:Lit->Value) (N:Int->List (EnR × List Int)) (B:Nat) (w:World) (hG:Glob w)
 (hJ:JSt w T s k Y kM x (frE G) A n c mN Z z (hasE (frE G)) (pcsE aqX (frE G)) N) (M:VwIn w B x G vs H K W) (hB:B<=w.heap.size) (O:VwOk x G):
 Calls prog 51 #[.pointer (some ⟨s+3,0,none⟩)] w (CgP (opV x G vs H K) (frE G) w):=by
 have ac:G.length=x.E.n:=M.E.1.1;have aa:=yci G;refine charges_any (opV x G vs H K) T s k Y kM x (frE G) A n c mN Z z (hasE (frE G)) (pcsE aqX (frE G)) N B w hJ (fun e J=>⟨M.E.2 e (ydf J),O.2.2 e (ydf J)⟩) hB (by have:=O.1;omega) (fun V U e J r hr ho=>?_);obtain ⟨b,ho⟩:=ho;have hi:=ho.rcIn;obtain ⟨i1,i2,i3⟩:=acF_int e.k e.dv e.sq e.bs;have L:r.a=acF e.k e.dv e.sq e.bs:=hr
 have h0:=jopen_any x G vs H K W T s k Y kM (frE G) A n c mN Z z (hasE (frE G)) (pcsE aqX (frE G)) N r.a.d r.a.q r.R r.a.st r.a.ix r.a.no r.a.an r.a.ps r.a.qs r.a.rs V.heap.size V (hG.on U) (hJ.on U) ((M.up U hB).more (lT hB U.size)) hi.1 nl O.2.1 hi.2 (by rw [L];exact i1) (by rw [L];exact i2) (by show int64 r.a.R.hd;rw [L];exact i3)
  (pcsE_ok (fun e J=>⟨(M.E.2 e (ydf J)).2.1,by have h1:=(M.E.2 e (ydf J)).1.1;have h2:=O.2.2 e (ydf J);omega⟩)) (by have h1:=pcsE_len (frE G) r.a.d r.a.q r.R.hd;have h2:=O.1;omega)
 have h5:cnF H x.b x.h vs r.a=cnB H x.b x.h vs r.a.d r.a.q r.R r.a.st r.a.ix r.a.no r.a.an r.a.ps r.a.qs r.a.rs:=cnB_hd _ _ _ _ _ _ _ _ _ _ _ _ _ _ hi.1.2.1.1 hi.1.2.2.1;unfold opV opF;rw [h5];exact h0
theorem judge_of (x:Vw) (K:List EnR) (vs:List VtR) (L O:List ByteArray) (T:List Int) (B:Nat) (w:World) (N:VwIn w B x K vs L O T) (H:B<=w.heap.size) (M:VwOk x K):
 Calls prog 50 #[.agg (cVw x)] w (JdP aqX mtX x K w):=
 judge_any aqX mtX x K B w N.E H M.1 (fun e G _=>⟨fun V J=>aq_any e B V ((N.E.2 e G).up J H) (lT H J.size) (M.2.2 e G),aqF_int e.k e.bs⟩)
  (fun e G _ V J=>mt_any e B V ((N.E.2 e G).up J H) (lT H J.size) (M.2.2 e G))
def OpR1 (al:List Ac) (w:World) (b:Nat) (wr:World) (v:Value):Prop:=
 Below w.heap.size w wr/\∃rs:List AcR,OwnN fAr 20 39 wr w.heap.size v rs/\(∀r∈rs,ArO wr b r)/\rs.map (·.a)=al
def OpP (al:List Ac) (w:World) (e:Ending) (w':World):Prop:=∃v,e= .returned v/\OpR1 al w w.heap.size w' v
def opnV (x:Vw) (es:List EnR) (vs:List VtR) (pubs drs:List ByteArray):List Ac:=(cgL (opV x es vs pubs drs) (frE es)).map (·.1)
abbrev zCg:Array Value:=#[.int .i64 0,.int .i64 0,.int .i64 0,.int .i64 0,.string ⟨#[]⟩,.int .i64 0,.int .i64 0,.int .i64 0,.int .i64 0,.int .i64 0,.int .i64 0,.string ⟨#[]⟩,.slice none 0 0,.int .i64 0,.slice none 0 0,.slice none 0 0,.string ⟨#[]⟩,.int .i64 0,.string ⟨#[]⟩,.string ⟨#[]⟩,.int .i64 0,.int .i64 0,.int .i64 0,.int .i64 0,.slice none 0 0,.string ⟨#[]⟩]
theorem rangeCg {w:World} {b:Nat} {t:TypeId} {c:CgR} (h:w.heap[b]? =some (.cells (fCg c).toArray t (0,0))):w.rangeAt b 0 (fAr c.r):=fun j v G=>by
 rw [Nat.zero_add,cell_of_row w b j _ _ _ h,List.getElem?_toArray,List.getElem?_append_left (List.getElem?_eq_some_iff.1 G).1];exact G
theorem fCg_all (c:CgR):((fCg c).toArray).all (·.oneCell')=true:=by
 rw [Array.all_eq_true'];intro u hu;exact fCg_one c u (by simpa using hu)
theorem sizeCg (c:CgR):(prog.info? 109).map (·.size)=some (fCg c).toArray.size:=by kernel_rfl
theorem sizeCgL (c:CgR):(prog.info? 109).map (·.size)=some (fCg c).length:=by kernel_rfl
theorem ycv (r:AcR):(prog.info? 39).map (·.size)=some (fAr r).length:=by kernel_rfl
theorem open_any (x:Vw) (G:List EnR) (vs:List VtR) (H K:List ByteArray) (af:List Int) (B:Nat) (w:World) (hG:Glob w) (hV:VwIn w B x G vs H K af) (hB:B<=w.heap.size) (hk:VwOk x G):
 Calls prog 17 #[.agg (cVw x)] w (OpP (opnV x G vs H K) w):=by
 obtain ⟨J,W⟩:∃J:World,J=w.alloc (.cells (cVw x) 29):=⟨_,rfl⟩
 have O:Below w.heap.size w J:=by rw [W];exact bl
 have aw:J.heap[w.heap.size]? =some (.cells (cVw x) 29 (0,0)):=by rw [W];exact zy w _
 obtain ⟨v0,v1,v2,v3,v4,v5,v6⟩:=ybo aw;have aN:=lh (judge_of x G vs H K af B J (hV.up O hB) (lT hB O.size) hk)
 have aO:Hid (∀V N k kS kM A n c mN mS mM,Below J.heap.size J V->JSt V N J.heap.size k kS kM x (frE G) A n c mN mS mM (hasE (frE G)) (pcsE aqX (frE G)) (mtsE mtX (frE G))->Calls prog 51 #[.pointer (some ⟨J.heap.size+3,0,none⟩)] V (CgP (opV x G vs H K) (frE G) V)):=fun V N k kS kM A n c mN mS mM hb hJ=>by
  have h1:Below w.heap.size w V:=bt O hb;exact charges_of N _ k kS kM x G vs H K af A n c mN mS mM _ B V (hG.on h1) hJ (hV.up h1 hB) (lT hB h1.size) hk
 obtain ⟨i0,z0,aA,aD,az,aB,ai⟩:=ycK Tryz.infoAr;have aC:=lh aA;have au:=lh aD;have aj:=lh az;have a0:=lh aB;have ax:=lh ai;have HB1:=lh O;have HWE:=lh W;obtain ⟨cl,Y⟩:=gx (cgL (opV x G vs H K) (frE G))
 have HLN:Hid (cl.length<=1000):=by
  show _<=_;rw [<-Y];have h1:=ydO (opV x G vs H K) (frE G);have h2:=yci G;have h3:G.length=x.E.n:=hV.E.1.1;have h4:=hk.1;omega
 have aH:=lh Y;unfold opnV;rw [Y];clear hG hV hB hk O aw aA aD az aB ai W Y;go_enter func17,ntmps17;go_upto_region 2 with fail
 rw [<-HWE.out]
 go_wp2_with (first
  |(go_at_call 50;(with_reducible refine aN.out.mono ?_);rintro e V2 ⟨rfl,ah,N,k,kS,kM,A,n,c,mN,mS,mM,hJ⟩;(have a2:=lh (aO.out V2 N k kS kM A n c mN mS mM ah hJ));(have ao:=lh ah);clear ah hJ)
  |(go_at_call 51;(with_reducible refine a2.out.mono ?_);rintro e L ⟨v,rfl,aq,cs,ho,hr,hm⟩;(obtain ⟨CA,cc,hv,hc,ak,aP⟩:=OwnN.shape fCg_len ho);subst hv;(have aT:=lh ak);(have aM:=lh hr);(have HMM:Hid (cs.map (fun c=>(c.r.a,c.e))=cl):=hm.trans aH.out);(have aI:Hid (Below J.heap.size J L):=bt ao.out aq);(have aW:Hid (J.heap.size<=V2.heap.size):=ao.out.size);(have HCL:Hid (cs.length=cl.length):=by (show _=_;rw [<-HMM.out];simp));clear aq ho hr hm hc ak aP))
 clear v0 v1 v2 v3 v4 v5 v6;have ap:Hid (Below w.heap.size w L):=bt HB1.out aI.out;have ar:Hid (Below L.heap.size L L):=Below.refl _ _;have a3:cs.length<=1000:=by have h1:=HLN.out;have h2:=HCL.out;omega
 have aJ:Hid (w.heap.size<=V2.heap.size):=lT HB1.out.size aW.out
 go_loopw [3,10] (fun v i wr=>∃k:Nat,k<=cs.length/\i= .int .i64 k/\Hid (OpR1 ((cl.take k).map (·.1)) L w.heap.size wr v)) (fun _ i _=>cs.length - (intOf i).toNat)
 case atStart=>exact ⟨0,Nat.zero_le _,rfl,ar.out,[],OwnN.nil,(fun _ h=>by cases h),rfl⟩
 case round=>
  clear ar;obtain ⟨k,hk,rfl,HR⟩:=hrel;have HBr:Hid (Below L.heap.size L wr):=HR.out.1
  by_cases hlt:k < cs.length
  ·obtain ⟨b,am,c1,rfl,a6,ag,ay⟩:=(aT.out.up HBr.out nl).at_ hlt;have a4:(k:Int) < (cs.length:Int):=by omega
   have HG:=lh ag;have a1:Hid (wr.rangeAt b (am+k*26) (fCg c1)):=fun j v hv=>by rw [Nat.add_assoc];exact ay j v hv
   have aX:Hid (ArO wr w.heap.size c1.r):=RcO.low ((aM.out c1 (List.mem_of_getElem? ag)).on HBr.out) aJ.out;have aU:Hid ((wr.alloc (.cells zCg 109)).heap[wr.heap.size]? =some (.cells zCg 109 (0,0))):=zy wr _;obtain ⟨ac,rs,aa,z,T⟩:=HR.out
   have aL:rs.length<=k:=by
    have h1:rs.length=((cl.take k).map (·.1)).length:=by rw [<-T];simp
    simp at h1;omega
   have aY:Hid ((rs.length+1)*248<=140737488355328):=by show _<=_;omega
   have aV:Hid (rs.length+1<=maxLen):=by show _<=_;unfold maxLen;omega
   have aQ:=lh aa;have aK:=lh z;have aG:=lh T;have HBW:=lh ac;clear ay ag aa z T ac aL HR
   go_upto_region 5 with (first
    |(with_reducible refine wpList_load_mid rfl 109 (.tmp 12) rfl b (am+k*26) rfl (fCg c1) _ a1.out underlying109 rfl (sizeCgL c1) ?_)
    |((with_reducible refine ybc (o:=⟨none,_,_,_,_,_⟩) rfl 109 (.tmp 5) (.tmp 13) rfl wr.heap.size 109 _ _ rfl rfl aU.out (sizeCg c1) rfl (fCg_all c1) ?_);intro W4 aZ aF;(have Z:Hid (Below wr.heap.size wr W4):=((Below.refl _ wr).alloc nl (.cells zCg 109)).trans (aF.out.below sI (fun i hi=>by subst hi;omega)))))
   have aR:=lh (rangeCg aZ.out);have M:=lh (aQ.out.on Z.out);have aE:=lh (aX.out.on Z.out);have U:=lh (bt HBW.out Z.out)
   go_wp2_with (first
    |(with_reducible refine wpList_load_mid rfl 39 (.tmp 15) rfl wr.heap.size 0 rfl (fAr c1.r) _ aR.out underlying39 rfl (ycv c1.r) ?_)
    |(with_reducible refine ybP (o:=⟨some 17,_,_,_,_,_⟩) rfl 56 (.tmp 16) rfl 39 i0 z0 20 underlying56 aC.out au.out aj.out ax.out om om (fAr c1.r).toArray rfl rfl ?_)
    |((with_reducible refine ycb (o:=⟨some 18,_,_,_,_,_⟩) (f:=fAr) ycf om rfl (.tmp 14) (.tmp 17) 56 rfl 39 i0 z0 248 underlying56 aC.out au.out aj.out a0.out ax.out u3 rs L.heap.size rfl M.out c1.r 1 rfl fAr_one aY.out aV.out U.out.size ?_);intro v6 W6 aS ae a5))
   go_roundw
   case rel=>exact ⟨k+1,by omega,by go_num,OwnN.below M.out U.out nl U.out.size ae.out,rs++[c1.r],aS.out,(fun r hr=>by
    rcases List.mem_append.1 hr with h |h
    ·exact ArO.grown ((aK.out r h).on Z.out) M.out ae.out de
    ·obtain rfl:r=c1.r:=by simpa using h
     exact ArO.grown aE.out M.out ae.out de),by
    have h1:cl[k]? =some (c1.r.a,c1.e):=by rw [<-HMM.out,List.getElem?_map,HG.out];rfl
    rw [List.take_add_one,h1,List.map_append,List.map_append,aG.out]
    rfl⟩
   case measure=>simp [intOf];omega
  ·obtain rfl:k=cs.length:=by omega
   rw [List.take_of_length_le (by have:=HCL.out;omega)] at HR;go_wp2_with fail;go_ret;obtain ⟨ac,rs,aa,z,T⟩:=HR.out;exact ⟨_,rfl,bt ap.out ac,rs,World.ownsRow.mono aa ap.out.size,z,T⟩
