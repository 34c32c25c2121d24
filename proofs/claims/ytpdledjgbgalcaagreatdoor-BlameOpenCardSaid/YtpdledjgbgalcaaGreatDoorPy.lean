import Derived.Test.YtpdledjgbgalcaaGreatDoorK2
namespace Go.Proofs.YtpdledjgbgalcaaGreatDoor
set_option maxRecDepth 100000
set_option maxHeartbeats 32000000
open Go.RowKit Go.Lib Go.Proofs.Tryz
set_option linter.unusedVariables false
set_option linter.unusedSimpArgs false
theorem sizeVwR (x:Vw):(prog.info? 48).map (·.size)=some (cVw x).size:=by kernel_rfl
theorem rb1 {P:Program} {ops:Array Oper} {Q:Exit->Act->World->Prop} {md:Region.Mode} {S:World->Prop} {oi:Oper} {fuel:Nat} {listed:Array Bool} {a:Act} {w:World} (i:Nat)
 (h:∀K':Act->World->Prop,Shut (∀a w,S w->(S w->wpAnyH P md ops Q S fuel (listed.setIfInBounds i true) a w)->K' a w)->if Region.wanted oi (yielded ops a.tmps)=true then Oper.wp P oi a w K' Q else K' (a.put oi.dst undef) w)
 (hr:Region.ready md ops listed=[i]:=by decide+kernel) (hi:ops[i]? =some oi:=by simp only [List.getElem?_toArray,List.getElem?_cons_succ,List.getElem?_cons_zero];rfl):wpAnyH P md ops Q S (fuel+1) listed a w:=
 wpAnyH_ready hr sI (AllReadyH.cons hi h AllReadyH.nil)
theorem rb2 {P:Program} {ops:Array Oper} {Q:Exit->Act->World->Prop} {md:Region.Mode} {S:World->Prop} {oi oj:Oper} {fuel:Nat} {listed:Array Bool} {a:Act} {w:World} (i j:Nat)
 (h:∀K':Act->World->Prop,Shut (∀a w,S w->(S w->wpAnyH P md ops Q S fuel (listed.setIfInBounds i true) a w)->K' a w)->if Region.wanted oi (yielded ops a.tmps)=true then Oper.wp P oi a w K' Q else K' (a.put oi.dst undef) w)
 (g:∀K':Act->World->Prop,Shut (∀a w,S w->(S w->wpAnyH P md ops Q S fuel (listed.setIfInBounds j true) a w)->K' a w)->if Region.wanted oj (yielded ops a.tmps)=true then Oper.wp P oj a w K' Q else K' (a.put oj.dst undef) w)
 (hr:Region.ready md ops listed=[i,j]:=by decide+kernel) (hi:ops[i]? =some oi:=by simp only [List.getElem?_toArray,List.getElem?_cons_succ,List.getElem?_cons_zero];rfl) (hj:ops[j]? =some oj:=by simp only [List.getElem?_toArray,List.getElem?_cons_succ,List.getElem?_cons_zero];rfl):wpAnyH P md ops Q S (fuel+1) listed a w:=
 wpAnyH_ready hr sI (AllReadyH.cons hi h (AllReadyH.cons hj g AllReadyH.nil))
theorem Tryz.infoIK:(prog.info? 3).map (fun i=>(i.zero,i.size,i.bytes))=some (some (.int .i64 0),1,8):=by kernel_rfl
theorem sizeVwK (y:Vw):(prog.info? 29).map (·.size)=some (cVw y).toList.length:=by kernel_rfl
theorem rangeVwK {w:World} {b:Nat} {t:TypeId} {y:Vw} (h:w.heap[b]? =some (.cells (cVw y) t (0,0))):w.rangeAt b 0 (cVw y).toList:=rangeRow h
def ArL (t:TypeId) (al:List Ac) (n:Nat) (A:Option Addr) (c:Nat) (rs:List AcR) (w:World):Prop:=OwnN fAr 20 t w 0 (.slice A n c) rs/\(∀r∈rs,ArO w 0 r)/\rs.map (·.a)=al
theorem ArL.on {t:TypeId} {al:List Ac} {n c:Nat} {A:Option Addr} {rs:List AcR} {w H:World} (h:ArL t al n A c rs w) (G:Below w.heap.size w H):ArL t al n A c rs H:=
 ⟨h.1.on G,fun r hr=>(h.2.1 r hr).on G,h.2.2⟩
theorem ArL.row {t:TypeId} {al:List Ac} {n c:Nat} {A:Option Addr} {rs:List AcR} {w:World} (h:ArL t al n A c rs w) {k:Nat} (M:k < n):∃b G r,A=some ⟨b,G,none⟩/\rs[k]? =some r/\w.rangeAt b (G+k*20) (fAr r)/\ArO w 0 r:=by
 obtain ⟨N,O,H,_,J,_⟩:=OwnN.shape ycf h.1;injection H with e1 e2 _;subst e1;obtain ⟨b,G,r,h1,_,K,L⟩:=J.at_ (k:=k) (by rw [<-e2];exact M);exact ⟨b,G,r,h1,K,fun j v H=>by rw [Nat.add_assoc];exact L j v H,h.2.1 r (List.mem_of_getElem? K)⟩
theorem ownT_ne {α:Type} {f:α->List Value} {s:Nat} {w:World} {base g:Nat} {e t:TypeId} {v:Value} {xs:List α} {cs:Array Value} {fr:Nat × Nat} (h:OwnN f s e w base v xs) (J:w.heap[g]? =some (.cells cs t fr)) (H:e≠t):v.ownBlock=none∨v.ownBlock≠some g:=by
 rcases h.2 with ⟨rfl,h0⟩ |⟨L,cap,M,rfl,h1,G,h2⟩
 ·exact .inl rfl
 ·right
  intro q;have K:L=g:=by injection q
  subst K;rw [J] at G;injection G with G;injection G with _ ht _;exact H ht.symm
theorem ownT_ne1 {α:Type} {f:α->Value} {w:World} {base g:Nat} {e t:TypeId} {v:Value} {xs:List α} {cs:Array Value} {fr:Nat × Nat} (h:Own f e w base v xs) (J:w.heap[g]? =some (.cells cs t fr)) (H:e≠t):v.ownBlock=none∨v.ownBlock≠some g:=by
 rcases h.2 with ⟨rfl,h0⟩ |⟨L,cap,M,rfl,h1,G,h2⟩
 ·exact .inl rfl
 ·right
  intro q;have K:L=g:=by injection q
  subst K;rw [J] at G;injection G with G;injection G with _ ht _;exact H ht.symm
theorem ArL.kept {t J:TypeId} {al:List Ac} {n c g:Nat} {A:Option Addr} {rs:List AcR} {w L:World} {cs:Array Value} {fr:Nat × Nat} (h:ArL t al n A c rs w) (G:But (fun i=>i=g) w L) (H:w.heap[g]? =some (.cells cs J fr)) (h1:t≠J) (h2:9≠J):ArL t al n A c rs L:=
 ⟨World.ownsRow.kept h.1 G.grownBy (ownT_ne h.1 H h1),fun r hr=>by
   obtain ⟨M,N,K⟩:=h.2.1 r hr
   exact ⟨World.ownsRow.kept M G.grownBy (ownT_ne1 M H h2),World.ownsRow.kept N G.grownBy (ownT_ne1 N H h2),World.ownsRow.kept K G.grownBy (ownT_ne1 K H h2)⟩,h.2.2⟩
theorem sumB_mem:∀ {es:List EnR} {e:EnR},e∈es->e.bd.n<=sumB es
 | [],_,h=>by cases h
 |a::t,e,h=>by
  rw [sumB];rcases List.mem_cons.1 h with rfl |h
  ·omega
  ·have:=sumB_mem h;omega
abbrev hA (l:List Ac):Array Value:=((List.range 12).map fun d:Nat=>Value.bool (hdB l (d:Int))).toArray
theorem hdB_snoc (l:List Ac) (a:Ac) (d:Int):hdB (l++[a]) d=(hdB l d||decide (a.R.hd=d)):=by simp [hdB]
theorem hA_snoc (l:List Ac) (a:Ac) (i:Nat) (hi:i < 12) (ha:a.R.hd=(i:Int)):(hA l).setIfInBounds i (.bool true)=hA (l++[a]):=by
 refine Array.ext sI (fun j h1 h2=>?_);have hj:j < 12:=by simpa using h1
 rw [Array.getElem_setIfInBounds (by simpa using hj)];simp only [List.getElem_toArray,List.getElem_map,List.getElem_range,hdB_snoc]
 by_cases G:i=j
 ·subst G;simp [ha]
 ·rw [if_neg G];have:decide (a.R.hd=(j:Int))=false:=by rw [ha];exact decide_eq_false om
  rw [this,Bool.or_false]
def dvL (l:List Ac) (d:Nat):List Int:=((List.range d).map Int.ofNat).filter (hdB l)
theorem dvL_yes {l:List Ac} {d:Nat} (h:hdB l (d:Int)=true):dvL l (d+1)=dvL l d++[(d:Int)]:=by
 unfold dvL;rw [List.range_succ,List.map_append,List.filter_append]
 congr 1
 exact List.filter_cons_of_pos h
theorem dvL_no {l:List Ac} {d:Nat} (h:hdB l (d:Int)=false):dvL l (d+1)=dvL l d:=by
 unfold dvL;rw [List.range_succ,List.map_append,List.filter_append];have:List.filter (hdB l) (List.map Int.ofNat [d])=[]:=List.filter_cons_of_neg (by rw [show hdB l (Int.ofNat d)=false from h];decide);rw [this,List.append_nil]
theorem dvL_len (l:List Ac) (d:Nat):(dvL l d).length<=d:=by
 unfold dvL;exact lT (List.length_filter_le _ _) sI
theorem ArL.mk {t:TypeId} {al:List Ac} {base:Nat} {v:Value} {rs:List AcR} {w:World} (h:OwnN fAr 20 t w base v rs) (h1:∀r∈rs,ArO w base r) (h2:rs.map (·.a)=al):∃A c,v= .slice A al.length c/\ArL t al al.length A c rs w:=by
 obtain ⟨A,c,G,_,_,_⟩:=OwnN.shape ycf h;have hl:rs.length=al.length:=by rw [<-h2,List.length_map]
 rw [hl] at G;subst G;exact ⟨A,c,rfl,World.ownsRow.mono h (Nat.zero_le _),fun r hr=>RcO.low (h1 r hr) (Nat.zero_le _),h2⟩
theorem lawOpen_any (x:Vw) (N:List EnR) (vs:List VtR) (L U:List ByteArray) (ap:List Int) (z:Int) (B:Nat) (w:World) (hG:Glob w) (hV:VwIn w B x N vs L U ap) (hB:B<=w.heap.size) (bv:smB N):
 Calls prog 5 #[.agg (cVw x),.int .i64 z] w fun e H=>e= .returned (.bool true)/\Below w.heap.size w H:=by
 obtain ⟨W1,aP⟩:∃W1:World,W1=w.alloc (.cells (cVw x) 29):=⟨_,rfl⟩
 have a7:W1.heap[w.heap.size]? =some (.cells (cVw x) 29 (0,0)):=by rw [aP];exact zy w _
 have HB:Hid (Below w.heap.size w W1):=by show Below ..;rw [aP];exact bl
 have HX:Hid (∀V,Below w.heap.size w V->VwIn V V.heap.size x N vs L U ap/\Glob V):=fun V G=>⟨(hV.up G hB).more (lT hB G.size),hG.on G⟩;have HWE:=lh aP;have bC:=lh a7;have b8:Hid (Calls prog 9 #[.agg (cVw x)] W1 (FewP x N W1)):=few_any x N W1.heap.size W1 (HX.out W1 HB.out).1.E nl hV.cs.1;have bu:Hid (∀V,Below w.heap.size w V->Calls prog 11 #[] V fun e H=>e= .returned (.bool true)/\Below V.heap.size V H):=fun V G=>awake_any V (HX.out V G).2;have b7:=lh bv;obtain ⟨v0,v1,v2,v3,v4,v5,v6⟩:=ybo a7;clear hG hV hB aP a7 bv;go_enter func5,ntmps5;go_upto_region 1 with fail
 rw [<-HWE.out];go_wp2_with fail;refine b8.out.mono ?_;rintro e w4 ⟨t,rfl,ht,bD⟩;have bI:Hid (Below W1.heap.size W1 w4):=bD;clear bD v0 v1 v2 v3 v4 v5 v6;have au:Hid (Below w.heap.size w w4):=bt HB.out bI.out
 cases t with
 |false=>
  clear ht;go_wp2_with (go_at_call 11;(with_reducible refine (bu.out _ au.out).mono ?_);rintro e w9 ⟨rfl,bk⟩;(have aT:Hid (Below w.heap.size w w9):=au.out.trans (Below.mono bk au.out.size));clear bk);go_ret;exact ⟨rfl,aT.out⟩
 |true=>
  have ao:=ht rfl;clear ht;have aF:Hid (∀V,Below w4.heap.size w4 V->V.heap[w.heap.size]? =some (.cells (cVw x) 29 (0,0))):=fun V G=>((bt bI.out G).block _ (lb bC.out)).trans bC.out;have HW4:Hid (∀V,Below w4.heap.size w4 V->Below w.heap.size w V):=fun V G=>bt au.out G;have cI:N.length=x.E.n:=(HX.out _ HB.out).1.E.1.1;have aH:∀e∈N,e.bd.n<=30000:=fun e he=>lT (sumB_mem he) (ao.2.2.2.2.2 b7.out);have aA:VwOk x N:=⟨by have:=ao.1;omega,by have:=ao.2;omega,fun e he=>lT (aH e he) om⟩;have cY:=lh ao;obtain ⟨al,am⟩:=gx (opnV x N vs L U)
  have bW:al.length<=12:=by
   rw [<-am];unfold opnV;rw [List.length_map];have h1:=ydO (opV x N vs L U) (frE N);have h2:=yci N;have Y:=ao.1;omega
  have cK:Hid (∀V,Calls prog 14 #[.agg (cVw x)] V fun e H=>e= .returned (.agg (cVw x))/\Below V.heap.size V H):=fun V=>viewOf_any x V
  have cE:Hid (∀V,Below w4.heap.size w4 V->Calls prog 21 #[.agg (cVw x)] V fun e H=>∃A c rs,e= .returned (.slice A al.length c)/\ArL 50 al al.length A c rs H/\Below V.heap.size V H):=fun V G=>by
   refine (ropen_any x N vs L U ap V.heap.size V (HX.out V (HW4.out V G)).1 nl aA (fun e he=>lT (aH e he) om)).mono ?_;rintro e H ⟨v,rfl,M,rs,h1,h2,Y⟩;rw [am] at Y;obtain ⟨A,c,rfl,h4⟩:=ArL.mk h1 h2 Y;exact ⟨A,c,rs,rfl,h4,M⟩
  have ci:Hid (∀V,Below w4.heap.size w4 V->Calls prog 17 #[.agg (cVw x)] V fun e H=>∃A c rs,e= .returned (.slice A al.length c)/\ArL 39 al al.length A c rs H/\Below V.heap.size V H):=fun V G=>by
   refine (open_any x N vs L U ap V.heap.size V (HX.out V (HW4.out V G)).2 (HX.out V (HW4.out V G)).1 nl aA).mono ?_;rintro e H ⟨v,rfl,M,rs,h1,h2,Y⟩;rw [am] at Y;obtain ⟨A,c,rfl,h4⟩:=ArL.mk h1 h2 Y;exact ⟨A,c,rs,rfl,h4,M⟩
  obtain ⟨T,a4⟩:=gx (al.filter (fun a=>decide (a.R.hd=z)))
  have b4:Hid (∀V,Below w4.heap.size w4 V->Calls prog 22 #[.agg (cVw x),.int .i64 z] V fun e H=>∃A c rs,e= .returned (.slice A T.length c)/\ArL 39 T T.length A c rs H/\Below V.heap.size V H):=fun V G=>by
   refine (against_any x N vs L U ap z V.heap.size V (HX.out V (HW4.out V G)).2 (HX.out V (HW4.out V G)).1 nl aA).mono ?_;rintro e H ⟨v,rfl,M,rs,h1,h2,Y⟩;rw [am,a4] at Y;obtain ⟨A,c,rfl,h4⟩:=ArL.mk h1 h2 Y;exact ⟨A,c,rs,rfl,h4,M⟩
  have b6:=lh aA;have aW:=lh am;have aE:=lh a4;obtain ⟨v0,v1,v2,v3,v4,v5,v6⟩:=ybo (aF.out _ bR);clear ao aH aA am a4 cI
  go_upto_region 4 with (first
   |(go_at_call 14;(with_reducible refine (cK.out _).mono ?_);rintro e w5 ⟨rfl,bm⟩;(have bz:Hid (Below w4.heap.size w4 w5):=bm);clear bm)
   |(go_at_call 21;(with_reducible refine (cE.out _ bz.out).mono ?_);rintro e w6 ⟨Ar,cr,rr,rfl,hr,bX⟩;(have HR:=lh hr);(have HB6:Hid (Below w4.heap.size w4 w6):=bt bz.out bX);clear hr bX))
  clear v0 v1 v2 v3 v4 v5 v6;have aG:Hid (Below w4.heap.size w4 w6.drew):=HB6.out.drew;have aq:=lh (HR.out.on (Below.refl _ w6).drew)
  go_cut [6,7] from 20 (fun p q wx=>∃Ap cp rp Aq cq rq,p= .slice Ap al.length cp/\q= .slice Aq T.length cq/\Hid (Below w4.heap.size w4 wx)/\Hid (ArL 50 al al.length Ar cr rr wx)/\Hid (ArL 39 al al.length Ap cp rp wx)/\Hid (ArL 39 T T.length Aq cq rq wx))
  case first=>
   refine rH (S:=(fun H=>H.heap[w.heap.size]? =some (.cells (cVw x) 29 (0,0)))) ya9 (by exact aF.out _ aG.out) (fun ah=>?_);refine tkH (i:=0) (v:=_) (y:=(Or.inl ⟨by rfl,by (intro w hSw;(try dsimp only at hSw);obtain ⟨v0,v1,v2,v3,v4,v5,v6⟩:=ybo hSw;go_simp;try (with_reducible rfl))⟩)) (h:=?_)
   try simp only [pt]
   refine tkH (i:=2) (v:=_) (y:=(Or.inl ⟨by rfl,by (intro w hSw;(try dsimp only at hSw);obtain ⟨v0,v1,v2,v3,v4,v5,v6⟩:=ybo hSw;go_simp;try (with_reducible rfl))⟩)) (h:=?_)
   try simp only [pt]
   refine tkY 3 ?_
   iterate 2
    all_goals
     (first |refine rb2 1 4 (fun K hK=>?_) (fun K hK=>?_) |refine rb1 1 (fun K hK=>?_) |refine rb1 4 (fun K hK=>?_))<;>(first
     |(go_simp;go_at_call 17;(with_reducible refine (ci.out _ (by first |exact ak.out |exact aG.out)).mono ?_);rintro e w7 ⟨Ap,cp,rp,rfl,hp,ax⟩;(have HP:=lh hp);(have HB7:Hid (Below w4.heap.size w4 w7):=by first |exact bt ak.out ax |exact bt aG.out ax);(have aq:=lh (aq.out.on ax));(try (have HQ:=lh (HQ.out.on ax)));clear hp ax;go_wp2_with fail)
     |(go_simp;go_at_call 22;(with_reducible refine (b4.out _ (by first |exact HB7.out |exact aG.out)).mono ?_);rintro e w8 ⟨Aq,cq,rq,rfl,hq,O⟩;(have HQ:=lh hq);(have ak:Hid (Below w4.heap.size w4 w8):=by first |exact bt HB7.out O |exact bt aG.out O);(have aq:=lh (aq.out.on O));(try (have HP:=lh (HP.out.on O)));clear hq O;go_wp2_with fail)
     )<;>(refine hK.out _ _ (by first |exact aF.out _ HB7.out |exact aF.out _ ak.out) (fun cd=>?_))<;>(clear hK K)<;>(try simp only [pt])
   all_goals
    refine tkY 5 ?_;refine tkY 6 ?_;refine wpAnyH_done ya9 ?_ _;go_wp2_with fail;go_meet;case rel=>exact ⟨Ap,cp,rp,Aq,cq,rq,rfl,rfl,(by first |exact ak |exact HB7),aq,HP,HQ⟩
  case rest=>
   obtain ⟨Ap,cp,rp,Aq,cq,rq,rfl,rfl,bQ,HR,HP,HQ⟩:=hcut;go_upto_region 9 with fail
   obtain ⟨W8,aU⟩:∃W:World,W=wc.alloc (.cells (hA []) 65):=⟨_,rfl⟩
   have bx:W8.heap[wc.heap.size]? =some (.cells (hA []) 65 (0,0)):=by rw [aU];exact zy wc _
   have O:Below wc.heap.size wc W8:=by rw [aU];exact bl
   have bL:=lh bx;have ak:Hid (Below w4.heap.size w4 W8):=bt bQ.out O;have bB:=lh (HR.out.on O);have bo:=lh (HP.out.on O);have bS:=lh (HQ.out.on O);have cP:Hid (w4.heap.size<=wc.heap.size):=bQ.out.size;have cc:Hid (wc.alloc (.cells #[.bool false,.bool false,.bool false,.bool false,.bool false,.bool false,.bool false,.bool false,.bool false,.bool false,.bool false,.bool false] 65)=W8):=aU.symm;clear aU bx O HR HP HQ aq;rw [cc.out]
   go_loopw [9,10] (fun p i wr=>∃k:Nat,k<=al.length/\i= .int .i64 k/\p= .int .i64 ((((al.take k).filter (fun a=>decide (a.R.hd=z))).length:Nat):Int)/\Hid (Below w4.heap.size w4 wr)/\Hid (wr.heap[wc.heap.size]? =some (.cells (hA (al.take k)) 65 (0,0)))/\Hid (ArL 50 al al.length Ar cr rr wr)/\Hid (ArL 39 al al.length Ap cp rp wr)/\Hid (ArL 39 T T.length Aq cq rq wr)) (fun _ i _=>al.length - (intOf i).toNat)
   case atStart=>exact ⟨0,Nat.zero_le _,rfl,rfl,ak,bL,bB,bo,bS⟩
   case round=>
    clear ak bL bB bo bS;obtain ⟨k,hk,rfl,rfl,bU,ay,aS,aR,cH⟩:=hrel
    by_cases hlt:k < al.length
    ·have b5:(k:Int) < (al.length:Int):=by omega
     obtain ⟨br,ob,r,rfl,hr,cf,bE⟩:=aS.out.row hlt;obtain ⟨bp,oq,p,rfl,hp,b3,bV⟩:=aR.out.row hlt;have aQ:al[k]? =some r.a:=by rw [<-aS.out.2.2,List.getElem?_map,hr];rfl
     have a5:al[k]? =some p.a:=by rw [<-aR.out.2.2,List.getElem?_map,hp];rfl
     have aw:p.a=r.a:=by rw [aQ] at a5;exact (Option.some.inj a5).symm
     have aL:r.a∈al:=List.mem_of_getElem? aQ
     have b9:Hid (∀V,Below wr.heap.size wr V->Calls prog 18 #[.agg (cAr p),.agg (cAr r)] V fun e H=>e= .returned (.bool true)/\Below V.heap.size V H):=fun V G=>
      same_rr p r 0 0 V aw (bV.on G) (bE.on G) (by rw [aw];exact opnV_ok x N vs L U (by rw [aW.out];exact aL))
     have be:Hid (∀V,Below wr.heap.size wr V->V.rangeAt bp (oq+k*20) (fAr p)/\V.rangeAt br (ob+k*20) (fAr r)):=fun V G=>by
      obtain ⟨b1,o1,r1,h1,h2,Y,_⟩:=(aR.out.on G).row hlt;obtain ⟨b2,o2,r2,g1,g2,g3,_⟩:=(aS.out.on G).row hlt;injection h1 with h1;injection h1 with h4 h5 _;injection g1 with g1;injection g1 with g4 g5 _;subst h4 h5 g4 g5;rw [hp] at h2;rw [hr] at g2;obtain rfl:p=r1:=Option.some.inj h2;obtain rfl:r=r2:=Option.some.inj g2;exact ⟨Y,g3⟩
     have cO:=lh aQ;have ch:=lh hr;have c5:=lh hp;have cS:=lh aw;have a9:=lh aL;have a0:Hid (Below wr.heap.size wr wr.drew):=bR.drew;clear aQ a5 aw aL cf b3 bE bV hr hp;go_upto_region 11 with fail
     refine rH (S:=(fun H=>H.rangeAt bp (oq+k*20) (fAr p)/\H.rangeAt br (ob+k*20) (fAr r))) ya9 (by exact be.out _ a0.out) (fun ah=>?_)
     (iterate 3 refine tkA ?_)
     refine tkH (i:=3) (v:=_) (y:=(yieldsIf_load_mid (by rfl) 39 (.tmp 39) rfl bp (oq+k*20) (by rfl) (fAr p) _ (fun _ h=>h.1) underlying39 rfl (ycv p))) (h:=?_)
     try simp only [pt]
     (iterate 3 refine tkA ?_)
     refine tkH (i:=7) (v:=_) (y:=(yieldsIf_load_mid (by rfl) 50 (.tmp 43) rfl br (ob+k*20) (by rfl) (fAr r) _ (fun _ h=>h.2) underlying50 rfl (sizeArR r))) (h:=?_)
     try simp only [pt]
     refine rd1 8 (fun K hK=>?_)
     (go_simp;go_at_call 18;(with_reducible refine (b9.out _ a0.out).mono ?_);rintro e af ⟨rfl,aZ⟩;(have aa:Hid (Below wr.heap.size wr af):=bt a0.out aZ);clear aZ;go_wp2_with fail)
     refine hK.out _ _ (by exact be.out _ aa.out) (fun b0=>?_);clear hK K ah
     try simp only [pt]
     refine tkY 9 ?_;refine wpAnyH_done ya9 ?_ _;have bJ:Hid (Below w4.heap.size w4 af):=bt bU.out aa.out
     obtain ⟨hn,a2,aK⟩:∃n:Nat,r.a.R.hd=(n:Int)/\n < 12:=by
      have h1:hdB (opnV x N vs L U) r.a.R.hd=true:=by
       rw [aW.out];unfold hdB;rw [List.any_eq_true];exact ⟨r.a,a9.out,by simp⟩
      have h2:=opnV_hd h1;exact ⟨r.a.R.hd.toNat,by omega,by omega⟩
     have x2:af.cell? ⟨br,ob+k*20+2,none⟩=some (.int .i64 (hn:Int)):=by rw [<-a2];exact (be.out _ aa.out).2 2 _ rfl
     have ae:Hid (af.heap[wc.heap.size]? =some (.cells (hA (al.take k)) 65 (0,0))):=(aa.out.block _ (lb ay.out)).trans ay.out
     have c8:af.cell? ⟨wc.heap.size,hn,none⟩=some (.bool (hdB (al.take k) (hn:Int))):=by
      rw [cell_of_row _ _ hn _ _ _ ae.out];simp [aK]
     have f8:af.frozen? ⟨wc.heap.size,hn,none⟩=false:=frozen_of_row _ _ _ _ _ ae.out;have cX:(hn:Int) < 12:=by omega
     have aD:=lh a2;have cT:=lh aK;clear a2;go_upto_region 14 with fail
     obtain ⟨J,ar⟩:∃W:World,W=af.setCell ⟨wc.heap.size,hn,none⟩ (.bool true):=⟨_,rfl⟩
     have ba:al.take (k+1)=al.take k++[r.a]:=by rw [List.take_add_one,cO.out];rfl
     have bf:J.heap[wc.heap.size]? =some (.cells (hA (al.take (k+1))) 65 (0,0)):=by
      rw [ar,ba,<-hA_snoc _ _ hn aK aD.out];exact heap_setCell_same _ _ _ _ _ _ ae.out
     have az:But (fun i=>i=wc.heap.size) af J:=by rw [ar];exact But.setCell (p:=fun i=>i=wc.heap.size) (x:=⟨wc.heap.size,hn,none⟩) (But.refl _ _) (.inl rfl) _
     have a6:Hid (Below w4.heap.size w4 J):=bJ.out.trans (az.below bJ.out.size (fun i hi=>by subst hi;exact cP.out));have aI:Hid (ArL 50 al al.length (some ⟨br,ob,none⟩) cr rr J):=ArL.kept (aS.out.on aa.out) az ae.out de de;have a3:Hid (ArL 39 al al.length (some ⟨bp,oq,none⟩) cp rp J):=ArL.kept (aR.out.on aa.out) az ae.out de de;have ai:Hid (ArL 39 T T.length Aq cq rq J):=ArL.kept (cH.out.on aa.out) az ae.out de de;have aN:=lh bf;have bF:rr[k]? =some r:=ch.out
     have a8:Hid (∀V,Below J.heap.size J V->V.rangeAt br (ob+k*20) (fAr r)/\ArO V 0 r):=fun V G=>by
      obtain ⟨b2,o2,r2,g1,g2,g3,g6⟩:=(aI.out.on G).row hlt;injection g1 with g1;injection g1 with g4 g5 _;subst g4 g5;rw [bF] at g2;obtain rfl:r=r2:=Option.some.inj g2;exact ⟨g3,g6⟩
     have bg:=lh ba;rw [<-ar];clear ar bf az c8 f8 x2 ba bF;have x2:J.cell? ⟨br,ob+k*20+2,none⟩=some (.int .i64 (hn:Int)):=by rw [<-aD.out];exact (a8.out _ bR).1 2 _ rfl
     by_cases aV:(hn:Int)=z
     ·subst aV;obtain ⟨cn,aC⟩:∃n:Nat,((al.take k).filter (fun a=>decide (a.R.hd=(hn:Int)))).length=n:=⟨_,rfl⟩
      have aY:al.filter (fun a=>decide (a.R.hd=(hn:Int)))=(al.take k).filter (fun a=>decide (a.R.hd=(hn:Int)))++r.a::(al.drop (k+1)).filter (fun a=>decide (a.R.hd=(hn:Int))):=by
       have h1:al=al.take (k+1)++al.drop (k+1):=(List.take_append_drop (k+1) al).symm;rw [bg.out] at h1
       conv=>lhs;rw [h1]
       rw [List.filter_append,List.filter_append,List.append_assoc]
       congr 1
       rw [List.filter_cons_of_pos (by simp [aD.out]),List.filter_nil];rfl
      have bw:cn < T.length:=by rw [<-aE.out,aY,<-aC];simp
      have bG:T[cn]? =some r.a:=by rw [<-aE.out,aY,<-aC,List.getElem?_append_right nl,Nat.sub_self];rfl
      obtain ⟨bq,os,q,rfl,hq,_,bK⟩:=ai.out.row bw
      have bh:q.a=r.a:=by
       have h1:T[cn]? =some q.a:=by rw [<-ai.out.2.2,List.getElem?_map,hq];rfl
       rw [bG] at h1;exact (Option.some.inj h1).symm
      have cQ:Hid (∀V,Below J.heap.size J V->Calls prog 18 #[.agg (cAr q),.agg (cAr r)] V fun e H=>e= .returned (.bool true)/\Below V.heap.size V H):=fun V G=>
       same_rr q r 0 0 V bh (bK.on G) (a8.out V G).2 (by rw [bh];exact opnV_ok x N vs L U (by rw [aW.out];exact a9.out))
      have bA:Hid (∀V,Below J.heap.size J V->V.rangeAt bq (os+cn*20) (fAr q)/\V.rangeAt br (ob+k*20) (fAr r)):=fun V G=>by
       obtain ⟨b1,o1,r1,h1,h2,Y,_⟩:=(ai.out.on G).row bw;injection h1 with h1;injection h1 with h4 h5 _;subst h4 h5;rw [hq] at h2;obtain rfl:q=r1:=Option.some.inj h2;exact ⟨Y,(a8.out V G).1⟩
      have bc:Hid (((al.take (k+1)).filter (fun a=>decide (a.R.hd=(hn:Int)))).length=cn+1):=by
       show _=_;rw [bg.out,List.filter_append,List.length_append,aC];simp [aD.out]
      have cU:(cn:Int) < (T.length:Int):=by omega
      have cV:¬(T.length:Int)<=(cn:Int):=by omega
      have bi:T.length<=12:=by rw [<-aE.out];exact lT (List.length_filter_le _ _) bW
      have aM:Hid (Below J.heap.size J J.drew):=bR.drew;rw [aC];clear aC aY bG hq bK bh;go_upto_region 15 with fail
      refine rH (S:=(fun H=>H.rangeAt bq (os+cn*20) (fAr q)/\H.rangeAt br (ob+k*20) (fAr r))) ya9 (by exact bA.out _ aM.out) (fun ah=>?_)
      (iterate 8 refine tkA ?_)
      refine tkH (i:=8) (v:=_) (y:=(yieldsIf_load_mid (by rfl) 39 (.tmp 69) rfl bq (os+cn*20) (by rfl) (fAr q) _ (fun _ h=>h.1) underlying39 rfl (ycv q))) (h:=?_)
      try simp only [pt]
      (iterate 3 refine tkA ?_)
      refine tkH (i:=12) (v:=_) (y:=(yieldsIf_load_mid (by rfl) 50 (.tmp 73) rfl br (ob+k*20) (by rfl) (fAr r) _ (fun _ h=>h.2) underlying50 rfl (sizeArR r))) (h:=?_)
      try simp only [pt]
      refine rd1 13 (fun K hK=>?_)
      (go_simp;go_at_call 18;(with_reducible refine (cQ.out _ aM.out).mono ?_);rintro e cv ⟨rfl,a1⟩;(have ac:Hid (Below J.heap.size J cv):=bt aM.out a1);clear a1;go_wp2_with fail)
      refine hK.out _ _ (by exact bA.out _ ac.out) (fun bY=>?_);clear hK K ah
      try simp only [pt]
      (iterate 2 refine tkA ?_)
      refine wpAnyH_done ya9 ?_ _;go_wp2_with fail;go_roundw;case rel=>exact ⟨k+1,by omega,by go_num,by rw [bc.out];go_num,bt a6.out ac.out,(ac.out.block _ (lb aN.out)).trans aN.out,aI.out.on ac.out,a3.out.on ac.out,ai.out.on ac.out⟩
      case measure=>simp [intOf];omega
     ·have c6:((hn:Int)==z)=false:=by simp [aV]
      have c7:decide ((hn:Int)=z)=false:=by simp [aV]
      have bc:Hid (((al.take (k+1)).filter (fun a=>decide (a.R.hd=z))).length=((al.take k).filter (fun a=>decide (a.R.hd=z))).length):=by
       show _=_;rw [bg.out,List.filter_append];simp [aD.out,aV]
      go_wp2_with fail
      go_roundw
      case rel=>exact ⟨k+1,by omega,by go_num,by rw [bc.out],a6,aN,aI,a3,ai⟩
      case measure=>simp [intOf];omega
    ·obtain rfl:k=al.length:=by omega
     have b5:¬(al.length:Int) < (al.length:Int):=by omega
     rw [List.take_length] at ay;rw [List.take_length,aE.out];have bi:T.length<=12:=by rw [<-aE.out];exact lT (List.length_filter_le _ _) bW
     obtain ⟨W0,cu⟩:∃W0:World,W0=wr:=⟨_,rfl⟩
     subst cu;obtain ⟨i0,hi,bT,bM,bP⟩:=info_parts Tryz.infoIK;have HI:=lh hi;have cj:=lh bT;have cm:=lh bM;have co:=lh bP;have bO:Hid (Own I 3 (W0.alloc (.cells #[] 3)) W0.heap.size (.slice (some ⟨W0.heap.size,0,none⟩) 0 0) (dvL al 0)):=World.ownsRow_lit W0 #[] 0 nl ya5 rfl;have bn:Hid (Below W0.heap.size W0 (W0.alloc (.cells #[] 3))):=bl;clear hi bT bM bP;go_upto_region 20 with fail
     go_loopw [11,12] (fun v i wr=>∃d:Nat,d<=12/\i= .int .i64 d/\Hid (Below W0.heap.size W0 wr)/\Hid (Own I 3 wr W0.heap.size v (dvL al d))) (fun _ i _=>12 - (intOf i).toNat)
     case atStart=>exact ⟨0,Nat.zero_le _,rfl,bn,bO⟩
     case round=>
      clear bn bO;obtain ⟨d,hd,rfl,HBd,aO⟩:=hrel
      by_cases hlt:d < 12
      ·have cw:(d:Int) < 12:=by omega
       have cx:Hid (wr.heap[wc.heap.size]? =some (.cells (hA al) 65 (0,0))):=(HBd.out.block _ (lb ay.out)).trans ay.out
       have c8:wr.cell? ⟨wc.heap.size,d,none⟩=some (.bool (hdB al (d:Int))):=by
        rw [cell_of_row _ _ d _ _ _ cx.out];simp [hlt]
       have bN:Hid (W0.heap.size<=wr.heap.size):=HBd.out.size;have aX:=dvL_len al d
       cases M:hdB al (d:Int) with
       |true=>
        rw [M] at c8;have HY:=lh (dvL_yes M);have cL:Hid (((dvL al d).length+1)*8<=140737488355328):=by show _<=_;omega
        have cz:Hid ((dvL al d).length+1<=maxLen):=by show _<=_;unfold maxLen;omega
        clear M aX;go_wp2_with (at_builtin;(with_reducible refine ybk (o:=⟨some 91,_,_,_,_,_⟩) rfl (.tmp 88) (.tmp 90) 27 rfl 3 i0 (.int .i64 0) 8 underlying27 HI.out cj.out cm.out co.out rfl _ (dvL al d) W0.heap.size rfl aO.out (d:Int) 1 rfl I1 cL.out cz.out bN.out ?_);intro v5 w5 cC HG5 cZ);go_roundw;case rel=>exact ⟨d+1,by omega,by go_num,Own.below aO.out HBd.out nl bN.out HG5.out,by show Own ..;rw [HY.out];exact cC.out⟩
        case measure=>simp [intOf];omega
       |false=>
        rw [M] at c8;have HY:=lh (dvL_no M);clear M aX;go_wp2_with fail;go_roundw;case rel=>exact ⟨d+1,by omega,by go_num,HBd,by show Own ..;rw [HY.out];exact aO.out⟩
        case measure=>simp [intOf];omega
      ·obtain rfl:d=12:=by omega
       have cw:¬((12:Nat):Int) < 12:=by omega
       have aT:Hid (Below w4.heap.size w4 wr):=bt bU.out HBd.out;have cg:Hid (Own I 3 wr W0.heap.size u11 (hdL (hdB al))):=aO.out;have aX:(hdL (hdB al)).length<=12:=dvL_len al 12;obtain ⟨Z,aj⟩:=gx (hdL (hdB al));obtain ⟨CD,cD,G,_,bH,_⟩:=cg.out.shape;have cy:Hid (u11= .slice CD Z.length cD):=by rw [<-aj];exact G
       have aB:Hid (Sl I wr wr.heap.size CD Z.length Z):=by rw [<-aj];exact ⟨rfl,bH⟩
       rw [aj] at aX
       have cF:Hid (∀V,Below w4.heap.size w4 V->Calls prog 19 #[.agg (cVw x)] V (NwI Z V V.heap.size V)):=fun V G=>by
        have h1:=accused_any x N vs L U ap V.heap.size V (HX.out V (HW4.out V G)).2 (HX.out V (HW4.out V G)).1 nl b6.out;rw [aW.out,aj] at h1;exact h1
       have cM:Hid (∀(CA CB:Option Addr) (ca cb:Nat) (V:World),Sl I V V.heap.size CA Z.length Z->Sl I V V.heap.size CB Z.length Z->Calls prog 23 #[.slice CA Z.length ca,.slice CB Z.length cb] V fun e H=>e= .returned (.bool true)/\∃r,H=V.drewN r):=fun CA CB ca cb V h1 h2=>by
        have Y:=ints_any CA CB Z.length Z.length Z Z ca cb V V.heap.size h1 h2 om om;rw [decide_eq_true rfl] at Y;exact Y
       rw [cy.out];clear G bH aj
       go_wp2_with (first
        |(go_at_call 11;(with_reducible refine (bu.out _ (HW4.out _ aT.out)).mono ?_);rintro e ck ⟨rfl,M⟩;(have aJ:Hid (Below w4.heap.size w4 ck):=bt aT.out M);(have aB:=lh ((aB.out.up M nl).more' M.size));(have ce:=lh (rangeVwK (aF.out _ aJ.out)));clear M)
        |(with_reducible refine ybN (op:=⟨some 100,_,_,_,_,_⟩) ya9 29 (.tmp 2) rfl w.heap.size 0 rfl (cVw x).toList _ ce.out underlying29 rfl (sizeVwK x) ?_)
        |(go_at_call 19;(with_reducible refine (cF.out _ aJ.out).mono ?_);rintro e bb ⟨v,rfl,ho,M⟩;(obtain ⟨C1,c1,G,hc,bj,_⟩:=ho.shape);subst G;(have cG:Hid (Sl I bb bb.heap.size C1 Z.length Z):=⟨rfl,bj⟩);(have bZ:Hid (Below w4.heap.size w4 bb):=bt aJ.out M);(have aB:=lh ((aB.out.up M nl).more' M.size));clear ho hc bj M)
        |(go_at_call 23;(with_reducible refine (cM.out _ _ _ _ _ cG.out aB.out).mono ?_);rintro e cW ⟨rfl,r,rfl⟩))
       go_ret;exact ⟨rfl,HW4.out _ (ybd bZ.out _)⟩
