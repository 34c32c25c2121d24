import Derived.Test.YtpdledjgbgalcaaGreatDoorPt
namespace Go.Proofs.YtpdledjgbgalcaaGreatDoor
set_option maxRecDepth 100000
set_option maxHeartbeats 32000000
open Go.RowKit Go.Lib Go.Proofs.Tryz
set_option linter.unusedVariables false
set_option linter.unusedSimpArgs false
theorem Tryz.infoIN:(prog.info? 3).map (fun i=>(i.zero,i.size,i.bytes))=some (some (.int .i64 0),1,8):=by kernel_rfl
theorem ownN1_apart {α β:Type} {f:α->List Value} {N:β->Value} {s:Nat} {w:World} {base base':Nat} {e K:TypeId} {v J:Value} {xs:List α} {ys:List β} (h:OwnN f s e w base v xs) (L:Own N K w base' J ys) (H:e≠K):v.ownBlock=none∨v.ownBlock≠J.ownBlock:=by
 rcases h.2 with ⟨rfl,h0⟩ |⟨g,cap,Y,rfl,h1,U,h2⟩
 ·exact .inl rfl
 ·right
  rcases L.2 with ⟨rfl,h0⟩ |⟨W,O,T,rfl,z,G,Z⟩
  ·intro e;cases e
  ·intro e;have M:g=W:=by injection e
   subst M;rw [U] at G;injection G with G;injection G with _ ht _;exact H ht
theorem ycs {P:Program} {w:World} {ops:Array Oper} {o:Oper} {a:Act} {K:Act->World->Prop} {Q:Exit->Act->World->Prop} {E:Prop} (J:o.guard=none) (G:TypeId) (M:o.op= .alloc G) (i:TypeInfo) (z:Value) (hi:P.info? G=some i) (N:i.zero=some z)
 (h:∀g w',Hid (w'.heap[g]? =some (.cells z.cells G (0,0)))->Hid (Below w.heap.size w w')->Hid (g=w.heap.size/\w'.heap.size=g+1)->K (a.put o.dst (.pointer (some ⟨g,0,none⟩))) w'):if Region.wanted o (yielded ops a.tmps)=true then Oper.wp P o a w K Q else E:=by
 have L:Region.wanted o (yielded ops a.tmps)=true:=by simp [Region.wanted,J]
 rw [if_pos L]
 have H:(Instr.alloc G true (.tuple #[])).run P w= .ok (.pointer (some ⟨w.heap.size,0,none⟩)) (w.alloc (.cells z.cells G)):=by
  simp [Instr.alloc,zeroValue,typeInfo,hi,N,go_sem]
 unfold Oper.wp;simp [execOp,M,H,Result.andThen];exact h _ _ (zy w _) bl ⟨rfl,by simp⟩
def OaR (al:List Ac) (A:Option Addr) (c:Nat) (rs:List AcR) (w:World):Prop:=OwnN fAr 20 50 w 0 (.slice A al.length c) rs/\rs.map (·.a)=al
theorem OaR.on {al:List Ac} {A:Option Addr} {c:Nat} {rs:List AcR} {w w':World} (h:OaR al A c rs w) (hb:Below w.heap.size w w'):OaR al A c rs w':=⟨h.1.on hb,h.2⟩
theorem OaR.row {J:List Ac} {A:Option Addr} {c:Nat} {rs:List AcR} {w:World} (h:OaR J A c rs w) {k:Nat} (M:k < J.length):∃b G r,A=some ⟨b,G,none⟩/\rs[k]? =some r/\J[k]? =some r.a/\w.rangeAt b (G+k*20) (fAr r):=by
 obtain ⟨T,O,H,_,K,_⟩:=OwnN.shape ydX h.1;injection H with e1 e2 _;subst e1;obtain ⟨b,G,r,h1,_,L,N⟩:=K.at_ (k:=k) (by rw [<-e2];exact M);exact ⟨b,G,r,h1,L,by rw [<-h.2,List.getElem?_map,L];rfl,fun j v H=>by rw [Nat.add_assoc];exact N j v H⟩
theorem OaR.at_ {H:List Ac} {b G c:Nat} {rs:List AcR} {w:World} (h:OaR H (some ⟨b,G,none⟩) c rs w) {k:Nat} {r:AcR} (J:k < H.length) (hr:rs[k]? =some r):w.rangeAt b (G+k*20) (fAr r):=by
 obtain ⟨L,M,r1,h1,h2,_,K⟩:=h.row J;injection h1 with h1;injection h1 with h4 h5 _;subst h4 h5;rw [hr] at h2;obtain rfl:r=r1:=Option.some.inj h2;exact K
theorem OaR.mk {G:List Ac} {base:Nat} {v:Value} {rs:List AcR} {w:World} (h:OwnN fAr 20 50 w base v rs) (h2:rs.map (·.a)=G):∃A c,v= .slice A G.length c/\OaR G A c rs w:=by
 obtain ⟨A,c,H,_,_,_⟩:=OwnN.shape ydX h;have hl:rs.length=G.length:=by rw [<-h2,List.length_map]
 rw [hl] at H;subst H;exact ⟨A,c,rfl,World.ownsRow.mono h (Nat.zero_le _),h2⟩
def rnP (l:List EnR) (d:Int) (a:Ac):Bool:=(rkF l a.R.hd a.d a.q).isSome&&decide (a.R.hd=d)
theorem rnB_eq (fks:List Int) (l:List EnR) (al:List Ac) (d:Int):(fks.contains d||al.any (rnP l d))=rnB fks l al d:=by
 unfold rnB
 congr 1
 rw [Bool.eq_iff_iff];simp
theorem any_take {al:List Ac} {P:Ac->Bool} {m:Nat} {a:Ac} (h:al[m]? =some a):(al.take (m+1)).any P=((al.take m).any P||P a):=by
 rw [List.take_add_one,h,List.any_append];simp
section
variable (x:Vw) (es:List EnR) (vs:List VtR) (pubs drs:List ByteArray) (fks:List Int) (B:Nat) (w:World) (hV:VwIn w B x es vs pubs drs fks) (hB:B<=w.heap.size) (hk:VwOk x es) (hsm:∀e∈es,e.bd.n<=65536)
include hV hB hk hsm
theorem ropen_o:Calls prog 21 #[.agg (cVw x)] w fun e G=>∃A c rs,e= .returned (.slice A (opnV x es vs pubs drs).length c)/\OaR (opnV x es vs pubs drs) A c rs G/\Below w.heap.size w G:=by
 refine (ropen_any x es vs pubs drs fks B w hV hB hk hsm).mono ?_;rintro e G ⟨v,rfl,K,rs,h1,h2,J⟩;obtain ⟨A,c,rfl,H⟩:=OaR.mk h1 J;exact ⟨A,c,rs,rfl,H,K⟩
theorem rack_r (r:AcR):Calls prog 27 #[.agg (cVw x),.agg (cAr r)] w fun e G=>e= .returned (.tuple #[.agg (akC (rkF (frE es) r.a.R.hd r.a.d r.a.q)),.bool (rkF (frE es) r.a.R.hd r.a.d r.a.q).isSome])/\Below w.heap.size w G:=
 rack_any x es vs pubs drs fks r.a.d r.a.q r.R r.a.st r.a.ix r.a.no r.a.an B w hV hB hk hsm
theorem rnamed_any (aO:x.F.n<=1000000):Calls prog 25 #[.agg (cVw x)] w fun e L=>∃v,e= .returned v/\Own I 3 L w.heap.size v (rnL (rnB fks (frE es) (opnV x es vs pubs drs)) 12)/\Below w.heap.size w L:=by
 have aR:(w.alloc (.cells (cVw x) 48)).heap.size=w.heap.size+1:=by simp
 obtain ⟨W1,aa⟩:∃W:World,W=(w.alloc (.cells (cVw x) 48)).alloc (.cells #[] 3):=⟨_,rfl⟩
 have ah:Below w.heap.size w W1:=by rw [aa];exact bl.alloc sI _
 have ap:W1.heap[w.heap.size]? =some (.cells (cVw x) 48 (0,0)):=by rw [aa];exact (zx _ _ _ sI).trans (zy w _)
 have aN:Own I 3 W1 (w.heap.size+1) (.slice (some ⟨w.heap.size+1,0,none⟩) 0 0) []:=by
  rw [aa,<-aR];exact World.ownsRow_lit _ #[] 0 nl ybd rfl
 have aM:w.heap.size+1<=W1.heap.size:=by rw [aa];simp
 have aX:Hid (∀V,Below w.heap.size w V->VwIn V V.heap.size x es vs pubs drs fks):=fun V H=>(hV.up H hB).more (lT hB H.size);have au:=lh (ropen_o x es vs pubs drs fks B W1 (hV.up ah hB) (lT hB ah.size) hk hsm)
 have aE:Hid (∀V,Below w.heap.size w V->∀r:AcR,Calls prog 27 #[.agg (cVw x),.agg (cAr r)] V fun e L=>e= .returned (.tuple #[.agg (akC (rkF (frE es) r.a.R.hd r.a.d r.a.q)),.bool (rkF (frE es) r.a.R.hd r.a.d r.a.q).isSome])/\Below V.heap.size V L):=fun V H r=>
  rack_r x es vs pubs drs fks V.heap.size V (aX.out V H) nl hk hsm r
 have a5:Hid (∀V,Below w.heap.size w V->∀d:Int,Calls prog 20 #[.slice x.F.a x.F.n x.F.c,.int .i64 d] V fun e L=>e= .returned (.bool (fks.contains d))/\V=L):=fun V H d=>in_any x.F.a x.F.n x.F.c B fks d V (hV.up H hB).F aO;obtain ⟨l,hl⟩:=gX (frE es);obtain ⟨J,af⟩:=gX (opnV x es vs pubs drs)
 have aj:J.length<=1000:=by
  rw [<-af];unfold opnV;rw [List.length_map];have h1:=ydZ (opV x es vs pubs drs) (frE es);have h2:=yb3 es;have h3:=hk.1;have h4:es.length=x.E.n:=hV.E.1.1;omega
 rw [af] at au;rw [hl] at aE;rw [hl,af];have aK:=lh (rnB_eq fks l J);obtain ⟨S,hS⟩:=gX (rnB fks l J);rw [hS] at aK ⊢;have HLN:=lh aj;have HWE:=lh aa;have HB1:=lh ah;have aF:=lh aN;have HS1:=lh aM;have aC:Hid (∀V,Below (w.heap.size+1) W1 V->V.heap[w.heap.size]? =some (.cells (cVw x) 48 (0,0))):=fun V H=>(H.block _ (Nat.lt_succ_self _)).trans ap;obtain ⟨i0,hi,aJ,aQ,aL⟩:=info_parts Tryz.infoIN;have HI:=lh hi;have bb:=lh aJ;have be:=lh aQ;have aZ:=lh aL;obtain ⟨j0,hj,aP,aT,aY⟩:=info_parts Tryz.infoE;have HJ:=lh hj;have aH:=lh aP;obtain ⟨v0,v1,v2,v3,v4,v5,v6⟩:=ybv ap;clear hV hB hk hsm aR aa ah ap aN aM hl af aj hS hi aJ aQ aL hj aP aT aY aO;go_enter func25,ntmps25;go_upto_region 2 with fail
 rw [<-HWE.out];go_wp2_with (go_at_call 21;(with_reducible refine au.out.mono ?_);rintro e w2 ⟨Ap,cp,rp,rfl,hp,hb⟩;(have T:=lh hp);(have z:Hid (Below (w.heap.size+1) W1 w2):=hb.mono HS1.out);(have U:Hid (Own I 3 w2 (w.heap.size+1) (.slice (some ⟨w.heap.size+1,0,none⟩) 0 0) (rnL S 0)):=aF.out.on hb);clear hp hb);clear v0 v1 v2 v3 v4 v5 v6
 go_loopw [3,5] (fun v i wr=>∃k:Nat,k<=12/\i= .int .i64 k/\Hid (Below (w.heap.size+1) W1 wr)/\Hid (OaR J Ap cp rp wr)/\Hid (Own I 3 wr (w.heap.size+1) v (rnL S k))) (fun _ i _=>12 - (intOf i).toNat)
 case atStart=>exact ⟨0,Nat.zero_le _,rfl,z,T,U⟩
 case round=>
  clear z T U aF au;obtain ⟨k,hk,rfl,HBr,aA,aB⟩:=hrel;have ar:Hid (Below w.heap.size w wr):=HB1.out.trans (HBr.out.mono (Nat.le_succ _))
  by_cases hlt:k < 12
  ·have a7:(k:Int) < 12:=by omega
   obtain ⟨G,a3⟩:∃G:World,G=wr:=⟨_,rfl⟩
   subst a3;obtain ⟨v0,v1,v2,v3,v4,v5,v6⟩:=ybv (aC.out _ HBr.out);obtain ⟨fc,ak⟩:=gX (fks.contains (k:Int))
   have aG:Hid (Calls prog 20 #[.slice x.F.a x.F.n x.F.c,.int .i64 k] G fun e L=>e= .returned (.bool fc)/\G=L):=by
    have h:=a5.out G ar.out (k:Int);rw [ak] at h;exact h
   have a8:Hid ((fc||J.any (rnP l (k:Int)))=S (k:Int)):=by
    show _=_;rw [<-ak,aK.out]
   have a0:Hid (∀V,Below G.heap.size G V->V.heap[w.heap.size]? =some (.cells (cVw x) 48 (0,0))):=fun V H=>aC.out _ (HBr.out.trans (H.mono (lT HS1.out HBr.out.size)));have aV:Hid (∀V,Below G.heap.size G V->Below w.heap.size w V):=fun V H=>bt ar.out H;clear ak;go_upto_region 8 with (go_at_call 20;(with_reducible refine aG.out.mono ?_);rintro e L ⟨rfl,rfl⟩)
   clear v0 v1 v2 v3 v4 v5 v6 aG
   go_loopw [6,7] (fun f j wr=>∃m:Nat,m<=J.length/\j= .int .i64 m/\f= .bool (fc||(J.take m).any (rnP l (k:Int)))/\Hid (Below G.heap.size G wr)) (fun _ j _=>J.length - (intOf j).toNat)
   case atStart=>exact ⟨0,Nat.zero_le _,rfl,by simp,Below.refl _ _⟩
   case round=>
    obtain ⟨m,hm,rfl,rfl,HQ⟩:=hrel
    by_cases hml:m < J.length
    ·have a4:(m:Int) < (J.length:Int):=by omega
     have aj:=HLN.out;obtain ⟨b,ac,r,rfl,hr,aD,a9⟩:=(aA.out.on HQ.out).row hml;have ai:Hid (∀V,Below G.heap.size G V->V.rangeAt b (ac+m*20) (fAr r)):=fun V H=>(aA.out.on H).at_ hml hr;obtain ⟨o,ho⟩:=gX (rkF l r.a.R.hd r.a.d r.a.q);obtain ⟨ob,am⟩:=gX (o.isSome)
     have aq:Hid (∀V,Below G.heap.size G V->Calls prog 27 #[.agg (cVw x),.agg (cAr r)] V fun e L=>e= .returned (.tuple #[.agg (akC o),.bool ob])/\Below V.heap.size V L):=fun V H=>by
      have h:=aE.out V (aV.out V H) r;rw [ho,am] at h;exact h
     obtain ⟨cb,ax⟩:=gX ((fc||(J.take m).any (rnP l (k:Int))))
     have ag:Hid ((fc||(J.take (m+1)).any (rnP l (k:Int)))=(cb||(ob&&decide (r.a.R.hd=(k:Int))))):=by
      show _=_;rw [any_take aD,<-Bool.or_assoc,ax];unfold rnP;rw [ho,am]
     rw [ax];have HD:Hid (Below G.heap.size G wr.drew):=HQ.out.drew;have HKP:Hid (∀V,Below G.heap.size G V->V.heap[w.heap.size]? =some (.cells (cVw x) 48 (0,0))/\V.rangeAt b (ac+m*20) (fAr r)):=fun V H=>⟨a0.out V H,ai.out V H⟩;clear hr aD a9 ho am ax;go_upto_region 10 with fail
     refine rH (S:=(fun L=>L.heap[w.heap.size]? =some (.cells (cVw x) 48 (0,0))/\L.rangeAt b (ac+m*20) (fAr r))) ybi (by exact HKP.out _ HD.out) (fun bf=>?_);refine tkH (i:=0) (v:=_) (y:=(Or.inl ⟨by rfl,by (intro w hSw;(try dsimp only at hSw);obtain ⟨v0,v1,v2,v3,v4,v5,v6⟩:=ybv hSw.1;go_simp;try (with_reducible rfl))⟩)) (h:=?_)
     try simp only [pt]
     (iterate 3 refine tkA ?_)
     refine tkH (i:=4) (v:=_) (y:=(yieldsIf_load_mid (by rfl) 50 (.tmp 31) rfl b (ac+m*20) (by rfl) (fAr r) _ (fun _ h=>h.2) underlying50 rfl (sizeArR r))) (h:=?_)
     try simp only [pt]
     all_goals
      (first |refine rb2 5 9 (fun K Z=>?_) (fun K Z=>?_))<;>(first
        |(go_simp;go_at_call 27;(with_reducible refine (aq.out _ (by first |exact HB9.out |exact HD.out)).mono ?_);rintro e w5 ⟨rfl,N⟩;(have O:Hid (Below G.heap.size G w5):=by first |exact bt HB9.out N |exact bt HD.out N);(try (have M:=lh ((N.block _ (lb M.out)).trans M.out)));clear N;go_wp2_with fail)
        |((refine ycs (o:=⟨some 8,_,_,_,_,_⟩) rfl 55 rfl j0 (.agg zEn) HJ.out aH.out ?_);intro g9 w9 M Y aw;(have HB9:Hid (Below G.heap.size G w9):=by first |exact bt O.out Y.out |exact bt HD.out Y.out))
        )<;>(refine Z.out _ _ (by first |exact HKP.out _ O.out |exact HKP.out _ HB9.out) (fun ae=>?_))<;>(clear Z K)<;>(try simp only [pt])
     all_goals try (refine tkY 6 ?_;refine tkY 7 ?_;refine tkY 8 ?_)
     all_goals
      (first |refine rb1 5 (fun K Z=>?_) |refine rb1 9 (fun K Z=>?_))<;>(first
        |(go_simp;go_at_call 27;(with_reducible refine (aq.out _ (by first |exact HB9.out |exact HD.out)).mono ?_);rintro e w5 ⟨rfl,N⟩;(have O:Hid (Below G.heap.size G w5):=by first |exact bt HB9.out N |exact bt HD.out N);(try (have M:=lh ((N.block _ (lb M.out)).trans M.out)));clear N;go_wp2_with fail)
        |((refine ycs (o:=⟨some 8,_,_,_,_,_⟩) rfl 55 rfl j0 (.agg zEn) HJ.out aH.out ?_);intro g9 w9 M Y aw;(have HB9:Hid (Below G.heap.size G w9):=by first |exact bt O.out Y.out |exact bt HD.out Y.out))
        )<;>(refine Z.out _ _ (by first |exact HKP.out _ O.out |exact HKP.out _ HB9.out) (fun ae=>?_))<;>(clear Z K)<;>(try simp only [pt])
     all_goals try (refine tkY 6 ?_;refine tkY 7 ?_;refine tkY 8 ?_)
     all_goals
      refine rd1 10 (fun K Z=>?_)
      ((refine ybu (g:=g9) rfl 55 (.tmp 8) (.tmp 34) rfl 55 zEn (akC o) rfl rfl M.out (sizeAk o) (sizeAk6 o) (akC_all o) ?_);intro w7 bg ay;(have HB7:Hid (Below G.heap.size G w7):=by first |exact HB9.out.trans (ay.out.below HB9.out.size (fun i hi=>by subst hi;have h:=aw.out.1;have h2:=O.out.size;have h3:=HD.out.size;omega)) |exact O.out.trans (ay.out.below O.out.size (fun i hi=>by subst hi;have h:=aw.out.1;have h2:=HB9.out.size;have h3:=HD.out.size;omega))))
      refine Z.out _ _ (by exact HKP.out _ HB7.out) (fun aS=>?_);clear Z K ae
      try simp only [pt]
      refine tkY 11 ?_;refine wpAnyH_done ybi ?_ _;go_upto_region 11 with fail
      have x2:w7.cell? ⟨b,ac+m*20+2,none⟩=some (.int .i64 r.a.R.hd):=ai.out w7 HB7.out 2 _ rfl;clear aq HKP ai M
      cases cb with
      |true=>
       go_wp2_with fail
       go_roundw
       case rel=>exact ⟨m+1,by omega,by go_num,by rw [ag.out];rfl,HB7⟩
       case measure=>simp [intOf];omega
      |false=>
       cases ob with
       |false=>
        go_wp2_with fail
        go_roundw
        case rel=>exact ⟨m+1,by omega,by go_num,by rw [ag.out];rfl,HB7⟩
        case measure=>simp [intOf];omega
       |true=>
        by_cases hd:r.a.R.hd=(k:Int)
        ·rw [hd] at x2;have az:Hid ((fc||(J.take (m+1)).any (rnP l (k:Int)))=true):=by show _=_;rw [ag.out,hd];simp
         clear hd;go_wp2_with fail;go_roundw;case rel=>exact ⟨m+1,by omega,by go_num,by rw [az.out],HB7⟩
         case measure=>simp [intOf];omega
        ·have bh:(r.a.R.hd==(k:Int))=false:=by simp [hd]
         have a2:decide (r.a.R.hd=(k:Int))=false:=by simp [hd]
         have az:Hid ((fc||(J.take (m+1)).any (rnP l (k:Int)))=false):=by show _=_;rw [ag.out,a2];rfl
         go_wp2_with fail
         go_roundw
         case rel=>exact ⟨m+1,by omega,by go_num,by rw [az.out],HB7⟩
         case measure=>simp [intOf];omega
    ·obtain rfl:m=J.length:=by omega
     have a4:¬(J.length:Int) < (J.length:Int):=by omega
     rw [List.take_length,a8.out];have U:=lh (Own.on aB.out HQ.out);have T:=lh (aA.out.on HQ.out);have z:Hid (Below (w.heap.size+1) W1 wr):=HBr.out.trans (HQ.out.mono (lT HS1.out HBr.out.size));have aI:Hid (w.heap.size+1<=wr.heap.size):=lT HS1.out z.out.size
     cases hb:S (k:Int) with
     |true=>
      have ao:=lh (rnL_yes hb);have a1:=rnL_len S k;have aU:Hid (((rnL S k).length+1)*8<=140737488355328):=by show _<=_;omega
      have a6:Hid ((rnL S k).length+1<=maxLen):=by show _<=_;unfold maxLen;omega
      clear hb a1;go_wp2_with (at_builtin;(with_reducible refine ybw (o:=⟨some 54,_,_,_,_,_⟩) rfl (.tmp 51) (.tmp 53) 27 rfl 3 i0 (.int .i64 0) 8 underlying27 HI.out bb.out be.out aZ.out rfl _ (rnL S k) (w.heap.size+1) rfl U.out (k:Int) 1 rfl I1 aU.out a6.out aI.out ?_);intro v5 w5 aW HG5 bi);go_roundw;case rel=>exact ⟨k+1,by omega,by go_num,Own.below U.out z.out nl aI.out HG5.out,⟨World.ownsRow.kept T.out.1 HG5.out (ownN1_apart T.out.1 U.out de),T.out.2⟩,by show Own ..;rw [ao.out];exact aW.out⟩
      case measure=>simp [intOf];omega
     |false=>
      have ao:=lh (rnL_no hb);clear hb;go_wp2_with fail;go_roundw;case rel=>exact ⟨k+1,by omega,by go_num,z,T,by show Own ..;rw [ao.out];exact U.out⟩
      case measure=>simp [intOf];omega
  ·obtain rfl:k=12:=by omega
   have a7:¬((12:Nat):Int) < 12:=by omega
   go_wp2_with fail
   go_ret;exact ⟨_,rfl,World.ownsRow.mono aB.out (Nat.le_succ _),ar.out⟩
end
theorem step_sliceP {P:Program} {w:World} {ops:Array Oper} {o:Oper} {a:Act} {K:Act->World->Prop} {Q:Exit->Act->World->Prop} {E:Prop} (M:o.guard=none) (t e:TypeId) {x y:Operand} (O:o.op= .buildSlice t 2 #[(0,x),(1,y)]) (i:TypeInfo) (z:Value) (ht:P.underlying t=some (.slice e)) (hi:P.info? e=some i) (Y:i.zero=some z) (hs:i.size=6) (Z:z.cells.size=6) (xs ys:Array Value) (W:a.eval x= .agg xs) (U:a.eval y= .agg ys) (J:xs.size=6) (H:ys.size=6)
 (h:∀g w',Hid (w'.heap[g]? =some (.cells (xs++ys) e (0,0)))->Hid (Below w.heap.size w w')->K (a.put o.dst (.slice (some ⟨g,0,none⟩) 2 2)) w'):if Region.wanted o (yielded ops a.tmps)=true then Oper.wp P o a w K Q else E:=by
 have N:Region.wanted o (yielded ops a.tmps)=true:=by simp [Region.wanted,M]
 rw [if_pos N];refine wp_buildSlice t e 2 #[(0,x),(1,y)] O (xs++ys) i z ht hi Y (by rw [hs];decide) (by rw [hs];decide) ?_ (h _ _ (zy w _) bl);obtain ⟨u,L⟩:∃u:Array Value,(Array.range (2*i.size)).map (fun k=>z.cells[k % z.cells.size]!)=u:=⟨_,rfl⟩
 have G:u.size=12:=by rw [<-L,hs];simp
 show Instr.fill _ ((Array.range (2*i.size)).map (fun k=>z.cells[k % z.cells.size]!)) _=_;rw [L];obtain ⟨T,rfl,h0⟩:∃l:List Value,u=l.toArray/\l.length=12:=⟨u.toList,rfl,by simpa using G⟩
 obtain ⟨l1,rfl,h1⟩:∃l:List Value,xs=l.toArray/\l.length=6:=⟨xs.toList,rfl,by simpa using J⟩
 obtain ⟨l2,rfl,h2⟩:∃l:List Value,ys=l.toArray/\l.length=6:=⟨ys.toList,rfl,by simpa using H⟩
 clear L G J H
 match T,h0,l1,h1,l2,h2 with
 | [u0,u1,u2,u3,u4,u5,u6,u7,u8,u9,u10,u11],_,[a0,a1,a2,a3,a4,a5],_,[b0,b1,b2,b3,b4,b5],_=>
   simp [hs,W,U,Instr.fill,Value.cells]
def PfQ (r:Option (EnR × EnR)) (v:Value) (er:Int) (w':World):Prop:=match r with
 |some (a,m)=>er=0/\∃g A1 n1 A2 n2,v= .slice (some ⟨g,0,none⟩) 2 2/\w'.rangeAt g 0 (fEn {a with bd:=⟨A1,a.bd.n,n1⟩}++fEn {m with bd:=⟨A2,m.bd.n,n2⟩})/\g < w'.heap.size/\Sl fB w' w'.heap.size A2 m.bd.n m.bs
 |none=>er=4/\v= .slice none 0 0
theorem PfQ.on {r:Option (EnR × EnR)} {v:Value} {er:Int} {w H:World} (h:PfQ r v er w) (G:Below w.heap.size w H):PfQ r v er H:=by
 cases r with
 |none=>exact h
 |some p=>
  obtain ⟨a,m⟩:=p;obtain ⟨h0,g,K,M,L,O,h1,h2,J,N⟩:=h;exact ⟨h0,g,K,M,L,O,h1,fun j u hj=>(cB (G.block _ J)).trans (h2 j u hj),Nat.lt_of_lt_of_le J G.size,(N.up G nl).more' G.size⟩
def PfR (r:Option (EnR × EnR)) (w:World) (e:Ending) (w':World):Prop:=∃v er,e= .returned (.tuple #[v,.int .i64 er])/\PfQ r v er w'/\Below w.heap.size w w'
theorem proofR_any (x:Vw) (G:List EnR) (vs:List VtR) (M T:List ByteArray) (fks:List Int) (B:Nat) (w:World) (hG:Glob w) (hV:VwIn w B x G vs M T fks) (hB:B<=w.heap.size) (hk:VwOk x G) (bC:x.E.n<=400) (dev:Int):
 Calls prog 26 #[.agg (cVw x),.int .i64 dev] w (PfR (pfF (mtsE mtX (frE G)) dev (cgL (opV x G vs M T) (frE G))) w):=by
 obtain ⟨W1,ah⟩:∃W1:World,W1=w.alloc (.cells (cVw x) 29):=⟨_,rfl⟩
 have aj:Below w.heap.size w W1:=by rw [ah];exact bl
 have aQ:W1.heap[w.heap.size]? =some (.cells (cVw x) 29 (0,0)):=by rw [ah];exact zy w _
 have aA:Hid (Calls prog 50 #[.agg (cVw x)] W1 (JdP aqX mtX x G W1)):=judge_of x G vs M T fks B W1 (hV.up aj hB) (lT hB aj.size) hk
 have ap:Hid (∀V L s k z U A n c mN W Z,Below w.heap.size w V->JSt V L s k z U x (frE G) A n c mN W Z (hasE (frE G)) (pcsE aqX (frE G)) (mtsE mtX (frE G))->Calls prog 51 #[.pointer (some ⟨s+3,0,none⟩)] V (CgP (opV x G vs M T) (frE G) V)):=fun V L s k z U A n c mN W Z h1 hJ=>
  charges_of L _ k z U x G vs M T fks A n c mN W Z _ B V (hG.on h1) hJ (hV.up h1 hB) (lT hB h1.size) hk
 have bu:G.length=x.E.n:=hV.E.1.1
 have az:Hid (∀V L s k z U A n c mN W Z,JSt V L s k z U x (frE G) A n c mN W Z (hasE (frE G)) (pcsE aqX (frE G)) (mtsE mtX (frE G))->∀r:AcR,int64 r.a.R.hd->Calls prog 60 #[.pointer (some ⟨s+3,0,none⟩),.agg (cAr r)] V fun e J=>e= .returned (.tuple #[.agg (akC (akF (mtsE mtX (frE G) r.a.R.hd) r.a.d r.a.q)),.bool (akF (mtsE mtX (frE G) r.a.R.hd) r.a.d r.a.q).isSome])/\Below V.heap.size V J):=fun V L s k z U A n c mN W Z hJ r hh=>
  ackE_any L s k z U x G A n c mN W Z om r V hJ hh
 have aL:Hid (∀e∈frE G,0 < e.bs.length->∀V,Below w.heap.size w V->Calls prog 61 #[.agg (fEn e).toArray] V fun r J=>∃A' c',r= .returned (.agg (fEn {e with bd:=⟨A',e.bd.n,c'⟩}).toArray)/\e.bd.n<=c'/\Sl fB J J.heap.size A' e.bd.n e.bs/\Below V.heap.size V J):=fun e he h0 V N=>
  eclone_any e B V ((hV.up N hB).E.2 e (yce he)).1 (lT hB N.size) (by have h1:e.bs.length=e.bd.n:=(hV.E.2 e (yce he)).1.1;omega) (hk.2.2 e (yce he))
 obtain ⟨cl,aa⟩:=gX (cgL (opV x G vs M T) (frE G));obtain ⟨ml,hml⟩:=gX (mtsE mtX (frE G))
 have a8:Hid (∀p∈cl,int64 p.1.R.hd/\p.2∈frE G/\0 < p.2.bs.length):=fun p hp=>by
  rw [<-aa] at hp;have h1:=(cgL_ok p hp).1.1;exact ⟨⟨Int.le_trans de h1.1,Int.le_trans h1.2 de⟩,cgL_pos p hp⟩
 have bx:Hid (∀hd d q m,akF (ml hd) d q=some m->m∈frE G/\0 < m.bs.length):=fun hd d q m h=>by rw [<-hml] at h;exact akF_pos h
 have HLN:Hid (cl.length<=400):=by
  show _<=_;rw [<-aa];have h1:=ydZ (opV x G vs M T) (frE G);have h2:=yb3 G;omega
 have bk:=lh aa;rw [aa,hml];rw [hml] at ap az;have HB1:=lh aj;have HWE:=lh ah;obtain ⟨v0,v1,v2,v3,v4,v5,v6⟩:=ybv aQ;clear hG hV hB hk bC aj aQ ah aa bu;have bp:=lh hml;clear hml;go_enter func26,ntmps26;go_upto_region 1 with fail
 rw [<-HWE.out]
 go_wp2_with (first
  |(go_at_call 50;(with_reducible refine aA.out.mono ?_);rintro e V2 ⟨rfl,ar,L,jk,z,U,A,n,c,mN,W,Z,hJ⟩;rw [bp.out] at hJ;(have aR:=lh (ap.out V2 L W1.heap.size jk z U A n c mN W Z (bt HB1.out ar) hJ));(have bm:=lh ar);(have aM:=lh hJ);clear ar hJ)
  |(go_at_call 51;(with_reducible refine aR.out.mono ?_);rintro e V3 ⟨v,rfl,au,cs,ho,hr,hm⟩;(obtain ⟨CA,cc,N,hc,aS,bh⟩:=OwnN.shape fCg_len ho);subst N;(have bo:=lh aS);(have HMM:Hid (cs.map (fun c=>(c.r.a,c.e))=cl):=hm.trans bk.out);(have bz:=lh (aM.out.on au));(have br:Hid (Below w.heap.size w V3):=HB1.out.trans ((bt bm.out au).mono HB1.out.size));(have HCL:Hid (cs.length=cl.length):=by (show _=_;rw [<-HMM.out];simp));clear au ho hr hm hc aS bh))
 clear v0 v1 v2 v3 v4 v5 v6 aR aM ap aA;have aG:Hid (∀(j:Nat) p,j < 0->cl[j]? =some p->pfB ml dev p=false):=fun j p hj=>absurd hj om;have aF:Hid (Below V3.heap.size V3 V3):=Below.refl _ _;have bG:cs.length<=400:=by have h1:=HLN.out;have h2:=HCL.out;omega
 go_loopw [16] (fun i wr=>∃j:Nat,j<=cs.length/\i= .int .i64 j/\Hid (∀(k:Nat) p,k < j->cl[k]? =some p->pfB ml dev p=false)/\Hid (Below V3.heap.size V3 wr)) (fun i _=>cs.length - (intOf i).toNat)
 case atStart=>exact ⟨0,Nat.zero_le _,rfl,aG,aF⟩
 case round=>
  clear aG aF;obtain ⟨j,hj,rfl,HN,HBr⟩:=hrel;have aU:Hid (Below w.heap.size w wr):=bt br.out HBr.out
  by_cases hlt:j < cs.length
  ·obtain ⟨b,aP,c1,rfl,bI,a4,aX⟩:=(bo.out.up HBr.out nl).at_ hlt;have bf:(j:Int) < (cs.length:Int):=by omega
   have ae:cl[j]? =some (c1.r.a,c1.e):=by rw [<-HMM.out,List.getElem?_map,a4];rfl
   have aB:=lh (a8.out _ (List.mem_of_getElem? ae));have aK:=lh ae
   have aT:Hid (pfB ml dev (c1.r.a,c1.e)=false->∀(k:Nat) p,k < j+1->cl[k]? =some p->pfB ml dev p=false):=fun h k p hk hp=>by
    by_cases bi:k < j
    ·exact HN.out k p bi hp
    ·obtain rfl:k=j:=by omega
     rw [aK.out] at hp;rw [<-Option.some.inj hp];exact h
   have a2:Hid (wr.rangeAt b (aP+j*26) (fCg c1)):=fun i v N=>by rw [Nat.add_assoc];exact aX i v N
   have aZ:Hid ((wr.alloc (.cells zCg 109)).heap[wr.heap.size]? =some (.cells zCg 109 (0,0))):=zy wr _;clear aX a4 ae
   go_upto_region 5 with (first
    |(with_reducible refine wpList_load_mid (op:=⟨some 19,_,_,_,_,_⟩) rfl 109 (.tmp 18) rfl b (aP+j*26) rfl (fCg c1) _ a2.out underlying109 rfl (sizeCgL c1) ?_)
    |((with_reducible refine ybk (o:=⟨none,_,_,_,_,_⟩) rfl 109 (.tmp 8) (.tmp 19) rfl wr.heap.size 109 _ _ rfl rfl aZ.out (sizeCg c1) rfl (fCg_all c1) ?_);intro W4 ag a5;(have ax:Hid (Below wr.heap.size wr W4):=((Below.refl _ wr).alloc nl (.cells zCg 109)).trans (a5.out.below sI (fun i hi=>by subst hi;exact Nat.le_refl _)))))
   have aO:=lh (rangeCg ag.out);have aV:W4.cell? ⟨wr.heap.size,2,none⟩=some (.int .i64 c1.r.a.R.hd):=by rw [cell_of_row W4 _ _ _ _ _ ag.out];rfl
   by_cases hd:c1.r.a.R.hd=dev
   ·have aq:=lh (az.out W4 L W1.heap.size jk z U A n c mN W Z (bz.out.on (bt HBr.out ax.out)) c1.r aB.out.1);obtain ⟨o,ho⟩:=gX (akF (ml c1.r.a.R.hd) c1.r.a.d c1.r.a.q);rw [ho] at aq;have HO:=lh ho;have bA:=lh hd;rw [hd] at aV;clear ho hd a2 aZ
    go_upto_region 7 with (first
     |(with_reducible refine wpList_load_mid (op:=⟨some 29,_,_,_,_,_⟩) rfl 39 (.tmp 28) rfl wr.heap.size 0 rfl (fAr c1.r) _ aO.out underlying39 rfl (sizeArL c1.r) ?_)
     |(go_at_call 60;(with_reducible refine aq.out.mono ?_);rintro e Y ⟨rfl,a0⟩;(have bB:=lh a0);(have HGE:Hid ((Y.alloc (.cells zEn 55)).heap[Y.heap.size]? =some (.cells zEn 55 (0,0))):=zy Y _);clear a0)
     |((with_reducible refine ybk (o:=⟨none,_,_,_,_,_⟩) rfl 55 (.tmp 9) (.tmp 31) rfl Y.heap.size 55 _ _ rfl rfl HGE.out (sizeAk o) (sizeAk6 o) (akC_all o) ?_);intro H aE a6;(have HB6:Hid (Below Y.heap.size Y H):=((Below.refl _ Y).alloc nl (.cells zEn 55)).trans (a6.out.below sI (fun i hi=>by subst hi;exact Nat.le_refl _)))))
    have ay:Hid (Below W4.heap.size W4 H):=bt bB.out HB6.out;have am:Hid (Below wr.heap.size wr H):=bt ax.out ay.out
    cases o with
    |none=>
     have aC:=lh (aT.out (by unfold pfB;rw [HO.out];simp));go_wp2_with fail;go_roundw;case rel=>exact ⟨j+1,by omega,by go_num,aC,bt HBr.out am.out⟩
     case measure=>simp [intOf];omega
    |some m=>
     have aw:Hid (pfF ml dev cl=some (c1.e,m)):=pfF_some (p:=(c1.r.a,c1.e)) HN.out aK.out bA.out HO.out;have a3:=lh (bx.out _ _ _ _ HO.out);have O:Hid (Below w.heap.size w H):=bt aU.out am.out;have ac:H.heap[wr.heap.size]? =some (.cells (fCg c1).toArray 109 (0,0)):=(ay.out.block _ (lb ag.out)).trans ag.out
     have af:Hid (∀V,Below H.heap.size H V->V.rangeAt wr.heap.size 20 (fEn c1.e)/\V.rangeAt Y.heap.size 0 (fEn m)):=fun V N=>by
      refine ⟨fun j v hj=>?_,fun j v hj=>?_⟩
      ·rw [cell_of_row V _ _ _ _ _ ((N.block _ (lb ac)).trans ac),List.getElem?_toArray]
       have h1:(fCg c1)[20+j]? =(fEn c1.e)[j]? :=by
        rw [List.getElem?_append_right (by rw [ydX];omega),ydX,Nat.add_sub_cancel_left]
       exact h1.trans hj
      ·rw [cell_of_row V _ _ _ _ _ ((N.block _ (lb aE.out)).trans aE.out),Nat.zero_add,<-Array.getElem?_toList];exact hj
     have be:Hid (∀V,Below H.heap.size H V->Calls prog 61 #[.agg (fEn c1.e).toArray] V fun r J=>∃A' c',r= .returned (.agg (fEn {c1.e with bd:=⟨A',c1.e.bd.n,c'⟩}).toArray)/\c1.e.bd.n<=c'/\Sl fB J J.heap.size A' c1.e.bd.n c1.e.bs/\Below V.heap.size V J):=fun V N=>aL.out c1.e aB.out.2.1 aB.out.2.2 V (bt O.out N);have bv:Hid (∀V,Below H.heap.size H V->Calls prog 61 #[.agg (fEn m).toArray] V fun r J=>∃A' c',r= .returned (.agg (fEn {m with bd:=⟨A',m.bd.n,c'⟩}).toArray)/\m.bd.n<=c'/\Sl fB J J.heap.size A' m.bd.n m.bs/\Below V.heap.size V J):=fun V N=>aL.out m a3.out.1 a3.out.2 V (bt O.out N);obtain ⟨i0,z0,aW,aJ,aH,bF,aN⟩:=ycP Tryz.infoEn;have bE:=lh aW;have bg:=lh aJ;have bq:=lh aH;have bb:=lh aN;clear aW aJ aH bF aN aV aq aO ac;go_wp2_with fail;refine rH (S:=(fun J=>J.rangeAt wr.heap.size 20 (fEn c1.e)/\J.rangeAt Y.heap.size 0 (fEn m))) ybi (by exact af.out _ (Below.refl _ H).drew) (fun aD=>?_);refine tkY 0 ?_;refine tkH (i:=1) (v:=_) (y:=(yieldsIf_load_mid (by rfl) 55 (.tmp 34) rfl wr.heap.size 20 (by rfl) (fEn c1.e) _ (fun _ h=>h.1) underlying55 rfl (sizeEnL c1.e))) (h:=?_)
     try simp only [pt]
     refine tkH (i:=3) (v:=_) (y:=(yieldsIf_load_mid (by rfl) 55 (.tmp 9) rfl Y.heap.size 0 (by rfl) (fEn m) _ (fun _ h=>h.2) underlying55 rfl (sizeEnL m))) (h:=?_)
     try simp only [pt]
     refine rd1 2 (fun K hK=>?_)
     (go_simp;go_at_call 61;(with_reducible refine (be.out _ (Below.refl _ H).drew).mono ?_);rintro e w7 ⟨A1,n1,rfl,a9,bw,a1⟩;(have HB7:Hid (Below H.heap.size H w7):=(Below.refl _ H).drew.trans a1);clear a1 bw a9;go_wp2_with fail)
     refine hK.out _ _ (by exact af.out _ HB7.out) (fun al=>?_);clear hK K aD
     try simp only [pt]
     refine rd1 4 (fun K hK=>?_)
     (go_simp;go_at_call 61;(with_reducible refine (bv.out _ HB7.out).mono ?_);rintro e w8 ⟨A2,n2,rfl,bD,aI,ao⟩;(have bH:=lh ao);(have ai:Hid (Below H.heap.size H w8):=bt HB7.out ao);(have bj:=lh aI);clear ao aI bD;go_wp2_with fail)
     refine hK.out _ _ (by exact af.out _ ai.out) (fun ak=>?_);clear hK K al
     try simp only [pt]
     refine rd1 5 (fun K hK=>?_)
     ((refine step_sliceP rfl 22 55 rfl i0 z0 underlying22 bE.out bg.out bq.out bb.out (fEn {c1.e with bd:=⟨A1,c1.e.bd.n,n1⟩}).toArray (fEn {m with bd:=⟨A2,m.bd.n,n2⟩}).toArray rfl rfl rfl rfl ?_);intro g9 w9 aY HB9)
     refine hK.out _ _ (by exact af.out _ (bt ai.out HB9.out)) (fun a7=>?_);clear hK K ak
     try simp only [pt]
     (iterate 2 refine tkA ?_)
     refine wpAnyH_done ybi ?_ _;go_wp2_with fail;go_ret2;rw [aw.out];refine ⟨_,_,rfl,⟨rfl,g9,A1,n1,A2,n2,rfl,fun j v hj=>?_,lt_of_block aY.out,?_⟩,O.out.trans ((ai.out.mono O.out.size).trans (HB9.out.mono (lT O.out.size ai.out.size)))⟩
     ·rw [Nat.zero_add,cell_of_row w9 _ _ _ _ _ aY.out,<-Array.getElem?_toList];exact hj
     ·exact (bj.out.up HB9.out nl).more' HB9.out.size
   ·have bJ:(c1.r.a.R.hd != dev)=true:=by simp [hd]
    have aC:=lh (aT.out (by unfold pfB;simp [hd]));clear hd;go_wp2_with fail;go_roundw;case rel=>exact ⟨j+1,by omega,by go_num,aC,bt HBr.out ax.out⟩
    case measure=>simp [intOf];omega
  ·obtain rfl:j=cs.length:=by omega
   have bf:¬(cs.length:Int) < (cs.length:Int):=by omega
   have aw:Hid (pfF ml dev cl=none):=pfF_none (fun k p hp=>HN.out k p (by rw [HCL.out];exact (List.getElem?_eq_some_iff.1 hp).1) hp);go_wp2_with fail;go_ret2;rw [aw.out];exact ⟨_,_,rfl,⟨rfl,rfl⟩,aU.out⟩
theorem sumB_memQ:∀ {es:List EnR} {e:EnR},e∈es->e.bd.n<=sumB es
 | [],_,h=>by cases h
 |a::t,e,h=>by
  rw [sumB];rcases List.mem_cons.1 h with rfl |h
  ·omega
  ·have:=sumB_memQ h;omega
def lwP (l:List EnR) (dev:Int) (a:Ac):Bool:=decide (a.R.hd=dev)&&(rkF l a.R.hd a.d a.q).isSome
theorem pf_none {l:List EnR} {op:Ac->Bool} {dev:Int} (hn:∀a∈(cgL op l).map (·.1),numB a.d a.q=true) (h:∀(j:Nat) a,((cgL op l).map (·.1))[j]? =some a->lwP l dev a=false):pfF (mtsE mtX l) dev (cgL op l)=none:=
 pfF_none fun j p hp=>by
  have h1:((cgL op l).map (·.1))[j]? =some p.1:=by rw [List.getElem?_map,hp];rfl
  have h2:=h j p.1 h1;unfold lwP at h2;unfold pfB;rw [<-rk_ak (hn p.1 (List.mem_of_getElem? h1))];exact h2
theorem pf_some {l:List EnR} {op:Ac->Bool} {dev:Int} (hn:∀a∈(cgL op l).map (·.1),numB a.d a.q=true) {k:Nat} {a:Ac} {m:EnR} (h:∀(j:Nat) a,j < k->((cgL op l).map (·.1))[j]? =some a->lwP l dev a=false) (H:((cgL op l).map (·.1))[k]? =some a) (hd:a.R.hd=dev) (J:rkF l a.R.hd a.d a.q=some m):
 ∃e:EnR,e.k=6/\e.dv=a.d/\e.sq=a.q/\pfF (mtsE mtX l) dev (cgL op l)=some (e,m):=by
 rw [List.getElem?_map] at H;obtain ⟨p,hp,rfl⟩:=Option.map_eq_some_iff.1 H;have G:=cgL_ent p (List.mem_of_getElem? hp);refine ⟨p.2,G.2.1,G.2.2.1.symm,G.2.2.2.symm,pfF_some (fun j q hj K=>?_) hp hd ?_⟩
 ·have h1:((cgL op l).map (·.1))[j]? =some q.1:=by rw [List.getElem?_map,K];rfl
  have h2:=h j q.1 hj h1;unfold lwP at h2;unfold pfB;rw [<-rk_ak (hn q.1 (List.mem_of_getElem? h1))];exact h2
 ·rw [<-rk_ak (hn p.1 (List.mem_of_getElem? (by rw [List.getElem?_map,hp];rfl:((cgL op l).map (·.1))[k]? =some p.1)))];exact J
theorem cg_num {op:Ac->Bool} {l:List EnR}:∀a∈(cgL op l).map (·.1),numB a.d a.q=true:=fun a ha=>by
 obtain ⟨p,hp,rfl⟩:=List.mem_map.1 ha;obtain ⟨e,G,h⟩:=List.mem_filterMap.1 hp;unfold cgE at h
 split at h
 ·next g=>
  injection h with h;subst h;have h0:=g.2.1
  show numB (acX e).d (acX e).q=true;unfold acX acF at h0 ⊢;rw [if_pos g.1] at h0 ⊢
  split at h0
  ·next h1=>
   split at h0
   ·next h2=>
    rw [if_pos h1,if_pos h2];exact h1
   ·exact absurd h0 de
  ·exact absurd h0 de
 ·cases h
theorem lawNames_any (x:Vw) (Y:List EnR) (vs:List VtR) (W ac:List ByteArray) (fks:List Int) (dev:Int) (B:Nat) (w:World) (hG:Glob w) (hV:VwIn w B x Y vs W ac fks) (hB:B<=w.heap.size) (a8:smB Y):
 Calls prog 6 #[.agg (cVw x),.int .i64 dev] w fun e L=>e= .returned (.bool true)/\Below w.heap.size w L:=by
 obtain ⟨W1,aE⟩:∃W1:World,W1=w.alloc (.cells (cVw x) 29):=⟨_,rfl⟩
 have aQ:W1.heap[w.heap.size]? =some (.cells (cVw x) 29 (0,0)):=by rw [aE];exact zy w _
 have HB:Hid (Below w.heap.size w W1):=by show Below ..;rw [aE];exact bl
 have HX:Hid (∀V,Below w.heap.size w V->VwIn V V.heap.size x Y vs W ac fks/\Glob V):=fun V G=>⟨(hV.up G hB).more (lT hB G.size),hG.on G⟩;have HWE:=lh aE;have bB:=lh aQ;have bL:Hid (Calls prog 9 #[.agg (cVw x)] W1 (FewP x Y W1)):=few_any x Y W1.heap.size W1 (HX.out W1 HB.out).1.E nl hV.cs.1;have aT:Hid (∀V,Below w.heap.size w V->Calls prog 11 #[] V fun e L=>e= .returned (.bool true)/\Below V.heap.size V L):=fun V G=>awake_any V (HX.out V G).2;have bJ:=lh a8;obtain ⟨v0,v1,v2,v3,v4,v5,v6⟩:=ybv aQ;clear hG hV hB aE aQ a8;go_enter func6,ntmps6;go_upto_region 1 with fail
 rw [<-HWE.out];go_wp2_with fail;refine bL.out.mono ?_;rintro e w4 ⟨t,rfl,ht,bA⟩;have bo:Hid (Below W1.heap.size W1 w4):=bA;clear bA v0 v1 v2 v3 v4 v5 v6;have aq:Hid (Below w.heap.size w w4):=bt HB.out bo.out
 cases t with
 |false=>
  clear ht;go_wp2_with (go_at_call 11;(with_reducible refine (aT.out _ aq.out).mono ?_);rintro e w9 ⟨rfl,N⟩;(have HB9:Hid (Below w.heap.size w w9):=aq.out.trans (Below.mono N aq.out.size));clear N);go_ret;exact ⟨rfl,HB9.out⟩
 |true=>
  have af:=ht rfl;clear ht;have aa:Hid (∀V,Below w4.heap.size w4 V->V.heap[w.heap.size]? =some (.cells (cVw x) 29 (0,0))):=fun V G=>((bt bo.out G).block _ (lb bB.out)).trans bB.out;have HW4:Hid (∀V,Below w4.heap.size w4 V->Below w.heap.size w V):=fun V G=>bt aq.out G;have b0:Y.length=x.E.n:=(HX.out _ HB.out).1.E.1.1;have ai:∀e∈Y,e.bd.n<=65536:=fun e he=>lT (sumB_memQ he) (lT (af.2.2.2.2.2 bJ.out) de);have ao:VwOk x Y:=⟨by have:=af.1;omega,by have:=af.2;omega,fun e he=>lT (ai e he) om⟩;have b2:Hid (x.F.n<=10):=af.2.2.2.2.1;have bp:x.F.n<=1000000:=by have:=af.2.2.2.2.1;omega
  have ap:x.E.n<=400:=by have:=af.1;omega
  obtain ⟨l,hl⟩:=gX (frE Y);have bQ:Hid (∀e∈l,e∈Y):=fun e he=>by rw [<-hl] at he;exact yce he
  obtain ⟨op,aY⟩:=gX (opV x Y vs W ac);obtain ⟨T,aw⟩:=gX (opnV x Y vs W ac);have HAE:Hid (T=(cgL op l).map (·.1)):=by show _=_;rw [<-aw,<-aY,<-hl];rfl
  have aW:Hid (∀a∈T,numB a.d a.q=true):=by show ∀a∈T,_;rw [HAE.out];exact cg_num
  have a7:T.length<=12:=by
   rw [HAE.out,List.length_map];have h1:=ydZ op l;have h2:=yb3 Y;rw [hl] at h2;have h3:=af.1;omega
  have HLN:=lh a7;obtain ⟨z,aS⟩:=gX (hdL (nmB fks (mtsE mtX l) T));have aM:Hid (rnL (rnB fks l T) 12=z):=(rn_nm aW.out).trans aS;have bT:Hid (z.length<=12):=by show _<=_;rw [<-aM.out];exact rnL_len _ 12
  have aD:Hid (∀V,Calls prog 14 #[.agg (cVw x)] V fun e L=>e= .returned (.agg (cVw x))/\Below V.heap.size V L):=fun V=>viewOf_any x V
  have bV:Hid (∀V,Below w4.heap.size w4 V->Calls prog 21 #[.agg (cVw x)] V fun e L=>∃A c rs,e= .returned (.slice A T.length c)/\OaR T A c rs L/\Below V.heap.size V L):=fun V G=>by
   have h:=ropen_o x Y vs W ac fks V.heap.size V (HX.out V (HW4.out V G)).1 nl ao ai;rw [aw] at h;exact h
  have bM:Hid (∀V,Below w4.heap.size w4 V->∀r:AcR,Calls prog 27 #[.agg (cVw x),.agg (cAr r)] V fun e L=>e= .returned (.tuple #[.agg (akC (rkF l r.a.R.hd r.a.d r.a.q)),.bool (rkF l r.a.R.hd r.a.d r.a.q).isSome])/\Below V.heap.size V L):=fun V G r=>by
   have h:=rack_r x Y vs W ac fks V.heap.size V (HX.out V (HW4.out V G)).1 nl ao ai r;rw [hl] at h;exact h
  have bh:Hid (∀V,Below w4.heap.size w4 V->Calls prog 24 #[.agg (cVw x)] V fun e L=>∃A c,e= .returned (.slice A z.length c)/\Sl I L L.heap.size A z.length z/\Below V.heap.size V L):=fun V G=>by
   refine (named_any x Y vs W ac fks V.heap.size V (HX.out V (HW4.out V G)).2 (HX.out V (HW4.out V G)).1 nl ao (by have:=b2.out;omega) ap).mono ?_;rintro e L ⟨v,rfl,ho,hb⟩;rw [hl,aw,aS] at ho;obtain ⟨A,c,G,_,hs,_⟩:=ho.shape;exact ⟨A,c,by rw [G],⟨rfl,hs⟩,hb⟩
  have a6:Hid (∀V,Below w4.heap.size w4 V->Calls prog 25 #[.agg (cVw x)] V fun e L=>∃A c,e= .returned (.slice A z.length c)/\Sl I L L.heap.size A z.length z/\Below V.heap.size V L):=fun V G=>by
   refine (rnamed_any x Y vs W ac fks V.heap.size V (HX.out V (HW4.out V G)).1 nl ao ai bp).mono ?_;rintro e L ⟨v,rfl,ho,hb⟩;rw [hl,aw,aM.out] at ho;obtain ⟨A,c,G,_,hs,_⟩:=ho.shape;exact ⟨A,c,by rw [G],⟨rfl,hs⟩,hb⟩
  have bj:Hid (∀V,Below w4.heap.size w4 V->Calls prog 26 #[.agg (cVw x),.int .i64 dev] V (PfR (pfF (mtsE mtX l) dev (cgL op l)) V)):=fun V G=>by
   have h:=proofR_any x Y vs W ac fks V.heap.size V (HX.out V (HW4.out V G)).2 (HX.out V (HW4.out V G)).1 nl ao ap dev;rw [hl,aY] at h;exact h
  have bk:Hid (∀(CA CB:Option Addr) (ca cb:Nat) (V:World),Sl I V V.heap.size CA z.length z->Sl I V V.heap.size CB z.length z->Calls prog 23 #[.slice CA z.length ca,.slice CB z.length cb] V fun e L=>e= .returned (.bool true)/\∃r,L=V.drewN r):=fun CA CB ca cb V h1 h2=>by
   have h0:=bT.out;have h3:=ints_any CA CB z.length z.length z z ca cb V V.heap.size h1 h2 om om;rw [decide_eq_true rfl] at h3;exact h3
  have aP:=lh (pf_none (l:=l) (op:=op) (dev:=dev) cg_num);obtain ⟨pr,aV⟩:=gX (pfF (mtsE mtX l) dev (cgL op l));rw [aV] at bj aP
  have bE:Hid (∀(k:Nat) (a:Ac) (m:EnR),(∀(j:Nat) a,j < k->T[j]? =some a->lwP l dev a=false)->T[k]? =some a->a.R.hd=dev->rkF l a.R.hd a.d a.q=some m->∃e:EnR,e.k=6/\e.dv=a.d/\e.sq=a.q/\pr=some (e,m)):=by
   refine lh ?_;rw [HAE.out,<-aV];exact fun k a m h1 h2 h3 h4=>pf_some cg_num h1 h2 h3 h4
  have bC:Hid ((∀(j:Nat) a,T[j]? =some a->lwP l dev a=false)->pr=none):=by
   refine lh ?_;rw [HAE.out];exact aP.out
  obtain ⟨v0,v1,v2,v3,v4,v5,v6⟩:=ybv (aa.out _ bR);obtain ⟨j0,hj,bq,bK,bO⟩:=info_parts Tryz.infoE;have HJ:=lh hj;have aO:=lh bq;clear af ai ao aw b0 bp ap a7 hl aY aS aV hj bq bK bO aP HAE aW aM;go_upto_region 3 with fail
  have aN:Hid (Below w4.heap.size w4 w4.drew):=bR.drew
  go_cut [21] from 15 (fun p wx=>p= .bool false/\Hid (Below w4.heap.size w4 wx))
  case first=>
   refine rH (S:=(fun L=>L.heap[w.heap.size]? =some (.cells (cVw x) 29 (0,0)))) ybi (by exact aa.out _ aN.out) (fun ah=>?_);refine tkH (i:=0) (v:=_) (y:=(Or.inl ⟨by rfl,by (intro w hSw;(try dsimp only at hSw);obtain ⟨v0,v1,v2,v3,v4,v5,v6⟩:=ybv hSw;go_simp;try (with_reducible rfl))⟩)) (h:=?_)
   try simp only [pt]
   refine tkH (i:=2) (v:=_) (y:=(Or.inl ⟨by rfl,by (intro w hSw;(try dsimp only at hSw);obtain ⟨v0,v1,v2,v3,v4,v5,v6⟩:=ybv hSw;go_simp;try (with_reducible rfl))⟩)) (h:=?_)
   try simp only [pt]
   refine rd1 1 (fun K H=>?_)
   (go_simp;go_at_call 24;(with_reducible refine (bh.out _ aN.out).mono ?_);rintro e w6 ⟨A1,c1,rfl,bm,ay⟩;(have HS1:=lh bm);(have HB6:Hid (Below w4.heap.size w4 w6):=by first |exact bt aN.out ay);clear bm ay;go_wp2_with fail)
   refine H.out _ _ (by exact aa.out _ HB6.out) (fun aJ=>?_);clear H K ah
   try simp only [pt]
   refine rd1 3 (fun K H=>?_)
   (go_simp;go_at_call 14;(with_reducible refine (aD.out _).mono ?_);rintro e w7 ⟨rfl,ag⟩;(have HB7:Hid (Below w4.heap.size w4 w7):=by first |exact bt HB6.out ag);(try (have HS1:=lh ((HS1.out.up ag nl).more' ag.size)));clear ag;go_wp2_with fail)
   refine H.out _ _ (by exact aa.out _ HB7.out) (fun aG=>?_);clear H K aJ
   try simp only [pt]
   refine rd1 4 (fun K H=>?_)
   (go_simp;go_at_call 25;(with_reducible refine (a6.out _ HB7.out).mono ?_);rintro e w8 ⟨A2,c2,rfl,a9,ae⟩;(have bP:=lh a9);(have ax:Hid (Below w4.heap.size w4 w8):=by first |exact bt HB7.out ae);(try (have HS1:=lh ((HS1.out.up ae nl).more' ae.size)));clear a9 ae;go_wp2_with fail)
   refine H.out _ _ (by exact aa.out _ ax.out) (fun aI=>?_);clear H K aG
   try simp only [pt]
   refine rd1 5 (fun K H=>?_)
   (go_simp;go_at_call 23;(with_reducible refine (bk.out _ _ _ _ _ HS1.out bP.out).mono ?_);rintro e w9 ⟨rfl,q,rfl⟩;(have HB9:=fun V (h:Below w4.heap.size w4 V)=>ybl h q);go_wp2_with fail)
   refine H.out _ _ (by exact aa.out _ (HB9 _ ax.out)) (fun bH=>?_);clear H K aI
   try simp only [pt]
   refine tkY 6 ?_;refine wpAnyH_done ybi ?_ _;go_wp2_with fail;go_meet;case rel=>exact ⟨rfl,HB9 _ ax.out⟩
  case rest=>
   obtain ⟨rfl,aZ⟩:=hcut;clear bh a6 bk;obtain ⟨v0,v1,v2,v3,v4,v5,v6⟩:=ybv (aa.out _ aZ.out);have bF:=lh (bj.out _ aZ.out);go_upto_region 6 with (go_at_call 26;(with_reducible refine bF.out.mono ?_);rintro e w6 ⟨pv,pe,rfl,hq,ay⟩;(have HQ:=lh hq);(have HB6:Hid (Below w4.heap.size w4 w6):=bt aZ.out ay);clear hq ay)
   clear v0 v1 v2 v3 v4 v5 v6;obtain ⟨v0,v1,v2,v3,v4,v5,v6⟩:=ybv (aa.out _ HB6.out)
   go_wp2_with (first
    |(go_at_call 14;(with_reducible refine (aD.out _).mono ?_);rintro e w7 ⟨rfl,ag⟩;(have HB7:Hid (Below w4.heap.size w4 w7):=bt HB6.out ag);(have HQ:=lh (HQ.out.on ag));clear ag)
    |(go_at_call 21;(with_reducible refine (bV.out _ HB7.out).mono ?_);rintro e w8 ⟨Ar,cr,rr,rfl,hr,ae⟩;(have HR:=lh hr);(have HQ:=lh (HQ.out.on ae));(have ax:Hid (Below w4.heap.size w4 w8):=bt HB7.out ae);clear hr ae))
   clear v0 v1 v2 v3 v4 v5 v6;have a5:Hid (∀(j:Nat) a,j < 0->T[j]? =some a->lwP l dev a=false):=fun j p hj=>absurd hj om;have a4:Hid (Below w8.heap.size w8 w8):=Below.refl _ _
   go_loopw [8] (fun i wr=>∃k:Nat,k<=T.length/\i= .int .i64 k/\Hid (∀(j:Nat) a,j < k->T[j]? =some a->lwP l dev a=false)/\Hid (Below w8.heap.size w8 wr)) (fun i _=>T.length - (intOf i).toNat)
   case atStart=>exact ⟨0,Nat.zero_le _,rfl,a5,a4⟩
   case round=>
    clear a5 a4;obtain ⟨k,hk,rfl,HN,HBr⟩:=hrel;have ak:Hid (Below w4.heap.size w4 wr):=bt ax.out HBr.out;have a2:=lh (HQ.out.on HBr.out)
    by_cases hlt:k < T.length
    ·have bW:(k:Int) < (T.length:Int):=by omega
     have b4:=HLN.out;obtain ⟨br,ob,r,rfl,hr,a3,b1⟩:=(HR.out.on HBr.out).row hlt;have aK:Hid (∀V,Below wr.heap.size wr V->V.rangeAt br (ob+k*20) (fAr r)):=fun V G=>((HR.out.on HBr.out).on G).at_ hlt hr;obtain ⟨o,ho⟩:=gX (rkF l r.a.R.hd r.a.d r.a.q)
     have bg:Hid (∀V,Below wr.heap.size wr V->Calls prog 27 #[.agg (cVw x),.agg (cAr r)] V fun e L=>e= .returned (.tuple #[.agg (akC o),.bool o.isSome])/\Below V.heap.size V L):=fun V G=>by
      have h:=bM.out V (bt ak.out G) r;rw [ho] at h;exact h
     have HKP:Hid (∀V,Below wr.heap.size wr V->V.heap[w.heap.size]? =some (.cells (cVw x) 29 (0,0))/\V.rangeAt br (ob+k*20) (fAr r)):=fun V G=>⟨aa.out V (bt ak.out G),aK.out V G⟩;have bz:=lh a3;have HO:=lh ho
     have bi:Hid (lwP l dev r.a=false->∀(j:Nat) a,j < k+1->T[j]? =some a->lwP l dev a=false):=fun h j a hj ha=>by
      by_cases bN:j < k
      ·exact HN.out j a bN ha
      ·obtain rfl:j=k:=by omega
       rw [bz.out] at ha;rw [<-Option.some.inj ha];exact h
     have HD:Hid (Below wr.heap.size wr wr.drew):=bR.drew;clear hr a3 b1 ho;go_upto_region 10 with fail
     go_cut [9,10] from 31 to 106 (fun p q wx=>∃gx,p= .pointer (some ⟨gx,0,none⟩)/\q= .bool o.isSome/\Hid (Below wr.heap.size wr wx)/\Hid (wx.heap[gx]? =some (.cells (akC o) 55 (0,0))))
     case first=>
      refine rH (S:=(fun L=>L.heap[w.heap.size]? =some (.cells (cVw x) 29 (0,0))/\L.rangeAt br (ob+k*20) (fAr r))) ybi (by exact HKP.out _ HD.out) (fun ah=>?_);refine tkH (i:=0) (v:=_) (y:=(Or.inl ⟨by rfl,by (intro w hSw;(try dsimp only at hSw);obtain ⟨v0,v1,v2,v3,v4,v5,v6⟩:=ybv hSw.1;go_simp;try (with_reducible rfl))⟩)) (h:=?_)
      try simp only [pt]
      refine tkY 2 ?_;refine tkY 3 ?_;refine tkY 4 ?_;refine tkH (i:=5) (v:=_) (y:=(yieldsIf_load_mid (by rfl) 50 (.tmp 42) rfl br (ob+k*20) (by rfl) (fAr r) _ (fun _ h=>h.2) underlying50 rfl (sizeArR r))) (h:=?_)
      try simp only [pt]
      all_goals
       (first |refine rb2 1 10 (fun K H=>?_) (fun K H=>?_))<;>(first
         |(go_simp;go_at_call 14;(with_reducible refine (aD.out _).mono ?_);rintro e w9 ⟨rfl,N⟩;(have HB9:Hid (Below wr.heap.size wr w9):=by first |exact bt HB12.out N |exact bt HD.out N);(try (have J:=lh ((N.block _ (lb J.out)).trans J.out)));clear N;go_wp2_with fail)
         |((refine ycs (o:=⟨some 9,_,_,_,_,_⟩) rfl 55 rfl j0 (.agg zEn) HJ.out aO.out ?_);intro am az J M O;(have HB12:Hid (Below wr.heap.size wr az):=by first |exact bt HB10.out M.out |exact bt HB9.out M.out |exact bt HD.out M.out);(have au:Hid (wr.heap.size<=am):=by first |exact lT HB10.out.size (Nat.le_of_eq O.out.1.symm) |exact lT HB9.out.size (Nat.le_of_eq O.out.1.symm) |exact lT HD.out.size (Nat.le_of_eq O.out.1.symm)))
         )<;>(refine H.out _ _ yaW (fun aj=>?_))<;>(clear H K)<;>(try simp only [pt])
      all_goals
       (first |refine rb2 6 10 (fun K H=>?_) (fun K H=>?_) |refine rb1 1 (fun K H=>?_))<;>(first
         |(go_simp;go_at_call 27;(with_reducible refine (bg.out _ (by first |exact HB12.out |exact HB9.out)).mono ?_);rintro e aX ⟨rfl,Z⟩;(have HB10:Hid (Below wr.heap.size wr aX):=by first |exact bt HB12.out Z |exact bt HB9.out Z);(try (have J:=lh ((Z.block _ (lb J.out)).trans J.out)));clear Z;go_wp2_with fail)
         |(go_simp;go_at_call 14;(with_reducible refine (aD.out _).mono ?_);rintro e w9 ⟨rfl,N⟩;(have HB9:Hid (Below wr.heap.size wr w9):=by first |exact bt HB12.out N |exact bt HD.out N);(try (have J:=lh ((N.block _ (lb J.out)).trans J.out)));clear N;go_wp2_with fail)
         |((refine ycs (o:=⟨some 9,_,_,_,_,_⟩) rfl 55 rfl j0 (.agg zEn) HJ.out aO.out ?_);intro am az J M O;(have HB12:Hid (Below wr.heap.size wr az):=by first |exact bt HB10.out M.out |exact bt HB9.out M.out |exact bt HD.out M.out);(have au:Hid (wr.heap.size<=am):=by first |exact lT HB10.out.size (Nat.le_of_eq O.out.1.symm) |exact lT HB9.out.size (Nat.le_of_eq O.out.1.symm) |exact lT HD.out.size (Nat.le_of_eq O.out.1.symm)))
         )<;>(refine H.out _ _ yaW (fun aj=>?_))<;>(clear H K)<;>(try simp only [pt])
      all_goals try (refine tkY 7 ?_;refine tkY 8 ?_;refine tkY 9 ?_)
      all_goals
       (first |refine rb1 10 (fun K H=>?_) |refine rb1 6 (fun K H=>?_))<;>(first
         |((refine ycs (o:=⟨some 9,_,_,_,_,_⟩) rfl 55 rfl j0 (.agg zEn) HJ.out aO.out ?_);intro am az J M O;(have HB12:Hid (Below wr.heap.size wr az):=by first |exact bt HB10.out M.out |exact bt HB9.out M.out |exact bt HD.out M.out);(have au:Hid (wr.heap.size<=am):=by first |exact lT HB10.out.size (Nat.le_of_eq O.out.1.symm) |exact lT HB9.out.size (Nat.le_of_eq O.out.1.symm) |exact lT HD.out.size (Nat.le_of_eq O.out.1.symm)))
         |(go_simp;go_at_call 27;(with_reducible refine (bg.out _ (by first |exact HB12.out |exact HB9.out)).mono ?_);rintro e aX ⟨rfl,Z⟩;(have HB10:Hid (Below wr.heap.size wr aX):=by first |exact bt HB12.out Z |exact bt HB9.out Z);(try (have J:=lh ((Z.block _ (lb J.out)).trans J.out)));clear Z;go_wp2_with fail)
         )<;>(refine H.out _ _ yaW (fun aj=>?_))<;>(clear H K)<;>(try simp only [pt])
      all_goals try (refine tkY 7 ?_;refine tkY 8 ?_;refine tkY 9 ?_)
      all_goals
       refine rd1 11 (fun K H=>?_)
       ((refine ybu (g:=am) rfl 55 (.tmp 9) (.tmp 45) rfl 55 zEn (akC o) rfl rfl J.out (sizeAk o) (sizeAk6 o) (akC_all o) ?_);intro bX ar aF;(have U:Hid (Below wr.heap.size wr bX):=by first |exact HB12.out.trans (aF.out.below HB12.out.size (fun i hi=>by subst hi;exact au.out)) |exact HB10.out.trans (aF.out.below HB10.out.size (fun i hi=>by subst hi;exact au.out))))
       refine H.out _ _ (by exact HKP.out _ U.out) (fun bG=>?_);clear H K aj
       try simp only [pt]
       refine tkY 12 ?_;refine wpAnyH_done ybi ?_ _;go_wp2_with fail;go_meet;case rel=>exact ⟨am,rfl,rfl,U,ar⟩
     case rest=>
      obtain ⟨gx,rfl,rfl,U,ar⟩:=hcut;have x2:wc.cell? ⟨br,ob+k*20+2,none⟩=some (.int .i64 r.a.R.hd):=aK.out wc U.out 2 _ rfl;have bu:Hid (Below w8.heap.size w8 wc):=bt HBr.out U.out
      by_cases hd:r.a.R.hd=dev
      ·rw [hd] at x2;have bZ:=lh hd;clear hd
       cases o with
       |none=>
        have a1:=lh (bi.out (by unfold lwP;rw [HO.out];simp));go_wp2_with fail;go_roundw;case rel=>exact ⟨k+1,by omega,by go_num,a1,bu⟩
        case measure=>simp [intOf];omega
       |some m=>
        obtain ⟨e,bb,bx,bf,ap⟩:=bE.out _ _ _ HN.out bz.out bZ.out HO.out;have hq:=a2.out;rw [ap] at hq;obtain ⟨rfl,gp,A1,n1,A2,n2,rfl,bw,bU,be⟩:=hq;have HMM:Hid (m∈Y):=bQ.out m (rkF_mem HO.out)
        have aA:Hid (∀V,Below wc.heap.size wc V->(V.cell? ⟨gp,0,none⟩=some (.int .i64 r.a.d)/\V.cell? ⟨gp,1,none⟩=some (.int .i64 r.a.q)/\V.cell? ⟨gp,2,none⟩=some (.int .i64 6))/\(V.cell? ⟨br,ob+k*20,none⟩=some (.int .i64 r.a.d)/\V.cell? ⟨br,ob+k*20+1,none⟩=some (.int .i64 r.a.q))/\V.rangeAt gp 6 (fEn {m with bd:=⟨A2,m.bd.n,n2⟩})/\V.rangeAt gx 0 (fEn m)):=fun V G=>by
         have hb:Below wr.heap.size wr V:=bt U.out G
         have h1:∀j u,(fEn {e with bd:=⟨A1,e.bd.n,n1⟩}++fEn {m with bd:=⟨A2,m.bd.n,n2⟩})[j]? =some u->V.cell? ⟨gp,j,none⟩=some u:=fun j u hj=>by
          have h:=bw j u hj;rw [Nat.zero_add] at h;exact (cB (hb.block _ bU)).trans h
         have h2:=aK.out V hb;refine ⟨⟨?_,?_,?_⟩,⟨h2 0 _ rfl,h2 1 _ rfl⟩,fun j u hj=>?_,fun j u hj=>?_⟩
         ·rw [<-bx];exact h1 0 _ rfl
         ·rw [<-bf];exact h1 1 _ rfl
         ·rw [<-bb];exact h1 2 _ rfl
         ·refine h1 (6+j) u ?_;rw [List.getElem?_append_right (by rw [ycz];omega),ycz,Nat.add_sub_cancel_left];exact hj
         ·rw [Nat.zero_add,cell_of_row V _ _ _ _ _ ((G.block _ (lb ar.out)).trans ar.out),List.getElem?_toArray];exact hj
        have b3:Hid (∀V,Below wc.heap.size wc V->Calls prog 28 #[.agg (fEn {m with bd:=⟨A2,m.bd.n,n2⟩}).toArray,.agg (fEn m).toArray] V fun e L=>e= .returned (.bool true)/\Below V.heap.size V L):=fun V G=>by
         have hb:Below wr.heap.size wr V:=bt U.out G;exact sameEntry_eq m ⟨A2,m.bd.n,n2⟩ m.bd V.heap.size V ((be.up hb nl).more' hb.size) ((HX.out V (HW4.out V (bt ak.out hb))).1.E.2 m HMM.out).1 nl
        have aU:Hid (Below wc.heap.size wc wc.drew):=bR.drew;have bv:Hid (∀V,Below wc.heap.size wc V->Below w.heap.size w V):=fun V G=>HW4.out V (ak.out.trans ((U.out.mono ak.out.size).trans (G.mono (lT ak.out.size U.out.size))));clear bw be bb bx bf ap;go_upto_region 12 with fail
        clear x2;refine rH (S:=(fun V=>(V.cell? ⟨gp,0,none⟩=some (.int .i64 r.a.d)/\V.cell? ⟨gp,1,none⟩=some (.int .i64 r.a.q)/\V.cell? ⟨gp,2,none⟩=some (.int .i64 6))/\(V.cell? ⟨br,ob+k*20,none⟩=some (.int .i64 r.a.d)/\V.cell? ⟨br,ob+k*20+1,none⟩=some (.int .i64 r.a.q))/\V.rangeAt gp 6 (fEn {m with bd:=⟨A2,m.bd.n,n2⟩})/\V.rangeAt gx 0 (fEn m))) ybi (by exact aA.out _ aU.out) (fun ah=>?_);refine rd1 0 (fun K H=>?_)
        (go_simp;go_at_call 11;(with_reducible refine (aT.out _ (bv.out _ aU.out)).mono ?_);rintro e bY ⟨rfl,aR⟩;(have aB:Hid (Below wc.heap.size wc bY):=bt aU.out aR);clear aR;go_wp2_with fail)
        refine H.out _ _ (by exact aA.out _ aB.out) (fun aH=>?_);clear H K ah
        try simp only [pt]
        (iterate 13 refine tkA ?_)
        refine tkH (i:=14) (v:=_) (y:=(Or.inl ⟨by rfl,by (intro w hSw;(try dsimp only at hSw);obtain ⟨⟨y0,y1,y2⟩,⟨y3,y4⟩,_,_⟩:=hSw;go_simp;try (with_reducible rfl))⟩)) (h:=?_)
        try simp only [pt]
        (iterate 4 refine tkA ?_)
        refine tkH (i:=19) (v:=_) (y:=(Or.inl ⟨by rfl,by (intro w hSw;(try dsimp only at hSw);obtain ⟨⟨y0,y1,y2⟩,⟨y3,y4⟩,_,_⟩:=hSw;go_simp;try (with_reducible rfl))⟩)) (h:=?_)
        try simp only [pt]
        (iterate 6 refine tkA ?_)
        refine tkH (i:=26) (v:=_) (y:=(Or.inl ⟨by rfl,by (intro w hSw;(try dsimp only at hSw);obtain ⟨⟨y0,y1,y2⟩,⟨y3,y4⟩,_,_⟩:=hSw;go_simp;try (with_reducible rfl))⟩)) (h:=?_)
        try simp only [pt]
        (iterate 4 refine tkA ?_)
        refine tkH (i:=31) (v:=_) (y:=(Or.inl ⟨by rfl,by (intro w hSw;(try dsimp only at hSw);obtain ⟨⟨y0,y1,y2⟩,⟨y3,y4⟩,_,_⟩:=hSw;go_simp;try (with_reducible rfl))⟩)) (h:=?_)
        try simp only [pt]
        (iterate 6 refine tkA ?_)
        refine tkH (i:=38) (v:=_) (y:=(Or.inl ⟨by rfl,by (intro w hSw;(try dsimp only at hSw);obtain ⟨⟨y0,y1,y2⟩,⟨y3,y4⟩,_,_⟩:=hSw;go_simp;try (with_reducible rfl))⟩)) (h:=?_)
        try simp only [pt]
        (iterate 5 refine tkA ?_)
        refine tkH (i:=44) (v:=_) (y:=(yieldsIf_load_mid (by rfl) 55 (.tmp 102) rfl gp 6 (by rfl) (fEn {m with bd:=⟨A2,m.bd.n,n2⟩}) _ (fun _ h=>h.2.2.1) underlying55 rfl (sizeEnL _))) (h:=?_)
        try simp only [pt]
        refine tkH (i:=45) (v:=_) (y:=(yieldsIf_load_mid (by rfl) 55 (.tmp 9) rfl gx 0 (by rfl) (fEn m) _ (fun _ h=>h.2.2.2) underlying55 rfl (sizeEnL m))) (h:=?_)
        try simp only [pt]
        refine rd1 46 (fun K H=>?_)
        (go_simp;go_at_call 28;(with_reducible refine (b3.out _ aB.out).mono ?_);rintro e bS ⟨rfl,a0⟩;(have aL:Hid (Below wc.heap.size wc bS):=bt aB.out a0);clear a0;go_wp2_with fail)
        refine H.out _ _ (by exact aA.out _ aL.out) (fun bD=>?_);clear H K aH
        try simp only [pt]
        (iterate 2 refine tkA ?_)
        refine wpAnyH_done ybi ?_ _;go_wp2_with fail;go_ret;exact ⟨rfl,bv.out _ aL.out⟩
      ·have b6:(r.a.R.hd != dev)=true:=by simp [hd]
       have b5:decide (r.a.R.hd=dev)=false:=by simp [hd]
       have a1:=lh (bi.out (by unfold lwP;simp [hd]));go_wp2_with fail;go_roundw;case rel=>exact ⟨k+1,by omega,by go_num,a1,bu⟩
       case measure=>simp [intOf];omega
    ·obtain rfl:k=T.length:=by omega
     have bW:¬(T.length:Int) < (T.length:Int):=by omega
     have bI:=lh (bC.out (fun j a h=>HN.out j a (List.getElem?_eq_some_iff.1 h).1 h));have hq:=a2.out;rw [bI.out] at hq;obtain ⟨rfl,rfl⟩:=hq;have aC:=lh (HW4.out _ ak.out);go_wp2_with (go_at_call 11;(with_reducible refine (aT.out _ aC.out).mono ?_);rintro e w9 ⟨rfl,N⟩;(have HB9:Hid (Below w.heap.size w w9):=aC.out.trans (Below.mono N aC.out.size));clear N);go_ret;exact ⟨rfl,HB9.out⟩
