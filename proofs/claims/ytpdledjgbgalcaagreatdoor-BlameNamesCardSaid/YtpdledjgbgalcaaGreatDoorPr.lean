import Derived.Test.YtpdledjgbgalcaaGreatDoorPq
import Derived.Shelf.SlIterI.Nil
namespace Go.Proofs.YtpdledjgbgalcaaGreatDoor
set_option maxRecDepth 100000
set_option maxHeartbeats 16000000
open Go.RowKit Go.Lib Go.Proofs.Tryz
set_option linter.unusedVariables false
set_option linter.unusedSimpArgs false
abbrev nHd (l:List ByteArray):Hd:=⟨none,l.length,0⟩
def cnF (pubs:List ByteArray) (b h:Int) (vs:List VtR) (a:Ac):Bool:=cnB pubs b h vs a.d a.q (rHd a.R (nHd a.ps) (nHd a.qs) (nHd a.rs)) a.st a.ix a.no a.an a.ps a.qs a.rs
theorem cnB_hd (J:List ByteArray) (b h:Int) (vs:List VtR) (d q:Int) (R:Rcp) (st:ByteArray) (ix:Int) (no an:ByteArray) (ps qs rs:List ByteArray) {pa pb pc K H G:Hd} (h1:pb.n=H.n) (h2:pc.n=G.n):
 cnB J b h vs d q (rHd R pa pb pc) st ix no an ps qs rs=cnB J b h vs d q (rHd R K H G) st ix no an ps qs rs:=by
 obtain ⟨M,O,c1⟩:=pb;obtain ⟨N,U,c2⟩:=H;obtain ⟨T,W,c3⟩:=pc;obtain ⟨L,Y,c4⟩:=G;dsimp only at h1 h2;subst h1;subst h2;rfl
def opF (drs:List ByteArray) (pcs:Int->Int->Int->List PcX) (cn:Ac->Bool) (a:Ac):Bool:=opB drs (pcs a.d a.q a.R.hd) a.R (cn a)
def cgE (op:Ac->Bool) (e:EnR):Option (Ac × EnR):=if e.k=6/\(acX e).er=0/\op (acX e)=true then some (acX e,e) else none
def cgL (op:Ac->Bool) (l:List EnR):List (Ac × EnR):=l.filterMap (cgE op)
theorem ydg {op:Ac->Bool} {l:List EnR} {k:Nat} {e:EnR} (h:l[k]? =some e):cgL op (l.take (k+1))=cgL op (l.take k)++(cgE op e).toList:=by
 unfold cgL;rw [List.take_add_one,h,List.filterMap_append];cases h:cgE op e<;>simp [h]
theorem ydZ (op:Ac->Bool) (l:List EnR):(cgL op l).length<=l.length:=List.length_filterMap_le _ _
theorem acF_int (k d q:Int) (bs:List Int):int64 (acF k d q bs).d/\int64 (acF k d q bs).q/\int64 (acF k d q bs).R.hd:=by
 have G:int64 0:=⟨by decide,by decide⟩;unfold acF
 split
 ·split
  ·next h1=>
   split
   ·next h2=>
    simp only [numB,decide_eq_true_eq] at h1;unfold okT at h2;rw [Bool.and_eq_true] at h2;have H:=h2.2;unfold okR at H;rw [Bool.and_eq_true] at H;have J:=(yb9 H.2).1;refine ⟨⟨?_,?_⟩,⟨?_,?_⟩,?_,?_⟩
    ·show -9223372036854775808<=d;omega
    ·show d<=9223372036854775807;omega
    ·show -9223372036854775808<=q;omega
    ·show q<=9223372036854775807;omega
    ·exact Int.le_trans de J.1
    ·exact Int.le_trans J.2 de
   ·exact ⟨G,G,G⟩
  ·exact ⟨G,G,G⟩
 ·exact ⟨G,G,G⟩
theorem aqX_ok {e:EnR} (h1:Byt e.bs) (h2:e.bs.length<=1000000):(aqX e).x.xs.length<=1000000/\(aqX e).x.ys.length<=1000000/\Byt (aqX e).x.xs:=by
 have J:(dA4 e.bs).1.length<=e.bs.length:=rY_len;have H:(dA6 e.bs).1.length=(dA5 e.bs).1.toNat:=ycl _ _ _;have G:(dA5 e.bs).1<=((16:Nat):Int):=ycL.2;unfold aqX aqF
 split
 ·split
  ·refine ⟨by dsimp only;omega,by dsimp only;omega,?_⟩;exact rY_rng h1
  ·exact ⟨by simp,by simp,fun _ h=>by cases h⟩
 ·exact ⟨by simp,by simp,fun _ h=>by cases h⟩
theorem pcsE_ok {l:List EnR} (hl:∀e∈l,Byt e.bs/\e.bs.length<=1000000) {d q y:Int}:∀p∈pcsE aqX l d q y,p.xs.length<=1000000/\p.ys.length<=1000000/\Byt p.xs:=fun p hp=>by
 obtain ⟨e,G,h⟩:=List.mem_filterMap.1 hp;unfold pcE at h
 split at h
 ·injection h with h
  subst h;exact aqX_ok (hl e G).1 (hl e G).2
 ·cases h
def CgR1 (op:Ac->Bool) (l:List EnR) (w wr:World) (v:Value):Prop:=
 Below w.heap.size w wr/\∃cs:List CgR,OwnN fCg 26 109 wr w.heap.size v cs/\(∀c∈cs,ArO wr w.heap.size c.r)/\cs.map (fun c=>(c.r.a,c.e))=cgL op l
def CgP (op:Ac->Bool) (l:List EnR) (w:World) (e:Ending) (w':World):Prop:=∃v,e= .returned v/\CgR1 op l w w' v
theorem CgR1.on {op:Ac->Bool} {l:List EnR} {w wr H:World} {v:Value} (h:CgR1 op l w wr v) (G:Below wr.heap.size wr H):CgR1 op l w H v:=by
 obtain ⟨h1,cs,h2,K,J⟩:=h;exact ⟨bt h1 G,cs,h2.on G,fun c L=>(K c L).on G,J⟩
def cgP38:Array (Nat × Operand):=#[(0,.tmp 36),(1,.tmp 37)]
theorem cgB38 (a:Act) (c:CgR) (h0:a.eval (.tmp 36)= .agg (cAr c.r)) (h1:a.eval (.tmp 37)= .agg (fEn c.e).toArray):prog.built 109 (cgP38.map fun (i,x)=>(i,a.eval x)).toList=some (fCg c).toArray:=by
 rw [Array.toList_map];show prog.built 109 [(0,a.eval (.tmp 36)),(1,a.eval (.tmp 37))]=_;rw [h0,h1]
 kernel_rfl
theorem charges_any (op:Ac->Bool) (aX:Nat->Rl) (s k kS kM:Nat) (x:Vw) (l:List EnR) (A:Option Addr) (n c:Nat) (mN mS mM:Lit->Value) (a5:Int->Int->Bool) (aO:Int->Int->Int->List PcX) (a1:Int->List (EnR × List Int)) (B:Nat) (w:World) (hJ:JSt w aX s k kS kM x l A n c mN mS mM a5 aO a1) (hE:∀e∈l,EnOk w B e/\e.bd.n<=1000000) (hB:B<=w.heap.size) (hn:l.length<=1000)
 (aK:∀V,Below w.heap.size w V->∀e∈l,∀r:AcR,r.a=acX e->(∃b,ArO V b r)->Calls prog 104 #[.pointer (some ⟨s+3,0,none⟩),.agg (cAr r)] V fun e w'=>e= .returned (.bool (op r.a))/\Below V.heap.size V w'):
 Calls prog 51 #[.pointer (some ⟨s+3,0,none⟩)] w (CgP op l w):=by
 obtain ⟨A1,c1,aR,a6,aF,_⟩:=OwnN.shape ycz hJ.ent.1;injection aR with g1 g2 g3;subst g1;subst g2;subst g3;have aW:=lh aF;have v7:=cj7 hJ.jd;have HE:=lh hE;have aL:=lh hB;have ao:=lh aK;have aH:Hid (Below w.heap.size w w):=Below.refl _ _;obtain ⟨i0,z0,aJ,aA,ay,aN,aD⟩:=ycP Tryz.infoCg;have aM:=lh aJ;have az:=lh aA;have aG:=lh ay;have aZ:=lh aN;have ax:=lh aD;clear hJ hE hB aK a6 aF aJ aA ay aN aD;go_enter func51,ntmps51
 go_wp2_with fail
 clear v7
 go_loopw [3,16] (fun v i wr=>∃k:Nat,k<=l.length/\i= .int .i64 k/\Hid (CgR1 op (l.take k) w wr v)) (fun _ i _=>l.length - (intOf i).toNat)
 case atStart=>exact ⟨0,Nat.zero_le _,rfl,aH.out,[],OwnN.nil,(fun _ h=>by cases h),rfl⟩
 case round=>
  clear aH;obtain ⟨k,hk,rfl,HR⟩:=hrel;have HBr:Hid (Below w.heap.size w wr):=HR.out.1
  by_cases hlt:k < l.length
  ·obtain ⟨b,G,e,rfl,a8,he,z⟩:=(aW.out.up HBr.out nl).at_ hlt;have be:(k:Int) < (l.length:Int):=by omega
   obtain ⟨dv,sq,ek,dy,bd,pr,bs⟩:=e;have x0:wr.cell? ⟨b,G+k*6,none⟩=some (.int .i64 dv):=by rw [show G+k*6=G+(k*6+0) by omega];exact z 0 _ rfl
   have x1:wr.cell? ⟨b,G+k*6+1,none⟩=some (.int .i64 sq):=by rw [show G+k*6+1=G+(k*6+1) by omega];exact z 1 _ rfl
   have x2:wr.cell? ⟨b,G+k*6+2,none⟩=some (.int .i64 ek):=by rw [show G+k*6+2=G+(k*6+2) by omega];exact z 2 _ rfl
   have x3:wr.cell? ⟨b,G+k*6+3,none⟩=some (.int .i64 dy):=by rw [show G+k*6+3=G+(k*6+3) by omega];exact z 3 _ rfl
   have x4:wr.cell? ⟨b,G+k*6+4,none⟩=some (.slice bd.a bd.n bd.c):=by rw [show G+k*6+4=G+(k*6+4) by omega];exact z 4 _ rfl
   have x5:wr.cell? ⟨b,G+k*6+5,none⟩=some (.string pr):=by rw [show G+k*6+5=G+(k*6+5) by omega];exact z 5 _ rfl
   have HG:=lh he;have HM:Hid ((⟨dv,sq,ek,dy,bd,pr,bs⟩:EnR)∈l):=List.mem_of_getElem? he;have aC:=lh (HE.out _ HM.out);clear z he;go_upto_region 6 with fail
   obtain ⟨H,hW⟩:∃H:World,H=wr.alloc (.cells #[.int .i64 dv,.int .i64 sq,.int .i64 ek,.int .i64 dy,.slice bd.a bd.n bd.c,.string pr] 55):=⟨_,rfl⟩
   have au:H.heap[wr.heap.size]? =some (.cells #[.int .i64 dv,.int .i64 sq,.int .i64 ek,.int .i64 dy,.slice bd.a bd.n bd.c,.string pr] 55 (0,0)):=by rw [hW];exact zy wr _
   have aE:Below wr.heap.size wr H:=by rw [hW];exact bl
   have O:=lh (HR.out.on aE);have aa:=lh au;have aS:Hid (w.heap.size<=wr.heap.size):=HBr.out.size;rw [<-hW];obtain ⟨y0,y1,y2,y3,y4,y5⟩:=cen au;clear hW au aE x0 x1 x2 x3 x4 x5 HR HBr
   by_cases h6:ek=6
   ·subst h6;obtain ⟨a,ha⟩:∃a:Ac,acX ⟨dv,sq,6,dy,bd,pr,bs⟩=a:=⟨_,rfl⟩
    have am:Hid (Calls prog 105 #[.agg #[.int .i64 dv,.int .i64 sq,.int .i64 6,.int .i64 dy,.slice bd.a bd.n bd.c,.string pr]] H (AcP a H)):=by
     have h:=ac_any ⟨dv,sq,6,dy,bd,pr,bs⟩ B H (aC.out.1.up O.out.1 aL.out) (lT aL.out O.out.1.size) aC.out.2;rw [ha] at h;exact h
    have HAE:=lh ha;clear ha
    by_cases h0:a.er=0
    ·
     obtain ⟨ob,aB⟩:=gX (op a);have ah:=lh aB;have bb:(Value.int .i64 a.er)= .int .i64 0:=by rw [h0]
     have aV:=lh h0;clear aB h0
     cases ob with
     |true=>
      have Y:Hid (cgL op (l.take (k+1))=cgL op (l.take k)++[(a,⟨dv,sq,6,dy,bd,pr,bs⟩)]):=by
       show _=_;rw [ydg HG.out];unfold cgE;rw [HAE.out,if_pos ⟨rfl,aV.out,ah.out⟩];rfl
      go_upto_region 8 with (first |(go_at_call 105;(with_reducible refine am.out.mono ?_);rintro e W3 ⟨pa,pb,pc,rfl,ho,T⟩;(have ak:Hid (ArO W3 H.heap.size ⟨a,pa,pb,pc⟩):=ho);(have ac:=lh T);(have ae:Hid ((W3.alloc (.cells zA 39)).heap[W3.heap.size]? =some (.cells zA 39 (0,0))):=zy W3 _);clear ho T) |((with_reducible refine ybk (o:=⟨none,_,_,_,_,_⟩) rfl 39 (.tmp 7) (.tmp 26) rfl W3.heap.size 39 _ _ rfl rfl ae.out (ydU a.d a.q (rHd a.R pa pb pc) a.st a.ix a.no a.an) rfl (yd6 a.d a.q (rHd a.R pa pb pc) a.st a.ix a.no a.an) ?_);intro L U W;(have J:Hid (Below W3.heap.size W3 L):=((Below.refl _ W3).alloc nl (.cells zA 39)).trans (W.out.below sI (fun i hi=>by subst hi;omega)));(have M:Hid (Below H.heap.size H L):=bt ac.out J.out)))
      have ai:Hid (ArO L H.heap.size ⟨a,pa,pb,pc⟩):=RcO.on ak.out J.out;have Z:Hid (L.heap[wr.heap.size]? =some (.cells #[.int .i64 dv,.int .i64 sq,.int .i64 6,.int .i64 dy,.slice bd.a bd.n bd.c,.string pr] 55 (0,0))):=(M.out.block _ (lb aa.out)).trans aa.out;have aq:Hid (wr.heap.size<=H.heap.size):=Nat.le_of_lt (lb aa.out);have aw:=lh (ydi U.out);have K:=ao.out L (bt O.out.1 M.out) _ HM.out ⟨a,pa,pb,pc⟩ HAE.out.symm ⟨_,ai.out⟩;rw [show op (AcR.mk a pa pb pc).a=_ from ah.out] at K;have K:=lh K;go_upto_region 9 with (first |(with_reducible refine yb0 (op:=⟨some 32,_,_,_,_,_⟩) ybi 39 (.tmp 7) rfl W3.heap.size 0 rfl (cA a.d a.q (rHd a.R pa pb pc) a.st a.ix a.no a.an).toList _ aw.out underlying39 rfl (sizeAL _ _ _ _ _ _ _) ?_) |(go_at_call 104;(with_reducible refine K.out.mono ?_);rintro e W5 ⟨rfl,N⟩;(have aj:=lh N);(have HG5:Hid (W5.heap[W3.heap.size]? =some (.cells (cA a.d a.q (rHd a.R pa pb pc) a.st a.ix a.no a.an) 39 (0,0))/\W5.heap[wr.heap.size]? =some (.cells #[.int .i64 dv,.int .i64 sq,.int .i64 6,.int .i64 dy,.slice bd.a bd.n bd.c,.string pr] 55 (0,0))):=⟨(N.block _ (lb U.out)).trans U.out,(N.block _ (lb Z.out)).trans Z.out⟩);clear N))
      clear y0 y1 y2 y3 y4 y5;obtain ⟨y0,y1,y2,y3,y4,y5⟩:=cen HG5.out.2;have a2:=lh (O.out.on (bt M.out aj.out));obtain ⟨aI,cs,ar,ap,af⟩:=a2.out
      have a4:cs.length<=k:=by
       have h1:cs.length=(cgL op (l.take k)).length:=by rw [<-af];simp
       have h2:=ydZ op (l.take k);have h3:(l.take k).length<=k:=List.length_take_le _ _;omega
      have aQ:Hid ((cs.length+1)*320<=140737488355328):=by show _<=_;omega
      have aY:Hid (cs.length+1<=maxLen):=by show _<=_;unfold maxLen;omega
      have ag:=lh ar;have aU:=lh ap;have aT:=lh af;have HBW:=lh aI;have a3:=lh (ydi HG5.out.1);have aP:Hid (ArO W5 w.heap.size ⟨a,pa,pb,pc⟩):=RcO.low (ai.out.on aj.out) (lT aS.out aq.out);clear ar ap af aI a4
      go_wp2_with (first
       |(with_reducible refine wpList_load_mid rfl 39 (.tmp 7) rfl W3.heap.size 0 rfl (cA a.d a.q (rHd a.R pa pb pc) a.st a.ix a.no a.an).toList _ a3.out underlying39 rfl (sizeAL _ _ _ _ _ _ _) ?_)
       |(with_reducible refine ybq (o:=⟨some 38,_,_,_,_,_⟩) rfl 109 cgP38 ybi (fCg ⟨⟨a,pa,pb,pc⟩,⟨dv,sq,6,dy,bd,pr,bs⟩⟩).toArray (cgB38 _ ⟨⟨a,pa,pb,pc⟩,⟨dv,sq,6,dy,bd,pr,bs⟩⟩ rfl rfl) ?_)
       |(with_reducible refine ycb (o:=⟨some 39,_,_,_,_,_⟩) rfl 104 (.tmp 38) rfl 109 i0 z0 26 underlying104 aM.out az.out aG.out ax.out om om (fCg ⟨⟨a,pa,pb,pc⟩,⟨dv,sq,6,dy,bd,pr,bs⟩⟩).toArray rfl rfl ?_)
       |((with_reducible refine yct (o:=⟨some 40,_,_,_,_,_⟩) (f:=fCg) fCg_len om rfl (.tmp 35) (.tmp 39) 104 rfl 109 i0 z0 320 underlying104 aM.out az.out aG.out aZ.out ax.out u3 cs w.heap.size rfl ag.out ⟨⟨a,pa,pb,pc⟩,⟨dv,sq,6,dy,bd,pr,bs⟩⟩ 1 rfl fCg_one aQ.out aY.out HBW.out.size ?_);intro v6 W6 a0 al a7))
      go_roundw
      case rel=>exact ⟨k+1,by omega,by go_num,OwnN.below ag.out HBW.out nl HBW.out.size al.out,cs++[⟨⟨a,pa,pb,pc⟩,⟨dv,sq,6,dy,bd,pr,bs⟩⟩],a0.out,(fun c hc=>by
       rcases List.mem_append.1 hc with h |h
       ·exact ArO.grown (aU.out c h) ag.out al.out de
       ·obtain rfl:c=⟨⟨a,pa,pb,pc⟩,⟨dv,sq,6,dy,bd,pr,bs⟩⟩:=by simpa using h
        exact ArO.grown aP.out ag.out al.out de),by rw [Y.out,List.map_append,aT.out];rfl⟩
      case measure=>simp [intOf];omega
     |false=>
      have Y:Hid (cgL op (l.take (k+1))=cgL op (l.take k)):=by
       show _=_;rw [ydg HG.out];unfold cgE;rw [HAE.out,if_neg (fun h=>by have:=h.2.2;rw [ah.out] at this;cases this)];simp
      go_upto_region 8 with (first |(go_at_call 105;(with_reducible refine am.out.mono ?_);rintro e W3 ⟨pa,pb,pc,rfl,ho,T⟩;(have ak:Hid (ArO W3 H.heap.size ⟨a,pa,pb,pc⟩):=ho);(have ac:=lh T);(have ae:Hid ((W3.alloc (.cells zA 39)).heap[W3.heap.size]? =some (.cells zA 39 (0,0))):=zy W3 _);clear ho T) |((with_reducible refine ybk (o:=⟨none,_,_,_,_,_⟩) rfl 39 (.tmp 7) (.tmp 26) rfl W3.heap.size 39 _ _ rfl rfl ae.out (ydU a.d a.q (rHd a.R pa pb pc) a.st a.ix a.no a.an) rfl (yd6 a.d a.q (rHd a.R pa pb pc) a.st a.ix a.no a.an) ?_);intro L U W;(have J:Hid (Below W3.heap.size W3 L):=((Below.refl _ W3).alloc nl (.cells zA 39)).trans (W.out.below sI (fun i hi=>by subst hi;omega)));(have M:Hid (Below H.heap.size H L):=bt ac.out J.out)))
      have ai:Hid (ArO L H.heap.size ⟨a,pa,pb,pc⟩):=RcO.on ak.out J.out;have Z:Hid (L.heap[wr.heap.size]? =some (.cells #[.int .i64 dv,.int .i64 sq,.int .i64 6,.int .i64 dy,.slice bd.a bd.n bd.c,.string pr] 55 (0,0))):=(M.out.block _ (lb aa.out)).trans aa.out;have aq:Hid (wr.heap.size<=H.heap.size):=Nat.le_of_lt (lb aa.out);have aw:=lh (ydi U.out);have K:=ao.out L (bt O.out.1 M.out) _ HM.out ⟨a,pa,pb,pc⟩ HAE.out.symm ⟨_,ai.out⟩;rw [show op (AcR.mk a pa pb pc).a=_ from ah.out] at K;have K:=lh K;go_wp2_with (first |(with_reducible refine yb0 (op:=⟨some 32,_,_,_,_,_⟩) ybi 39 (.tmp 7) rfl W3.heap.size 0 rfl (cA a.d a.q (rHd a.R pa pb pc) a.st a.ix a.no a.an).toList _ aw.out underlying39 rfl (sizeAL _ _ _ _ _ _ _) ?_) |(go_at_call 104;(with_reducible refine K.out.mono ?_);rintro e W5 ⟨rfl,N⟩;(have aj:=lh N);(have HG5:Hid (W5.heap[W3.heap.size]? =some (.cells (cA a.d a.q (rHd a.R pa pb pc) a.st a.ix a.no a.an) 39 (0,0))/\W5.heap[wr.heap.size]? =some (.cells #[.int .i64 dv,.int .i64 sq,.int .i64 6,.int .i64 dy,.slice bd.a bd.n bd.c,.string pr] 55 (0,0))):=⟨(N.block _ (lb U.out)).trans U.out,(N.block _ (lb Z.out)).trans Z.out⟩);clear N));go_roundw;case rel=>exact ⟨k+1,by omega,by go_num,by rw [show CgR1 op (l.take (k+1))=CgR1 op (l.take k) by funext w1 w2 v;unfold CgR1;rw [Y.out]];exact O.out.on (bt M.out aj.out)⟩
      case measure=>simp [intOf];omega
    ·
     have Y:Hid (cgL op (l.take (k+1))=cgL op (l.take k)):=by
      show _=_;rw [ydg HG.out];unfold cgE;rw [HAE.out,if_neg (fun h=>h0 h.2.1)];simp
     have a9:(a.er==0)=false:=by simp [h0]
     clear h0;go_wp2_with (first |(go_at_call 105;(with_reducible refine am.out.mono ?_);rintro e W3 ⟨pa,pb,pc,rfl,ho,T⟩;(have ak:Hid (ArO W3 H.heap.size ⟨a,pa,pb,pc⟩):=ho);(have ac:=lh T);(have ae:Hid ((W3.alloc (.cells zA 39)).heap[W3.heap.size]? =some (.cells zA 39 (0,0))):=zy W3 _);clear ho T) |((with_reducible refine ybk (o:=⟨none,_,_,_,_,_⟩) rfl 39 (.tmp 7) (.tmp 26) rfl W3.heap.size 39 _ _ rfl rfl ae.out (ydU a.d a.q (rHd a.R pa pb pc) a.st a.ix a.no a.an) rfl (yd6 a.d a.q (rHd a.R pa pb pc) a.st a.ix a.no a.an) ?_);intro L U W;(have J:Hid (Below W3.heap.size W3 L):=((Below.refl _ W3).alloc nl (.cells zA 39)).trans (W.out.below sI (fun i hi=>by subst hi;omega)));(have M:Hid (Below H.heap.size H L):=bt ac.out J.out)));go_roundw;case rel=>exact ⟨k+1,by omega,by go_num,by rw [show CgR1 op (l.take (k+1))=CgR1 op (l.take k) by funext w1 w2 v;unfold CgR1;rw [Y.out]];exact O.out.on M.out⟩
     case measure=>simp [intOf];omega
   ·
    have Y:Hid (cgL op (l.take (k+1))=cgL op (l.take k)):=by
     show _=_;rw [ydg HG.out];unfold cgE;rw [if_neg (fun h=>h6 h.1)];simp
    have bf:(ek != 6)=true:=by simp [h6]
    clear h6;go_wp2_with fail;go_roundw;case rel=>exact ⟨k+1,by omega,by go_num,by rw [show CgR1 op (l.take (k+1))=CgR1 op (l.take k) by funext w1 w2 v;unfold CgR1;rw [Y.out]];exact O.out⟩
    case measure=>simp [intOf];omega
  ·obtain rfl:k=l.length:=by omega
   rw [List.take_length] at HR;go_wp2_with fail;go_ret;exact ⟨_,rfl,HR.out⟩
theorem yce {H:List EnR} {e:EnR} (h:e∈frE H):e∈H:=by
 have J:∀(l G:List EnR),e∈l.foldl putE G->e∈G∨e∈l:=by
  intro l
  induction l with
  |nil=>intro G h;exact .inl h
  |cons a t K=>
   intro G h;rcases K _ h with h |h
   ·rcases putE_mem h with h |h
    ·exact .inl h
    ·exact .inr (h▸List.mem_cons_self)
   ·exact .inr (List.mem_cons_of_mem _ h)
 rcases J H [] h with h |h
 ·cases h
 ·exact h
theorem yb3 (es:List EnR):(frE es).length<=es.length:=by
 have:=ydp es es.length;rwa [List.take_length] at this
theorem VwIn.more {w:World} {B L:Nat} {x:Vw} {N:List EnR} {vs:List VtR} {H J:List ByteArray} {fks:List Int} (h:VwIn w B x N vs H J fks) (G:B<=L):VwIn w L x N vs H J fks:=
 ⟨⟨h.E.1.more G,fun e M=>⟨(h.E.2 e M).1.more' G,(h.E.2 e M).2⟩⟩,⟨h.V.1.more G,fun v K=>⟨(h.V.2 v K).1.more' G,(h.V.2 v K).2⟩⟩,h.P.more' G,h.D.more' G,h.F.more' G,h.cs⟩
def VwOk (x:Vw) (es:List EnR):Prop:=x.E.n<=1000/\(x.V.n<=1000/\x.P.n<=1000/\x.D.n<=1000)/\∀e∈es,e.bd.n<=1000000
def opV (x:Vw) (es:List EnR) (vs:List VtR) (pubs drs:List ByteArray):Ac->Bool:=opF drs (pcsE aqX (frE es)) (cnF pubs x.b x.h vs)
theorem pcsE_len (l:List EnR) (d q y:Int):(pcsE aqX l d q y).length<=l.length:=List.length_filterMap_le _ _
theorem charges_of (N:Nat->Rl) (s k kS z:Nat) (x:Vw) (G:List EnR) (vs:List VtR) (H K:List ByteArray) (fks:List Int) (A:Option Addr) (n c:Nat) (mN Y Z:Lit->Value) (O:Int->List (EnR × List Int)) (B:Nat) (w:World) (hG:Glob w)
 (hJ:JSt w N s k kS z x (frE G) A n c mN Y Z (hasE (frE G)) (pcsE aqX (frE G)) O) (T:VwIn w B x G vs H K fks) (hB:B<=w.heap.size) (M:VwOk x G):
 Calls prog 51 #[.pointer (some ⟨s+3,0,none⟩)] w (CgP (opV x G vs H K) (frE G) w):=by
 have aa:G.length=x.E.n:=T.E.1.1;have ac:=yb3 G;refine charges_any (opV x G vs H K) N s k kS z x (frE G) A n c mN Y Z (hasE (frE G)) (pcsE aqX (frE G)) O B w hJ (fun e J=>⟨T.E.2 e (yce J),M.2.2 e (yce J)⟩) hB (by have:=M.1;omega) (fun V U e J r hr W=>?_);obtain ⟨b,W⟩:=W;have hi:=W.rcIn;obtain ⟨i1,i2,i3⟩:=acF_int e.k e.dv e.sq e.bs;have L:r.a=acF e.k e.dv e.sq e.bs:=hr
 have h0:=jopen_any x G vs H K fks N s k kS z (frE G) A n c mN Y Z (hasE (frE G)) (pcsE aqX (frE G)) O r.a.d r.a.q r.R r.a.st r.a.ix r.a.no r.a.an r.a.ps r.a.qs r.a.rs V.heap.size V (hG.on U) (hJ.on U) ((T.up U hB).more (lT hB U.size)) hi.1 nl M.2.1 hi.2 (by rw [L];exact i1) (by rw [L];exact i2) (by show int64 r.a.R.hd;rw [L];exact i3)
  (pcsE_ok (fun e J=>⟨(T.E.2 e (yce J)).2.1,by have h1:=(T.E.2 e (yce J)).1.1;have h2:=M.2.2 e (yce J);omega⟩)) (by have h1:=pcsE_len (frE G) r.a.d r.a.q r.R.hd;have h2:=M.1;omega)
 have h5:cnF H x.b x.h vs r.a=cnB H x.b x.h vs r.a.d r.a.q r.R r.a.st r.a.ix r.a.no r.a.an r.a.ps r.a.qs r.a.rs:=cnB_hd _ _ _ _ _ _ _ _ _ _ _ _ _ _ hi.1.2.1.1 hi.1.2.2.1;unfold opV opF;rw [h5];exact h0
theorem judge_of (x:Vw) (K:List EnR) (vs:List VtR) (N O:List ByteArray) (fks:List Int) (B:Nat) (w:World) (M:VwIn w B x K vs N O fks) (H:B<=w.heap.size) (L:VwOk x K):
 Calls prog 50 #[.agg (cVw x)] w (JdP aqX mtX x K w):=
 judge_any aqX mtX x K B w M.E H L.1 (fun e G _=>⟨fun V J=>aq_any e B V ((M.E.2 e G).up J H) (lT H J.size) (L.2.2 e G),aqF_int e.k e.bs⟩)
  (fun e G _ V J=>mt_any e B V ((M.E.2 e G).up J H) (lT H J.size) (L.2.2 e G))
def opnV (x:Vw) (es:List EnR) (vs:List VtR) (pubs drs:List ByteArray):List Ac:=(cgL (opV x es vs pubs drs) (frE es)).map (·.1)
abbrev zCg:Array Value:=#[.int .i64 0,.int .i64 0,.int .i64 0,.int .i64 0,.string ⟨#[]⟩,.int .i64 0,.int .i64 0,.int .i64 0,.int .i64 0,.int .i64 0,.int .i64 0,.string ⟨#[]⟩,.slice none 0 0,.int .i64 0,.slice none 0 0,.slice none 0 0,.string ⟨#[]⟩,.int .i64 0,.string ⟨#[]⟩,.string ⟨#[]⟩,.int .i64 0,.int .i64 0,.int .i64 0,.int .i64 0,.slice none 0 0,.string ⟨#[]⟩]
theorem rangeCg {w:World} {b:Nat} {t:TypeId} {c:CgR} (h:w.heap[b]? =some (.cells (fCg c).toArray t (0,0))):w.rangeAt b 0 (fAr c.r):=fun j v G=>by
 rw [Nat.zero_add,cell_of_row w b j _ _ _ h,List.getElem?_toArray,List.getElem?_append_left (List.getElem?_eq_some_iff.1 G).1];exact G
theorem fCg_all (c:CgR):((fCg c).toArray).all (·.oneCell')=true:=by
 rw [Array.all_eq_true'];intro u hu;exact fCg_one c u (by simpa using hu)
theorem sizeCg (c:CgR):(prog.info? 109).map (·.size)=some (fCg c).toArray.size:=by kernel_rfl
theorem sizeCgL (c:CgR):(prog.info? 109).map (·.size)=some (fCg c).length:=by kernel_rfl
theorem sizeArL (r:AcR):(prog.info? 39).map (·.size)=some (fAr r).length:=by kernel_rfl
open Go.Shelf
def Tryz.keysA_ren:Go.Shelf.Ren:=⟨fun |7=>54 |10=>110 |n=>n,fun |23=>111 |26=>3 |3=>4 |28=>114 |0=>0 |27=>113 |33=>181 |4=>4 |n=>n,fun |n=>n⟩
theorem Tryz.keysA:Go.Proofs.SlLaysZI.n7 prog Tryz.keysA_ren:={
 mixed:=by kernel_rfl
 f7:=⟨f54.name,by decide,func54.trans (congrArg some ybi)⟩
 f10:=⟨f110.name,by decide,func110.trans (congrArg some ybi)⟩
 t0:=underlying0
 a0:=isAgg0
 z0:=sizeOf0
 v0:=zeroValue0
 t4:=underlying4
 a4:=isAgg4
 z4:=sizeOf4
 v4:=zeroValue4
 t23:=underlying111
 a23:=isAgg111
 z23:=sizeOf111
 v23:=zeroValue111
 t26:=underlying3
 a26:=isAgg3
 z26:=sizeOf3
 v26:=zeroValue3
 t27:=underlying113
 a27:=isAgg113
 z27:=sizeOf113
 v27:=zeroValue113
 t28:=underlying114
 a28:=isAgg114
 z28:=sizeOf114
 v28:=zeroValue114
 t33:=underlying181
 a33:=isAgg181
 z33:=sizeOf181
 v33:=zeroValue181}
def Tryz.sortedA_ren:Go.Shelf.Ren:=⟨fun |6=>53 |8=>108 |9=>109 |11=>175 |13=>177 |12=>176 |23=>229 |24=>230 |14=>220 |15=>221 |16=>222 |17=>223 |18=>224 |19=>225 |20=>226 |21=>227 |22=>228 |25=>254 |26=>255 |27=>256 |28=>257 |29=>258 |30=>259 |31=>269 |n=>n,fun |26=>3 |28=>114 |24=>27 |0=>0 |3=>3 |37=>247 |48=>250 |50=>93 |4=>4 |40=>284 |39=>283 |45=>287 |5=>5 |9=>9 |51=>310 |55=>279 |57=>321 |58=>317 |33=>181 |n=>n,fun |n=>n⟩
theorem Tryz.sortedA:Go.Proofs.SlLaysZI.n6 prog Tryz.sortedA_ren:={
 mixed:=by kernel_rfl
 f6:=⟨f53.name,by decide,func53.trans (congrArg some ybi)⟩
 f8:=⟨f108.name,by decide,func108.trans (congrArg some ybi)⟩
 f11:=⟨f175.name,by decide,func175.trans (congrArg some ybi)⟩
 t0:=underlying0
 a0:=isAgg0
 z0:=sizeOf0
 v0:=zeroValue0
 t24:=underlying27
 a24:=isAgg27
 z24:=sizeOf27
 v24:=zeroValue27
 t26:=underlying3
 a26:=isAgg3
 z26:=sizeOf3
 v26:=zeroValue3
 t28:=underlying114
 a28:=isAgg114
 z28:=sizeOf114
 v28:=zeroValue114
 i26:=by kernel_rfl}
open Go.RowKit Go.Lib Go.Maps Go.Sort Go.Shelf
def MapS (w:World) (b n:Nat) (S:Int->Bool):Prop:=∃D:DataW Value,w.ownsMap prog 3 RV b n D/\∀x,Maps.has D (.int .i64 x)=S x
theorem MapS.made (w:World):MapS (w.alloc (.map #[] 0)) w.heap.size 0 (fun _=>false):=⟨_,World.ownsMap_made w prog _ _,fun _=>rfl⟩
theorem MapS.block {w w':World} {b n:Nat} {S:Int->Bool} (h:MapS w b n S) (hb:w'.heap[b]? =w.heap[b]?):MapS w' b n S:=by
 obtain ⟨D,⟨es,ck,h1,h2⟩,h3⟩:=h;exact ⟨D,⟨es,ck,hb.trans h1,h2⟩,h3⟩
theorem MapS.lt {w:World} {b n:Nat} {S:Int->Bool} (h:MapS w b n S):b < w.heap.size:=by
 obtain ⟨D,h1,_⟩:=h;exact h1.lt
theorem MapS.on {w w':World} {b n:Nat} {S:Int->Bool} (h:MapS w b n S) (hb:Below w.heap.size w w'):MapS w' b n S:=h.block (hb.block _ h.lt)
theorem MapS.mono {w:World} {b n n':Nat} {S:Int->Bool} (h:MapS w b n S) (hn:n<=n'):MapS w b n' S:=by
 obtain ⟨D,h1,h2⟩:=h;exact ⟨D,h1.mono hn,h2⟩
theorem MapS.store {w:World} {b n:Nat} {S:Int->Bool} (h:MapS w b n S) (hn:n < maxLen) {d:Int} (hd:int64 d) (v:Value):
 ∃G,(Instr.mapUpdate 111 (.map (some b)) (.int .i64 d) v).run prog w= .ok () G/\MapS G b (n+1) (fun x=>S x||decide (x=d))/\w.grownBy G (some b):=by
 obtain ⟨D,h1,h2⟩:=h;obtain ⟨G,r1,r2,r3⟩:=h1.update (Maps.int_keyed underlying3) underlying111 hn (kI_of hd) (show RV v=some (.held v,[]) from rfl);refine ⟨G,r1,⟨_,r2,fun x=>?_⟩,r3⟩
 by_cases H:x=d
 ·subst H;rw [Maps.has_put_same h1.isMap ((Maps.int_keyed underlying3).key (kI_of hd))];simp
 ·rw [Maps.has_put_other (fun e=>H (by injection e)),h2 x];simp [H]
theorem sorts_in (m:Nat):AnyZI.SortsIn prog Tryz.sortedA_ren Fence.wide m:=
 ⟨fun blk H cap K W L G J=>callsIn_wide.2 (Tryz.slices_Sort_int blk H cap K W L G J),fun p cap W=>callsIn_wide.2 (Tryz.slices_Sort_int_none p cap W)⟩
def NwI (l:List Int) (w:World) (base:Nat) (w0:World) (e:Ending) (w':World):Prop:=∃v,e= .returned v/\Own I 3 w' base v l/\Below w0.heap.size w0 w'
theorem keys_any (b:Nat) (w:World):Calls prog 54 #[.map (some b)] w fun e G=>e= .returned (.func (.func 110) #[] #[.pointer (some ⟨w.heap.size,0,none⟩)])/\G=w.alloc (.cells #[.map (some b)] 111):=
 (callsIn_wide (n:=6)).1 (AnyZI.keys_in Tryz.keysA Fence.wide 6 trivial rfl (some b) w)
theorem sorted_any (b n:Nat) (S:Int->Bool) (l:List Int) (w:World) (hS:MapS w b n S) (hn:n<=1000) (hp:l.Pairwise (· < ·)) (hm:∀x,x∈l↔S x=true):
 Calls prog 53 #[.func (.func 110) #[] #[.pointer (some ⟨w.heap.size,0,none⟩)]] (w.alloc (.cells #[.map (some b)] 111)) (NwI l w w.heap.size w):=by
 obtain ⟨D,G,U⟩:=hS;have W:=G.lt;have aa:=G.size_le;refine (callsIn_wide (n:=5)).1 ?_
 have N:SeqGives Fence.wide 2 prog 110 #[.pointer (some ⟨w.heap.size,0,none⟩)] encZ (fun K=>K.Perm (intKeys D)) (Maps.size D) (w.alloc (.cells #[.map (some b)] 111)):=
  AnyZI.keys_gives (ρ:=Tryz.keysA_ren) {Tryz.keysA with} Fence.wide _ trivial rfl om w.heap.size b n D _ sI sI (by
   obtain ⟨es,M,O,z,hs,Z⟩:=G
   exact ⟨es,M,(zx _ _ b W).trans O,z,hs,Z⟩)
 have Y:=AnyZI.sorted_in Tryz.sortedA Fence.wide 5 trivial trivial trivial trivial rfl om (sorts_in _) (enters_of func109 ybi rfl) 110 #[.pointer (some ⟨w.heap.size,0,none⟩)] trivial (enters_of func110 ybi rfl) _ _ ybd om _ N;refine Y.mono ?_;rintro e w' ⟨v,K,rfl,J,H,_,O⟩
 have hl:l.Perm (intKeys D):=by
  have hc:CollectedI D (fun _=>false) l:=⟨hp.imp (fun h=>Int.ne_of_lt h),fun x=>by rw [hm x,U x];simp⟩;exact hc.perm G (Maps.int_keyed underlying3) underlying3 (fun _=>rfl)
 have L:K.mergeSort (fun x y=>decide (x<=y))=l:=by
  have h1:=mergeSort_of_perm_i (J.trans hl.symm);have h2:l.mergeSort leI=l:=List.mergeSort_of_pairwise (hp.imp (fun h=>decide_eq_true (Int.le_of_lt h)));exact h1.trans h2
 rw [L] at H;have T:K.length=l.length:=(J.trans hl.symm).length_eq;rw [T] at H;exact ⟨v,rfl,ownsRow_base_a H sI,((Below.refl _ w).alloc nl _).trans (O.mono sI)⟩
def hdL (S:Int->Bool):List Int:=((List.range 12).map Int.ofNat).filter S
theorem hdL_sorted (S:Int->Bool):(hdL S).Pairwise (· < ·):=by
 refine List.Pairwise.filter _ (List.pairwise_map.2 ((List.pairwise_lt_range).imp fun h=>Int.ofNat_lt.2 h))
theorem hdL_mem {S:Int->Bool} (h:∀x,S x=true->0<=x/\x<=11) (x:Int):x∈hdL S↔S x=true:=by
 unfold hdL;rw [List.mem_filter,List.mem_map]
 constructor
 ·exact fun g=>g.2
 ·intro g;obtain ⟨h1,h2⟩:=h x g;exact ⟨⟨x.toNat,List.mem_range.2 om,by show (x.toNat:Int)=x;omega⟩,g⟩
theorem acF_hd {k d q:Int} {bs:List Int} (H:k=6) (h0:(acF k d q bs).er=0):(0<=(acF k d q bs).R.hd/\(acF k d q bs).R.hd<=11)/\numB (acF k d q bs).d (acF k d q bs).q=true:=by
 unfold acF at h0 ⊢;rw [if_pos H] at h0 ⊢
 split at h0
 ·next h1=>
  split at h0
  ·next h2=>
   rw [if_pos h1,if_pos h2];unfold okT at h2;rw [Bool.and_eq_true] at h2;have G:=h2.2;unfold okR at G;rw [Bool.and_eq_true] at G;exact ⟨(yb9 G.2).1,h1⟩
  ·exact absurd h0 de
 ·exact absurd h0 de
theorem cgL_ok {op:Ac->Bool} {l:List EnR}:∀p∈cgL op l,((0<=p.1.R.hd/\p.1.R.hd<=11)/\numB p.1.d p.1.q=true)/\op p.1=true:=fun p hp=>by
 obtain ⟨e,G,h⟩:=List.mem_filterMap.1 hp;unfold cgE at h
 split at h
 ·next g=>
  injection h with h;subst h;exact ⟨acF_hd g.1 g.2.1,g.2.2⟩
 ·cases h
theorem rIs_only {bs:List Int} (H:∀b∈bs,0<=b/\b < 256) {s:RS}:∀k,(rIs bs k s).2.2=0->(∀x∈(rIs bs k s).1,0<=x)->s.2=0/\Ok bs s (rIs bs k s).2 (encL (rIs bs k s).1)
 |0,h,_=>⟨h,Ok.refl bs s⟩
 |k+1,h,hx=>by
  have h1:(rU bs (rIs bs k s).2).2.2=0:=h;obtain ⟨h2,n,T,_,O⟩:=rU_only H h1;obtain ⟨K,N⟩:=rIs_only H k h2 (fun x L=>hx x (by show x∈(rIs bs k s).1++_;exact List.mem_append_left _ L));have G:0<=(rI2 bs (rIs bs k s).2).1:=hx _ (by show _∈(rIs bs k s).1++[(rI2 bs (rIs bs k s).2).1];simp)
  have M:(rI2 bs (rIs bs k s).2).1=n:=by
   unfold rI2 at G ⊢;dsimp only at G ⊢;rw [T] at G ⊢
   by_cases J:(1099511627776:Int) < (n:Int)
   ·rw [if_pos J] at G;omega
   ·rw [if_neg J]
  refine ⟨K,?_⟩;show Ok bs s (rU bs (rIs bs k s).2).2 (encL ((rIs bs k s).1++[(rI2 bs (rIs bs k s).2).1]));rw [ycA,M,Int.toNat_natCast];exact N.trans O
theorem rIs_rt {bs:List Int} {p:Nat} {v:List Int} (h:AtL bs p (encL v)) (H:∀x∈v,0<=x/\x<=1099511627776):∀j,j<=v.length->rIs bs j (p,0)=(v.take j,p+(encL (v.take j)).length,0)
 |0,_=>by simp [rIs,encL]
 |j+1,hj=>by
  have K:=rIs_rt h H j om;obtain ⟨x,J⟩:∃x,v[j]? =some x:=⟨v[j],List.getElem?_eq_getElem om⟩
  have ht:v.take (j+1)=v.take j++[x]:=yby J;have hr:=H x (List.mem_of_getElem? J)
  have G:encL v=(encL (v.take j)++enc x.toNat)++encL (v.drop (j+1)):=by
   rw [<-ycA,<-ht,<-encL_app,List.take_append_drop]
  rw [G] at h;have h2:=h.left.right;have M:=rU_rt h2 om
  have L:rI2 bs (p+(encL (v.take j)).length,0)=(x,p+(encL (v.take j)).length+(enc x.toNat).length,0):=by
   unfold rI2;rw [M];dsimp only;rw [if_neg om]
   congr 1
   omega
  show ((rIs bs j (p,0)).1++[(rI2 bs (rIs bs j (p,0)).2).1],(rI2 bs (rIs bs j (p,0)).2).2)=_;rw [K];dsimp only;rw [L,ht,ycA,List.length_append,Nat.add_assoc]
theorem nrm_of_len {v:List Int} (h:(nrm v).length=v.length):nrm v=v:=by
 unfold nrm at h ⊢;rw [List.length_take] at h;exact List.take_of_length_le om
def MtB (bs:List Int) (m:Nat) (v:List Int):Prop:=m<=11/\ybt v=true/\nrm v=v/\bs=enc m++(enc v.length++encL v)
theorem mt_prog {bs:List Int} (H:∀b∈bs,0<=b/\b < 256) {q:Int} {v:List Int} (h:dmV bs=some (q,v)):∃m:Nat,q=m/\MtB bs m v:=by
 unfold dmV at h
 split at h
 ·next hc=>
  obtain ⟨m,h1,_,L,K⟩:=(rU_only H hc.1).2;have G:(rU bs (0,0)).2.1=(enc m).length:=by rw [L];exact Nat.zero_add _
  rw [G] at h
  cases hd:decV (bs.drop (enc m).length) with
  |none=>rw [hd] at h;cases h
  |some v'=>
   rw [hd] at h;injection h with h;injection h with h5 h6;subst h6;obtain ⟨g1,g2,g3⟩:=decV_only (bs.drop (enc m).length) (fun b J=>H b (List.mem_of_mem_drop J)) v' hd;refine ⟨m,by rw [<-h5,h1],by have:=hc.2;rw [h1] at this;omega,g1,g2,?_⟩
   have ht:bs.take (enc m).length=enc m:=by
    have:=AtL.cut K;rw [List.drop_zero] at this;exact this
   unfold encV at g3;rw [g2] at g3;rw [g3]
   conv=>lhs;rw [<-List.take_append_drop (enc m).length bs]
   rw [ht]
 ·cases h
theorem mt_ref {bs:List Int} (K:∀b∈bs,0<=b/\b < 256) (h:okM bs=true):∃m:Nat,(rm1 bs).1=m/\MtB bs m (rm3 bs).1:=by
 unfold okM at h;simp only [Bool.and_eq_true,decide_eq_true_eq] at h;obtain ⟨h1,h2,N,Y⟩:=h;obtain ⟨e1,e2⟩:=yca.1 h1;obtain ⟨W,o3⟩:=rIs_only K (s:=(rm2 bs).2) (rm2 bs).1.toNat e1 (fun x hx=>(yef N x hx).1);obtain ⟨s1,k,T,k2,o2⟩:=rC_only K (m:=12) (s:=(rm1 bs).2) W;obtain ⟨_,m,m1,_,o1⟩:=rU_only K (s:=(0,0)) s1
 have M:(rm1 bs).1=m:=by
  unfold numB at h2;simp only [decide_eq_true_eq] at h2;have h0:=h2.1.1;show (rI2 bs (0,0)).1=m;have G:0<=(rI2 bs (0,0)).1:=h0;unfold rI2 at G ⊢;dsimp only at G ⊢;rw [m1] at G ⊢
  by_cases O:(1099511627776:Int) < (m:Int)
  ·rw [if_pos O] at G;omega
  ·rw [if_neg O]
 have U:k=(rm3 bs).1.length:=by
  have Z:(rm3 bs).1.length=(rm2 bs).1.toNat:=rIs_len bs _ _;have h6:(rm2 bs).1=k:=T;rw [Z,h6,Int.toNat_natCast]
 have H:=o1.trans (o2.trans o3);have aa:(rm3 bs).2.1<=bs.length:=rIs_le rfl _ (rC_le rfl (ycn rfl (Nat.zero_le _)));have z:(rm3 bs).2.1=bs.length:=by omega
 have L:(enc m++(enc k++encL (rm3 bs).1)).length=bs.length:=by
  have h7:(rm3 bs).2.1=0+(enc m++(enc k++encL (rm3 bs).1)).length:=H.1;omega
 have J:=AtL.all (xs:=enc m++(enc k++encL (rm3 bs).1)) H.2 L;rw [U] at J;refine ⟨m,M,?_,N,nrm_of_len Y,J.symm⟩;unfold numB at h2;simp only [decide_eq_true_eq] at h2;rw [M] at h2;omega
theorem mt_both {bs:List Int} {m:Nat} {v:List Int} (h:MtB bs m v):dmV bs=some ((m:Int),v)/\okM bs=true/\(rm1 bs).1=m/\(rm3 bs).1=v:=by
 obtain ⟨Z,H,hn,G⟩:=h;have L:=yef H;have J:=ydv H;have h0:AtL bs 0 (enc m++(enc v.length++encL v)):=by rw [<-G];exact AtL.self bs
 have T:AtL bs 0 (enc m):=h0.left;have N:AtL bs (0+(enc m).length) (enc v.length++encL v):=h0.right;have r1:=rU_rt T om
 have K:rm1 bs=((m:Int),0+(enc m).length,0):=by
  unfold rm1 rI2;rw [r1];dsimp only;rw [if_neg om]
 have Y:rm2 bs=((v.length:Int),0+(enc m).length+(enc v.length).length,0):=by
  unfold rm2;rw [K];exact rC_rt N.left J de
 have M:rm3 bs=(v,0+(enc m).length+(enc v.length).length+(encL v).length,0):=by
  unfold rm3;rw [Y];dsimp only;rw [Int.toNat_natCast,rIs_rt N.right L v.length nl,List.take_length]
 have W:bs.length=(enc m).length+((enc v.length).length+(encL v).length):=by rw [G,List.length_append,List.length_append]
 refine ⟨?_,?_,by rw [K],by rw [M]⟩
 ·unfold dmV;rw [r1];dsimp only;rw [if_pos ⟨rfl,by omega⟩]
  have hd:bs.drop (0+(enc m).length)=encV v:=by
   unfold encV;rw [hn,Nat.zero_add,G,List.drop_left]
  rw [hd,decV_enc v H,hn];rfl
 ·unfold okM;rw [M,K];have O:rEnd bs (0+(enc m).length+(enc v.length).length+(encL v).length,0)=0:=yca.2 ⟨rfl,by dsimp only;omega⟩;have U:numB (m:Int) 1=true:=by unfold numB;simp only [decide_eq_true_eq];omega
  dsimp only;rw [O,U,H,hn];simp
theorem meet_eq {bs:List Int} (G:∀b∈bs,0<=b/\b < 256):(okM bs=true/\dmV bs=some ((rm1 bs).1,(rm3 bs).1))∨(okM bs=false/\dmV bs=none):=by
 by_cases h:okM bs=true
 ·obtain ⟨m,h1,h2⟩:=mt_ref G h;have H:=mt_both h2;exact .inl ⟨h,by rw [H.1,h1]⟩
 ·cases hd:dmV bs with
  |none=>exact .inr ⟨by rw [Bool.not_eq_true] at h;exact h,rfl⟩
  |some x=>
   obtain ⟨q,v⟩:=x;obtain ⟨m,h1,h2⟩:=mt_prog G hd;exact absurd (mt_both h2).2.1 h
def AcPost (f:Ac) (w:World) (e:Ending) (w':World):Prop:=
 ∃pa pb pc:Hd,e= .returned (.tuple #[.agg (cA f.d f.q (rHd f.R pa pb pc) f.st f.ix f.no f.an),.int .i64 f.er])/\(Sl fT w' w'.heap.size pa.a pa.n f.ps/\Sl fT w' w'.heap.size pb.a pb.n f.qs/\Sl fT w' w'.heap.size pc.a pc.n f.rs)/\(pa.n<=1000000/\pb.n<=1000000/\pc.n<=1000000)/\Below w.heap.size w w'
theorem AcPost.zero {er:Int} {w G:World} {e:Ending} (H:e= .returned (.tuple #[.agg zA,.int .i64 er])) (J:Below w.heap.size w G):AcPost ⟨er,0,0,zRcp,⟨#[]⟩,0,⟨#[]⟩,⟨#[]⟩,[],[],[]⟩ w e G:=
 ⟨⟨none,0,0⟩,⟨none,0,0⟩,⟨none,0,0⟩,H,⟨Sl.nilT _ _,Sl.nilT _ _,Sl.nilT _ _⟩,⟨Nat.zero_le _,Nat.zero_le _,Nat.zero_le _⟩,J⟩
theorem AcPost.some {d q:Int} {R:Rcp} {st:ByteArray} {ix:Int} {no an:ByteArray} {ps qs rs:List ByteArray} {base:Nat} {w G:World} {e:Ending} (J:e= .returned (.tuple #[.agg (cA d q R st ix no an),.int .i64 0])) (H:RcO G base R ps qs rs) (h1:ps.length<=1000000) (h2:qs.length<=1000000) (L:rs.length<=1000000) (K:Below w.heap.size w G):AcPost ⟨0,d,q,rHd R h0 h0 h0,st,ix,no,an,ps,qs,rs⟩ w e G:=by
 have hi:=H.rcIn;refine ⟨R.pa,R.pb,R.pc,J,hi,⟨?_,?_,?_⟩,K⟩
 ·have:=hi.1.1;omega
 ·have:=hi.2.1.1;omega
 ·have:=hi.2.2.1;omega
section
variable (k dv sq dy:Int) (pr:ByteArray) (A:Option Addr) (n c B:Nat) (bs:List Int) (w:World) (hx:Sl fB w B A n bs) (hB:B<=w.heap.size) (hk:RK bs n c)
include hx hB hk
end
def AqPost (f:Aq) (w:World) (e:Ending) (w':World):Prop:=
 ∃hd hq:Hd,e= .returned (.tuple #[.int .i64 f.d,.int .i64 f.q,.agg (cPc ⟨f.st,f.ix,hd,hq⟩),.int .i64 f.er])/\Sl fB w' w'.heap.size hd.a hd.n f.xs/\Sl fT w' w'.heap.size hq.a hq.n f.ys/\hq.n<=1000000/\Below w.heap.size w w'
theorem AqPost.zero {er:Int} {w G:World} {e:Ending} (H:e= .returned (.tuple #[.int .i64 0,.int .i64 0,.agg zPc,.int .i64 er])) (J:Below w.heap.size w G):AqPost ⟨er,0,0,⟨#[]⟩,0,[],[]⟩ w e G:=
 ⟨⟨none,0,0⟩,⟨none,0,0⟩,H,⟨rfl,fun h=>absurd h sI⟩,Sl.nilT _ _,Nat.zero_le _,J⟩
theorem AqPost.some {d q:Int} {st:ByteArray} {ix:Int} {p:Pc} {xs:List Int} {ys:List ByteArray} {w G:World} {e:Ending} (H:e= .returned (.tuple #[.int .i64 d,.int .i64 q,.agg (cPc p),.int .i64 0])) (h1:p.s=st) (h2:p.ix=ix) (hi:PcIn G G.heap.size p xs ys) (hl:ys.length<=1000000) (J:Below w.heap.size w G):AqPost ⟨0,d,q,st,ix,xs,ys⟩ w e G:=by
 subst h1;subst h2;exact ⟨p.d,p.q,H,hi.1,hi.2.1,by have:=hi.2.1.1;omega,J⟩
section
variable (k dv sq dy:Int) (pr:ByteArray) (A:Option Addr) (n c B:Nat) (bs:List Int) (w:World) (hx:Sl fB w B A n bs) (hB:B<=w.heap.size) (hk:RK bs n c)
include hx hB hk
end
structure Mt where
 er:Int
 q:Int
 v:List Int
def mtF (k:Int) (bs:List Int):Mt:=if k=9 then (if okM bs=true then ⟨0,(rm1 bs).1,(rm3 bs).1⟩ else ⟨3,0,[]⟩) else ⟨1,0,[]⟩
def MtPost (f:Mt) (w:World) (e:Ending) (w':World):Prop:=
 ∃A n c,e= .returned (.tuple #[.int .i64 f.q,.slice A n c,.int .i64 f.er])/\Sl I w' w'.heap.size A n f.v/\n<=1000000/\Below w.heap.size w w'
theorem rm3_len (bs:List Int):(rm3 bs).1.length<=1000000:=by
 have h1:(rm3 bs).1.length=(rm2 bs).1.toNat:=rIs_len bs _ _;have h2:(rm2 bs).1<=((12:Nat):Int):=(ycL (bs:=bs) (m:=12) (s:=(rm1 bs).2)).2;omega
section
variable (k dv sq dy:Int) (pr:ByteArray) (A:Option Addr) (n c B:Nat) (bs:List Int) (w:World) (hx:Sl fB w B A n bs) (hB:B<=w.heap.size) (hk:RK bs n c)
include hx hB hk
theorem dmt_u:Calls prog 35 #[.agg #[.int .i64 dv,.int .i64 sq,.int .i64 k,.int .i64 dy,.slice A n c,.string pr]] w (MtPost (mtF k bs) w):=by
 unfold mtF
 by_cases H:k=9
 ·rw [if_pos H];subst H;refine (dmt_any dv sq dy pr A n c B bs w hx hB hk).mono ?_;rintro e L (⟨q,v,O,K,N,h1,h2,⟨G,_⟩,M⟩ |⟨h1,h2,G⟩)
  ·rcases meet_eq hk.1 with ⟨g1,g2⟩ |⟨g1,g2⟩
   ·rw [h1] at g2;injection g2 with g2;injection g2 with g3 g4;subst g3;subst g4;rw [if_pos g1];exact ⟨O,K,N,h2,G,by have:=G.1;have:=rm3_len bs;omega,M⟩
   ·rw [h1] at g2;cases g2
  ·rcases meet_eq hk.1 with ⟨g1,g2⟩ |⟨g1,g2⟩
   ·rw [h1] at g2;cases g2
   ·rw [if_neg (by rw [g1];decide)];exact ⟨none,0,0,h2,Sl.nilI _ _,Nat.zero_le _,G⟩
 ·rw [if_neg H];refine (dmt_no dv sq k dy pr A n c w H).mono ?_;rintro e L ⟨h2,G⟩;exact ⟨none,0,0,h2,Sl.nilI _ _,Nat.zero_le _,G⟩
theorem rmt_u:Calls prog 62 #[.agg #[.int .i64 dv,.int .i64 sq,.int .i64 k,.int .i64 dy,.slice A n c,.string pr]] w (MtPost (mtF k bs) w):=by
 unfold mtF
 by_cases H:k=9
 ·rw [if_pos H];subst H;refine (rmt_any dv sq dy pr A n c B bs w hx hB hk).mono ?_;rintro e K (⟨h1,N,J,M,h2,G,L⟩ |⟨h1,h2,G⟩)
  ·rw [if_pos h1];exact ⟨N,J,M,h2,G,by have:=G.1;have:=rm3_len bs;omega,L⟩
  ·rw [if_neg (by rw [h1];decide)];exact ⟨none,0,0,h2,Sl.nilI _ _,Nat.zero_le _,G⟩
 ·rw [if_neg H];refine (rmt_no dv sq k dy pr A n c w H).mono ?_;rintro e K ⟨h2,G⟩;exact ⟨none,0,0,h2,Sl.nilI _ _,Nat.zero_le _,G⟩
end
def RqP (a:AqX) (V:World) (e:Ending) (w':World):Prop:=
 ∃hd hq:Hd,e= .returned (.tuple #[.int .i64 a.d,.int .i64 a.q,.agg #[.string a.x.st,.int .i64 a.x.ix,.slice hd.a hd.n hd.c,.slice hq.a hq.n hq.c],.int .i64 a.er])/\Sl fB w' w'.heap.size hd.a hd.n a.x.xs/\Sl fT w' w'.heap.size hq.a hq.n a.x.ys/\(hd.n<=hd.c/\hq.n<=hq.c)/\Below V.heap.size V w'
theorem RqP.zero {er:Int} {w G:World} {e:Ending} (H:e= .returned (.tuple #[.int .i64 0,.int .i64 0,.agg zPc,.int .i64 er])) (J:Below w.heap.size w G):RqP ⟨er,0,0,⟨⟨#[]⟩,0,[],[]⟩⟩ w e G:=
 ⟨⟨none,0,0⟩,⟨none,0,0⟩,H,⟨rfl,fun h=>absurd h sI⟩,Sl.nilT _ _,⟨Nat.le_refl _,Nat.le_refl _⟩,J⟩
section
variable (e:EnR) (B:Nat) (w:World) (hx:EnOk w B e) (hB:B<=w.heap.size) (hn:e.bd.n<=65536)
include hx hB hn
theorem rac_f:Calls prog 56 #[.agg (fEn e).toArray] w (AcP (acX e) w):=by
 obtain ⟨dv,sq,k,dy,bd,pr,bs⟩:=e;have hl:bs.length<=65536:=by have h1:bs.length=bd.n:=hx.1.1;have h2:bd.n<=65536:=hn;omega
 have H:RK bs bd.n bd.c:=⟨hx.2.1,by have h2:bd.n<=65536:=hn;omega,hx.2.2.1⟩;unfold acX acF
 by_cases K:k=6
 ·subst K;refine (racc_any dv sq dy pr bd.a bd.n bd.c B bs w hx.1 hB H).mono ?_;rintro e T (⟨h1,R,h2,G,J,Y⟩ |⟨h1,h2,G⟩)
  ·rw [okY_okT H.1 hl] at h1;simp only [Bool.and_eq_true] at h1;rw [if_pos rfl,if_pos h1.2,if_pos h1.1];obtain ⟨⟨a1,a2,a3,a4,Z,z,U⟩,hR⟩:=okT_eqt H.1 hl h1.1;have N:=okR_eqx hR;have hV:=(okx_eq N).2;obtain ⟨e0,e1,e2,e3,e4,e5,e6,e7,e8,W,ac,aa,O,M⟩:=N;rw [a2] at G J;rw [hV] at G;rw [W,O,M] at J;have hs:(dT2 bs).1.1=(ry2 bs).1/\(dT2 bs).1.2=(ry3 bs).1:=by rw [Z];exact ⟨rfl,rfl⟩
   rw [<-hs.1,<-hs.2,z,U] at h2;have hr:rHd R h0 h0 h0=rcV (dT1 bs).1 h0 h0 h0:=by rw [G];rfl
   dsimp only;rw [<-hr];exact ⟨R.pa,R.pb,R.pc,h2,J,Y⟩
  ·rw [okY_okT H.1 hl] at h1;rw [if_pos rfl]
   by_cases L:numB dv sq=true
   ·rw [if_pos L];rw [L,Bool.and_true] at h1;rw [if_neg (by rw [h1];decide)];exact AcP.zero h2 G
   ·rw [if_neg L];exact AcP.zero h2 G
 ·rw [if_neg K];refine (racc_no dv sq k dy pr bd.a bd.n bd.c w K).mono ?_;rintro e T ⟨h2,G⟩;exact AcP.zero h2 G
theorem raq_f:Calls prog 57 #[.agg (fEn e).toArray] w (RqP (aqX e) w):=by
 obtain ⟨dv,sq,k,dy,bd,pr,bs⟩:=e;have H:RK bs bd.n bd.c:=⟨hx.2.1,by have h2:bd.n<=65536:=hn;omega,hx.2.2.1⟩;unfold aqX aqF
 by_cases K:k=7
 ·subst K;refine (racq_any dv sq dy pr bd.a bd.n bd.c B bs w hx.1 hB H).mono ?_;rintro e O (⟨h1,p,h2,G,L,J,N⟩ |⟨h1,h2,G⟩)
  ·rw [okZ_okA H.1] at h1;simp only [if_true,h1];obtain ⟨T,U,z,Z,Y,a6,W,M⟩:=okA_eqa H.1 h1;have hs:(dA3 bs).1.1=(rz3 bs).1/\(dA3 bs).1.2=(rz4 bs).1:=by rw [Y];exact ⟨rfl,rfl⟩
   rw [<-hs.1] at h2;rw [<-hs.2] at G;rw [T,U] at L;rw [W,M] at J;rw [<-h2,<-G];exact ⟨p.d,p.q,L,J.1,J.2.1,J.2.2,N⟩
  ·rw [okZ_okA H.1] at h1;simp only [if_true,h1];exact RqP.zero h2 G
 ·refine (racq_no dv sq k dy pr bd.a bd.n bd.c w K).mono ?_;rintro e O ⟨h2,G⟩;simp only [if_neg K];exact RqP.zero h2 G
end
