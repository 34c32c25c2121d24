import Derived.Test.YtpdledjgbgalcaaGreatDoorPv
import Derived.Test.YtpdledjgbgalcaaGreatDoorNR
import Derived.Great.BuildSlice
namespace Go.Proofs.YtpdledjgbgalcaaGreatDoor
set_option maxRecDepth 100000
set_option maxHeartbeats 16000000
open Go.RowKit Go.Lib Go.Proofs.Tryz
set_option linter.unusedVariables false
set_option linter.unusedSimpArgs false
theorem Tryz.infoEn:(prog.info? 55).map (fun i=>(i.zero.map (·.cells.size),i.size,i.bytes))=some (some 6,6,72):=by kernel_rfl
abbrev zVw:Array Value:=#[.slice none 0 0,.slice none 0 0,.slice none 0 0,.int .i64 0,.int .i64 0,.slice none 0 0,.slice none 0 0]
theorem cVw_all (x:Vw):(cVw x).all (·.oneCell')=true:=by kernel_rfl
def UnE (l:List EnR):Prop:=l.Pairwise fun a b=>¬(a.dv=b.dv/\a.sq=b.sq)
theorem hasE_false {l:List EnR} {d q:Int} (h:hasE l d q=false):∀e∈l,¬(e.dv=d/\e.sq=q):=fun e he g=>by
 have h1:hasE l d q=true:=List.any_eq_true.2 ⟨e,he,by simp [g.1,g.2]⟩;rw [h] at h1;cases h1
theorem UnE.put {l:List EnR} {e:EnR} (h:UnE l):UnE (putE l e):=by
 cases hs:hasE l e.dv e.sq with
 |true=>rw [putE_yes hs];exact h
 |false=>
  rw [putE_no hs]
  exact List.pairwise_append.2 ⟨h,List.pairwise_singleton _ _,fun a ha b G=>by
   obtain rfl:b=e:=by simpa using G
   exact hasE_false hs a ha⟩
theorem cgE_some {op:Ac->Bool} {e:EnR} {p:Ac × EnR} (h:cgE op e=some p):e.k=6/\(acX e).er=0/\op (acX e)=true/\p=(acX e,e):=by
 unfold cgE at h
 split at h
 ·next g=>injection h with h;exact ⟨g.1,g.2.1,g.2.2,h.symm⟩
 ·cases h
section
variable (x y:Vw) (es:List EnR) (vs:List VtR) (pubs drs:List ByteArray) (d:ByteArray) (e:EnR)
end
theorem hasE_fr (G:List EnR) (d q:Int):hasE (frE G) d q=hasE G d q:=by
 have h:∀(G:List EnR) (l:List EnR),hasE (G.foldl putE l) d q=(hasE l d q||hasE G d q):=by
  intro G
  induction G with
  |nil=>intro l;simp [hasE]
  |cons e G ih=>
   intro l;rw [List.foldl_cons,ih];have h1:hasE (e::G) d q=((decide (e.dv=d)&&decide (e.sq=q))||hasE G d q):=by simp [hasE]
   rw [h1,<-Bool.or_assoc]
   congr 1
   unfold putE
   split
   ·next hh=>
    by_cases g:e.dv=d/\e.sq=q
    ·obtain ⟨rfl,rfl⟩:=g;rw [hh];simp
    ·have:(decide (e.dv=d)&&decide (e.sq=q))=false:=by
      by_cases g1:e.dv=d
      ·by_cases g2:e.sq=q
       ·exact absurd ⟨g1,g2⟩ g
       ·simp [g2]
      ·simp [g1]
     rw [this,Bool.or_false]
   ·exact hasE_snoc _ _ _ _
 rw [frE,h];simp [hasE]
theorem frE_yes {es:List EnR} {k:Nat} {e:EnR} (h:es[k]? =some e) (hh:hasE (es.take k) e.dv e.sq=true):frE (es.take (k+1))=frE (es.take k):=by
 rw [ydy h,putE_yes (by rw [hasE_fr];exact hh)]
theorem frE_no {es:List EnR} {k:Nat} {e:EnR} (h:es[k]? =some e) (hh:hasE (es.take k) e.dv e.sq=false):frE (es.take (k+1))=frE (es.take k)++[e]:=by
 rw [ydy h,putE_no (by rw [hasE_fr];exact hh)]
theorem hasE_take {G:List EnR} {m:Nat} {e:EnR} (h:G[m]? =some e) (d q:Int):hasE (G.take (m+1)) d q=(hasE (G.take m) d q||(decide (e.dv=d)&&decide (e.sq=q))):=by
 rw [List.take_add_one,h];exact hasE_snoc _ _ _ _
theorem sizeEnK (e:EnR):(prog.info? 55).map (·.size)=some (fEn e).length:=by kernel_rfl
theorem entries_any (x:Vw) (H:List EnR) (B:Nat) (w:World) (hE:SlN fEn 6 w B x.E.a x.E.n H) (hB:B<=w.heap.size) (hn:x.E.n<=1000):
 Calls prog 55 #[.agg (cVw x)] w fun e w'=>∃v,e= .returned v/\OwnN fEn 6 55 w' w.heap.size v (frE H)/\Below w.heap.size w w':=by
 obtain ⟨⟨EA,G,EC⟩,xV,xP,xb,xh,xD,xF⟩:=x;have aE:H.length=G:=hE.1;have aS:=lh aE;have HE:=lh hE;have am:=lh hB;have aQ:G<=1000:=hn;have HN:=lh aQ;have aA:(w.alloc (.cells (cVw ⟨⟨EA,G,EC⟩,xV,xP,xb,xh,xD,xF⟩) 48)).heap.size=w.heap.size+1:=by simp
 obtain ⟨i0,z0,aw,aB,au,ay,aj⟩:=ycK Tryz.infoEn;have az:=lh aw;have ao:=lh aB;have ak:=lh au;have aU:=lh ay;have aq:=lh aj;obtain ⟨Y,M⟩:∃W:World,W=(w.alloc (.cells (cVw ⟨⟨EA,G,EC⟩,xV,xP,xb,xh,xD,xF⟩) 48)).alloc (.cells #[] 55):=⟨_,rfl⟩
 have aL:=lh M;have HB1:Hid (Below w.heap.size w Y):=by show Below ..;rw [M];exact bl.alloc sI _
 have aM:Hid (Y.heap[w.heap.size]? =some (.cells (cVw ⟨⟨EA,G,EC⟩,xV,xP,xb,xh,xD,xF⟩) 48 (0,0))):=by show _=_;rw [M];exact (zx _ _ _ sI).trans (zy w _)
 have aH:Hid (OwnN fEn 6 55 Y (w.heap.size+1) (.slice (some ⟨w.heap.size+1,0,none⟩) 0 0) []):=by
  show OwnN ..
  rw [M,<-aA];exact World.ownsRow_made _ #[] 0 nl (Nat.zero_le _) sI
 have HS1:Hid (w.heap.size+1<=Y.heap.size):=by show _<=_;rw [M];simp
 clear hE hB aw aB au ay aj M aA;go_enter func55,ntmps55;go_upto_region 2 with fail
 rw [<-aL.out];go_wp2_with fail
 go_loopw [3,4] (fun v i wr=>∃k:Nat,k<=G/\i= .int .i64 k/\Hid (Below (w.heap.size+1) Y wr)/\Hid (OwnN fEn 6 55 wr (w.heap.size+1) v (frE (H.take k)))) (fun _ i _=>G - (intOf i).toNat)
 case atStart=>exact ⟨0,Nat.zero_le _,rfl,Below.refl _ _,aH⟩
 case round=>
  obtain ⟨k,hk,rfl,HBr,HO⟩:=hrel;have HG:Hid (wr.heap[w.heap.size]? =some (.cells (cVw ⟨⟨EA,G,EC⟩,xV,xP,xb,xh,xD,xF⟩) 48 (0,0))):=(HBr.out.block _ (Nat.lt_succ_self _)).trans aM.out;have af:Hid (Below w.heap.size w wr):=HB1.out.trans (HBr.out.mono (Nat.le_succ _));obtain ⟨v0,v1,v2,v3,v4,v5,v6⟩:=ybo HG.out
  by_cases hlt:k < G
  ·obtain ⟨b,O,e,rfl,aZ,he,ar⟩:=(HE.out.up af.out am.out).at_ (k:=k) hlt;have aG:(k:Int) < (G:Int):=by omega
   have HGE:=lh he;have aI:Hid (SlN fEn 6 w B (some ⟨b,O,none⟩) G H):=HE;obtain ⟨K,aO⟩:∃K:World,K=wr:=⟨_,rfl⟩
   subst aO;obtain ⟨dv,sq,Z,dy,bd,pr,bs⟩:=e;have HR:Hid (K.rangeAt b (O+k*6) (fEn ⟨dv,sq,Z,dy,bd,pr,bs⟩)):=fun j v T=>by rw [Nat.add_assoc];exact ar j v T
   clear ar he;go_upto_region 7 with fail
   have aR:Hid (∀V,Below K.heap.size K V->V.heap[w.heap.size]? =some (.cells (cVw ⟨⟨some ⟨b,O,none⟩,G,EC⟩,xV,xP,xb,xh,xD,xF⟩) 48 (0,0))):=fun V T=>(T.block _ (lb HG.out)).trans HG.out
   have ae:Hid (∀V,Below K.heap.size K V->∀m,m < G->∃e',H[m]? =some e'/\V.rangeAt b (O+m*6) (fEn e')):=fun V T m hm=>by
    obtain ⟨b',aV,e',h1,_,h3,h4⟩:=(aI.out.up (bt af.out T) am.out).at_ (k:=m) hm;injection h1 with h1;injection h1 with h5 h6 _;subst h5 h6;exact ⟨e',h3,fun j v T=>by rw [Nat.add_assoc];exact h4 j v T⟩
   have U:=HGE
   go_loopw [5,6] (fun f j wr=>∃m:Nat,m<=k/\j= .int .i64 m/\f= .bool (!hasE (H.take m) dv sq)/\Hid (Below K.heap.size K wr)) (fun _ j _=>k - (intOf j).toNat)
   case atStart=>exact ⟨0,Nat.zero_le _,rfl,rfl,Below.refl _ _⟩
   case round=>
    obtain ⟨m,hm,rfl,rfl,L⟩:=hrel;obtain ⟨v0,v1,v2,v3,v4,v5,v6⟩:=ybo (aR.out _ L.out)
    by_cases aX:m < k
    ·obtain ⟨⟨ai,ah,aY,a1,a5,a4,bs'⟩,ax,ac⟩:=ae.out _ L.out m om;obtain ⟨e2,J,N⟩:=ae.out _ L.out k hlt;obtain rfl:(⟨dv,sq,Z,dy,bd,pr,bs⟩:EnR)=e2:=by rw [U.out] at J;exact Option.some.inj J
     have aD:(m:Int) < (k:Int):=by omega
     have aC:(m:Int) < (G:Int):=by omega
     have y0:=ac 0 _ rfl;have y1:=ac 1 _ rfl;have x0:=N 0 _ rfl;have x1:=N 1 _ rfl;simp only [Nat.add_zero] at y0 x0;have HT:=lh (hasE_take ax dv sq);have aa:Hid (Below K.heap.size K wr.drew):=L.out.drew;clear ac N ax J;go_wp2_with fail
     by_cases hd:ai=dv
     ·by_cases hq:ah=sq
      ·subst hd;subst hq;go_quiet (fail);go_wp2_with fail;go_roundw;case rel=>exact ⟨m+1,by omega,by go_num,by rw [HT.out];simp,by first |exact aa.out |exact ybd L.out _⟩
       case measure=>simp [intOf];omega
      ·subst hd;have a0:(ah==sq)=false:=by simp [hq]
       have a2:decide (ah=sq)=false:=by simp [hq]
       go_quiet (fail)
       go_wp2_with fail
       go_roundw
       case rel=>exact ⟨m+1,by omega,by go_num,by rw [HT.out];simp [hq],by first |exact aa.out |exact ybd L.out _⟩
       case measure=>simp [intOf];omega
     ·have a3:(ai==dv)=false:=by simp [hd]
      have a6:decide (ai=dv)=false:=by simp [hd]
      go_quiet (fail)
      go_wp2_with fail
      go_roundw
      case rel=>exact ⟨m+1,by omega,by go_num,by rw [HT.out];simp [hd],by first |exact aa.out |exact ybd L.out _⟩
      case measure=>simp [intOf];omega
    ·obtain rfl:m=k:=by omega
     have aD:¬(m:Int) < (m:Int):=by omega
     have ag:=lh (OwnN.on HO.out L.out);have z:Hid (Below (w.heap.size+1) Y wr):=HBr.out.trans (L.out.mono (lT HS1.out HBr.out.size));obtain ⟨e2,J,N⟩:=ae.out _ L.out m hlt;obtain rfl:(⟨dv,sq,Z,dy,bd,pr,bs⟩:EnR)=e2:=by rw [U.out] at J;exact Option.some.inj J
     have aC:(m:Int) < (G:Int):=by omega
     have aJ:=lh N;clear N J
     cases hh:hasE (H.take m) dv sq with
     |true=>
      have HY:=lh (frE_yes U.out hh);clear hh;go_wp2_with fail;go_roundw;case rel=>exact ⟨m+1,by omega,by go_num,z,by show OwnN ..;rw [HY.out];exact ag.out⟩
      case measure=>simp [intOf];omega
     |false=>
      have HY:=lh (frE_no U.out hh);have aK:=ydd H m;have hml:=HN.out;have aT:Hid (((frE (H.take m)).length+1)*72<=140737488355328):=by show _<=_;omega
      have aP:Hid ((frE (H.take m)).length+1<=maxLen):=by show _<=_;unfold maxLen;omega
      have ap:Hid (w.heap.size+1<=wr.heap.size):=lT HS1.out z.out.size;clear hh aK hml
      go_wp2_with (first
       |(with_reducible refine wpList_load_mid rfl 55 (.tmp 53) rfl b (O+m*6) rfl (fEn ⟨dv,sq,Z,dy,bd,pr,bs⟩) _ aJ.out underlying55 rfl (sizeEnK _) ?_)
       |(with_reducible refine ybP (o:=⟨some 55,_,_,_,_,_⟩) rfl 22 (.tmp 54) rfl 55 i0 z0 6 underlying22 az.out ao.out ak.out aq.out om om (fEn ⟨dv,sq,Z,dy,bd,pr,bs⟩).toArray rfl rfl ?_)
       |((with_reducible refine ycb (o:=⟨some 56,_,_,_,_,_⟩) (f:=fEn) ydK om rfl (.tmp 49) (.tmp 55) 22 rfl 55 i0 z0 72 underlying22 az.out ao.out ak.out aU.out aq.out u3 (frE (H.take m)) (w.heap.size+1) rfl ag.out ⟨dv,sq,Z,dy,bd,pr,bs⟩ 1 rfl fEn_one aT.out aP.out ap.out ?_);intro v6 W6 aN aF aW))
      go_roundw
      case rel=>exact ⟨m+1,by omega,by go_num,OwnN.below ag.out z.out nl ap.out aF.out,by show OwnN ..;rw [HY.out];exact aN.out⟩
      case measure=>simp [intOf];omega
  ·obtain rfl:k=G:=by omega
   have aG:¬(k:Int) < (k:Int):=by omega
   have HT:Hid (H.take k=H):=by show _=_;rw [<-aS.out,List.take_length]
   go_wp2_with fail
   go_ret;exact ⟨_,rfl,World.ownsRow.mono (by have:=HO.out;rw [HT.out] at this;exact this) (Nat.le_succ _),af.out⟩
theorem same_rr (r1 r2:AcR) (Z b2:Nat) (w:World) (h:r1.a=r2.a) (h1:ArO w Z r1) (h2:ArO w b2 r2) (hn:r1.a.ps.length<=1000000/\r1.a.qs.length<=1000000/\r1.a.rs.length<=1000000):
 Calls prog 18 #[.agg (cAr r1),.agg (cAr r2)] w fun e Y=>e= .returned (.bool true)/\Below w.heap.size w Y:=by
 obtain ⟨G,pa,pb,pc⟩:=r1;obtain ⟨T,K,J,H⟩:=r2;have U:G=T:=h;subst U;have g1:=(RcO.rcIn h1);have g2:=(RcO.rcIn h2);have n1:pa.n=G.ps.length:=g1.1.1.symm;have n2:pb.n=G.qs.length:=g1.2.1.1.symm;have n3:pc.n=G.rs.length:=g1.2.2.1.symm;have L:K.n=pa.n:=g2.1.1.symm.trans g1.1.1;have M:J.n=pb.n:=g2.2.1.1.symm.trans g1.2.1.1;have N:H.n=pc.n:=g2.2.2.1.symm.trans g1.2.2.1;have ae:G.ps.length<=1000000/\G.qs.length<=1000000/\G.rs.length<=1000000:=hn;obtain ⟨W,an,O⟩:=K;obtain ⟨ba,bn,bc⟩:=J;obtain ⟨z,cn,cc⟩:=H;dsimp only at L M N;subst L M N;exact same45_any G.d G.q (rHd G.R pa pb pc) ⟨W,pa.n,O⟩ ⟨ba,pb.n,bc⟩ ⟨z,pc.n,cc⟩ G.st G.ix G.no G.an G.ps G.qs G.rs w.heap.size w g1 g2 nl (by show pa.n<=_/\pb.n<=_/\pc.n<=_;omega)
def sumB:List EnR->Nat
 | []=>0
 |e::t=>e.bd.n+sumB t
theorem sumB_snoc:∀(es:List EnR) (e:EnR),sumB (es++[e])=sumB es+e.bd.n
 | [],e=>by simp [sumB]
 |a::t,e=>by
  rw [List.cons_append,sumB,sumB_snoc t e,sumB];omega
def smB (es:List EnR):Prop:=∀e∈es,e.bd.n<=140737488355328
theorem sumB_le:∀(G:List EnR),smB G->sumB G<=G.length*140737488355328
 | [],_=>by simp [sumB]
 |e::t,h=>by
  have h1:=h e List.mem_cons_self;have h2:=sumB_le t (fun x H=>h x (List.mem_cons_of_mem _ H));rw [sumB,List.length_cons,Nat.succ_mul];omega
theorem smB_take {es:List EnR} (h:smB es) (k:Nat):smB (es.take k):=fun e he=>h e (List.mem_of_mem_take he)
def FewB (x:Vw) (es:List EnR):Prop:=x.E.n<=12/\x.V.n<=4/\x.P.n<=14/\x.D.n<=10/\x.F.n<=10/\(smB es->sumB es<=30000)
def FewP (x:Vw) (es:List EnR) (w:World) (e:Ending) (w':World):Prop:=∃t:Bool,e= .returned (.bool t)/\(t=true->FewB x es)/\Below w.heap.size w w'
theorem few_any (x:Vw) (G:List EnR) (B:Nat) (w:World) (U:EnIn w B x.E.a x.E.n G) (hB:B<=w.heap.size) (ak:x.E.n<=9223372036854775807):
 Calls prog 9 #[.agg (cVw x)] w (FewP x G w):=by
 obtain ⟨K,J⟩:∃K:World,K=w.alloc (.cells (cVw x) 29):=⟨_,rfl⟩
 have M:Below w.heap.size w K:=by rw [J];exact bl
 have H:K.heap[w.heap.size]? =some (.cells (cVw x) 29 (0,0)):=by rw [J];exact zy w _
 obtain ⟨v0,v1,v2,v3,v4,v5,v6⟩:=ybo H;have HX:Hid (EnIn K B x.E.a x.E.n G):=U.up M hB;have ae:Hid (G.length=x.E.n):=U.1.1;have HB1:=lh M;have HWE:=lh J;have T:Hid (smB G->(0:Int)=(sumB (G.take 0):Int)):=fun _=>by simp [sumB]
 clear U hB M H J;go_enter func9,ntmps9;go_upto_region 1 with fail
 rw [<-HWE.out];go_upto_region 3 with fail
 go_loopw [3,4] (fun u i wr=>(∃(k:Nat) (s:Int),k<=x.E.n/\k<=20/\i= .int .i64 k/\u= .int .i64 s/\Hid (smB G->s=(sumB (G.take k):Int)))/\K=wr) (fun _ i _=>20 - (intOf i).toNat)
 case atStart=>exact ⟨⟨0,0,by omega,by omega,rfl,rfl,T⟩,rfl⟩
 case round=>
  clear T;obtain ⟨⟨k,s,hk,ah,rfl,rfl,L⟩,rfl⟩:=hrel
  by_cases hlt:k < x.E.n
  ·by_cases ai:k < 20
   ·have N:(k:Int) < (x.E.n:Int):=by omega
    have af:(k:Int) < 20:=by omega
    have aj:(0:Int)<=(k:Int):=by omega
    obtain ⟨be,oe,e,aa,_,H,O⟩:=HX.out.1.at_ (k:=k) hlt;have k4:=O 4 _ rfl;rw [<-Nat.add_assoc] at k4;rw [aa] at v0
    have W:Hid (smB G->wrap64 (s+(e.bd.n:Int))=(sumB (G.take (k+1)):Int)):=fun hs=>by
     have h1:=L.out hs;have h2:=sumB_le (G.take (k+1)) (smB_take hs _);have z:(G.take (k+1)).length<=20:=by rw [List.length_take];omega
     have Y:sumB (G.take (k+1))=sumB (G.take k)+e.bd.n:=by rw [ybq H,sumB_snoc]
     have h5:(G.take (k+1)).length*140737488355328<=20*140737488355328:=Nat.mul_le_mul_right _ z;rw [h1,Y];rw [IntWalk.wrap64_in _ om];simp
    clear O H;go_wp2;refine ⟨?rel,?measure⟩;case rel=>exact ⟨⟨k+1,_,by omega,by omega,by go_num,rfl,W⟩,by first |rfl |trivial⟩
    case measure=>(simp [intOf]<;>omega)
   ·
    obtain rfl:k=20:=by omega
    have N:((20:Nat):Int) < (x.E.n:Int):=by omega
    have ag:(20:Int) < (x.E.n:Int):=by omega
    have am:¬(x.E.n:Int)<=12:=by omega
    go_wp2;go_ret;exact ⟨false,rfl,(fun h=>by cases h),HB1.out⟩
  ·obtain rfl:x.E.n=k:=by omega
   have Z:Hid (smB G->s=(sumB G:Int)):=fun hs=>by rw [L.out hs,List.take_of_length_le (by rw [ae.out];exact Nat.le_refl _)]
   have N:¬(x.E.n:Int) < (x.E.n:Int):=by omega
   clear L
   by_cases h1:(x.E.n:Int)<=12
   ·by_cases h2:s<=30000
    ·by_cases z:(x.V.n:Int)<=4
     ·by_cases Y:(x.P.n:Int)<=14
      ·by_cases h5:(x.D.n:Int)<=10
       ·by_cases h6:(x.F.n:Int)<=10
        ·have ac:Hid (FewB x G):=⟨by omega,by omega,by omega,by omega,by omega,fun hs=>by have:=Z.out hs;omega⟩
         go_wp2;go_ret;exact ⟨true,rfl,fun _=>ac.out,HB1.out⟩
        ·go_wp2;go_ret;exact ⟨false,rfl,(fun h=>by cases h),HB1.out⟩
       ·go_wp2;go_ret;exact ⟨false,rfl,(fun h=>by cases h),HB1.out⟩
      ·go_wp2;go_ret;exact ⟨false,rfl,(fun h=>by cases h),HB1.out⟩
     ·go_wp2;go_ret;exact ⟨false,rfl,(fun h=>by cases h),HB1.out⟩
    ·go_wp2;go_ret;exact ⟨false,rfl,(fun h=>by cases h),HB1.out⟩
   ·go_wp2;go_ret;exact ⟨false,rfl,(fun h=>by cases h),HB1.out⟩
theorem encV03:encV [0,3]=[2,0,3]:=by decide
theorem nrm03:nrm [0,3]=[0,3]:=by decide
def rc0 (s:ByteArray):Rcp:=⟨2,0,s,0,1,0,0,0,0,⟨#[]⟩,⟨none,0,0⟩,0,⟨none,0,0⟩,⟨none,0,0⟩⟩
theorem rea0 (s:ByteArray):rea [2] [rc0 s,rc0 s]=[(s,0)]:=by
 have h1:reaS [2] [] (rc0 s)=[(s,0)]:=by
  unfold reaS;rw [pinB_no sI];rfl
 have h2:reaS [2] [(s,0)] (rc0 s)=[(s,0)]:=by
  unfold reaS;rw [yd2 (by simp [rc0])];simp
 show reaS [2] (reaS [2] [] (rc0 s)) (rc0 s)=_;rw [h1,h2]
theorem two_rows (w:World) (s:ByteArray):SlN fR 14 (w.alloc (.cells ((fR (rc0 s)++fR (rc0 s)).toArray) 35)) (w.heap.size+1) (some ⟨w.heap.size,0,none⟩) 2 [rc0 s,rc0 s]:=
 ⟨rfl,fun _=>⟨w.heap.size,0,rfl,Nat.lt_succ_self _,fun k x G j v H=>by
   have hj:j < 14:=(List.getElem?_eq_some_iff.1 H).1;rw [cell_of_row _ _ _ _ _ _ (zy w _),List.getElem?_toArray,Nat.zero_add];rcases k with _ |_ |k
   ·simp at G;subst G;rw [Nat.zero_mul,Nat.zero_add,List.getElem?_append_left (by rw [fR_len];exact hj)];exact H
   ·simp at G;subst G;rw [List.getElem?_append_right (by rw [fR_len];omega),fR_len,show (0+1)*14+j - 14=j by omega];exact H
   ·simp at G⟩⟩
def rcParts:Array (Nat × Operand):=#[(0,.const (.int .i64 2)),(2,.tmp 25),(3,.const (.int .i64 1))]
def acParts:Array (Nat × Operand):=#[(2,.tmp 26)]
abbrev rcArr (s:ByteArray):Array Value:=(fR (rc0 s)).toArray
theorem rcBuilt (a:Act) (s:ByteArray) (h:a.eval (.tmp 25)= .agg #[.string s,.int .i64 0]):prog.built 35 (rcParts.map fun (i,x)=>(i,a.eval x)).toList=some (rcArr s):=by
 rw [Array.toList_map];show prog.built 35 [(0,.int .i64 2),(2,a.eval (.tmp 25)),(3,.int .i64 1)]=_;rw [h]
 kernel_rfl
theorem acBuilt (a:Act) (s:ByteArray) (h:a.eval (.tmp 26)= .agg (rcArr s)):prog.built 39 (acParts.map fun (i,x)=>(i,a.eval x)).toList=some (ybZ s 1):=by
 rw [Array.toList_map];show prog.built 39 [(2,a.eval (.tmp 26))]=_;rw [h]
 kernel_rfl
theorem acc_size (s:ByteArray):(prog.info? 39).map (·.size)=some (ybZ s 1).size:=by kernel_rfl
theorem acc_one (s:ByteArray):(ybZ s 1).all (·.oneCell')=true:=by
 rw [Array.all_eq_true'];intro x hx;simp [ybZ] at hx
 repeat' (rcases hx with rfl |hx)
 all_goals first
  |rfl
  |(subst hx;rfl)
def zRc:Value:= .agg #[.int .i64 0,.int .i64 0,.string ⟨#[]⟩,.int .i64 0,.int .i64 0,.int .i64 0,.int .i64 0,.int .i64 0,.int .i64 0,.string ⟨#[]⟩,.slice none 0 0,.int .i64 0,.slice none 0 0,.slice none 0 0]
theorem Tryz.infoRc:(prog.info? 35).map (fun i=>(i.zero,i.size))=some (some zRc,14):=by kernel_rfl
def rsParts:Array (Nat × Operand):=#[(0,.tmp 29),(1,.tmp 31)]
abbrev rsArr (s:ByteArray):Array Value:=(fR (rc0 s)++fR (rc0 s)).toArray
theorem rsFill (a:Act) (s:ByteArray) (h:a.eval (.tmp 29)= .agg (rcArr s)) (G:a.eval (.tmp 31)= .agg (rcArr s)):
 Instr.fill (fun i=>some (i*14,14)) ((Array.range (2*14)).map (zRc.cells[· % zRc.cells.size]!)) (rsParts.map fun (i,x)=>(i,a.eval x)).toList=some (rsArr s):=by
 rw [Array.toList_map];show Instr.fill (fun i=>some (i*14,14)) ((Array.range (2*14)).map (zRc.cells[· % zRc.cells.size]!)) [(0,a.eval (.tmp 29)),(1,a.eval (.tmp 31))]=_;rw [h,G]
 kernel_rfl
theorem Tryz.sizePc:(prog.info? 42).map (·.size)=some 4:=by kernel_rfl
theorem Tryz.sizeAcc:(prog.info? 39).map (·.size)=some 20:=by kernel_rfl
theorem awake_any (w:World) (hG:Glob w):Calls prog 11 #[] w fun e G=>e= .returned (.bool true)/\Below w.heap.size w G:=by
 have bA:=lh hG;have az:Sl fB (w.alloc (.cells #[.int .u8 120] 5 (1,2))) (w.heap.size+1) (some ⟨w.heap.size,0,none⟩) 1 [120]:=⟨rfl,SL.of_block (t:=5) (fr:=(1,2)) (zy w _) (Nat.lt_succ_self _)⟩;have aB:Byt [120]:=fun x hx=>by rw [List.mem_singleton.1 hx];omega
 have bf:=lh az;have a0:=lh aB;have aZ:Hid (Below w.heap.size w (w.alloc (.cells #[.int .u8 120] 5 (1,2)))):=bl;have HP:=lh (piece_any (some ⟨w.heap.size,0,none⟩) 1 1 (w.heap.size+1) [120] _ nl az sI om om aB);have ax:Hid ((leafS [120]).size=32):=leafS_size _;have bc:(convert 40 40 (.slice (some ⟨w.heap.size,0,none⟩) 1 1)).run prog (w.alloc (.cells #[.int .u8 120] 5))= .ok (.slice (some ⟨w.heap.size,0,none⟩) 1 1) (w.alloc (.cells #[.int .u8 120] 5 (1,2))):=run_convert_bytes_const w 40 5 #[.int .u8 120] 1 1 underlying40 underlying5;clear hG az aB;go_enter func11,ntmps11
 go_upto_region 2 with (first
  |(go_at_call 29;(with_reducible refine HP.out.mono ?_);rintro e w1 ⟨U,rfl,aN,am⟩
    have HS1:=lh aN;have HB1:Hid (Below w.heap.size w w1):=aZ.out.trans (am.mono sI);have be:Hid (Sl fB w1 (w.heap.size+1) (some ⟨w.heap.size,0,none⟩) 1 [120]):=bf.out.up am sI;have ag:Hid (w.heap.size+1<=w1.heap.size):=by have:=am.size;simp at this;exact this
    clear aN am))
 clear bc;obtain ⟨s,hs⟩:∃s,s=leafS [120]:=⟨_,rfl⟩
 rw [<-hs] at HS1 ax ⊢;have aI:=lh hs;clear hs;generalize ao:w1.alloc _=W2;have aP:Hid (W2.heap[w1.heap.size]? =some (.cells #[.string s,.int .i64 0,.slice (some ⟨w.heap.size,0,none⟩) 1 1,.slice U 1 1] 42 (0,0))):=by show _=_;rw [<-ao];exact zy w1 _
 have Z:Below w1.heap.size w1 W2:=by rw [<-ao];exact bl
 have af:Hid (Below w.heap.size w W2):=bt HB1.out Z;have bq:Hid (Sl fT W2 w1.heap.size U 1 [s]):=HS1.out.up Z nl;have bm:Hid (Sl fB W2 (w.heap.size+1) (some ⟨w.heap.size,0,none⟩) 1 [120]):=be.out.up Z ag.out;have T:Hid (w1.heap.size < W2.heap.size):=lb aP.out;clear Z ao;have aQ:Sl I (W2.alloc (.cells #[.int .i64 0,.int .i64 3] 3)) (W2.heap.size+1) (some ⟨W2.heap.size,0,none⟩) 2 [0,3]:=⟨rfl,SL.of_block (t:=3) (fr:=(0,0)) (zy W2 _) (Nat.lt_succ_self _)⟩
 have ba:Hid (Calls prog 31 #[.int .i64 1,.slice (some ⟨W2.heap.size,0,none⟩) 2 2] (W2.alloc (.cells #[.int .i64 0,.int .i64 3] 3)) (Slc2 fB ((1:Int)::encV [0,3]) 0 (W2.alloc (.cells #[.int .i64 0,.int .i64 3] 3)))):=
  (emeet_any 1 (some ⟨W2.heap.size,0,none⟩) 2 [0,3] 2 _ (W2.heap.size+1) aQ sI om).mono (fun e G h=>by
    rcases h with ⟨_,h⟩ |⟨h,_⟩
    ·exact h
    ·exact absurd h de)
 clear aQ
 go_upto_region 4 with (first
  |(go_at_call 31;(with_reducible refine ba.out.mono ?_)
    rintro e w4 ⟨A2,n2,c2,rfl,br,ay,aJ⟩;have HS4:=lh ay;have aL:Hid (Below W2.heap.size W2 w4):=bl.trans (aJ.mono sI);have bj:=lh (dmeet_enc 1 [0,3] A2 n2 c2 w4.heap.size w4 ay br nl de om);have HW4:Hid (Below W2.heap.size W2 w4):=aL.out
    clear ay aJ)
  |(go_at_call 35;(with_reducible refine bj.out.mono ?_);rintro e H ⟨A5,n5,c5,rfl,bD,aM,ap⟩
    have HS5:=lh aM;have au:Hid (Below W2.heap.size W2 H):=bt aL.out ap;have aS:Hid (Below w4.heap.size w4 H):=ap
    clear aM ap))
 have ae:Hid (H.heap[w1.heap.size]? =some (.cells #[.string s,.int .i64 0,.slice (some ⟨w.heap.size,0,none⟩) 1 1,.slice U 1 1] 42 (0,0))):=(au.out.block _ T.out).trans aP.out;have p0:=zz H w1.heap.size 0 _ _ _ ae.out;have p1:=zz H w1.heap.size 1 _ _ _ ae.out;simp at p0 p1
 go_upto_region 5 with (first
  |(with_reducible refine ybi (o:=⟨some 26,_,_,_,_,_⟩) rfl 35 rcParts ya9 (rcArr s) (rcBuilt _ s (by rfl)) ?_)
  |(with_reducible refine ybi (o:=⟨some 27,_,_,_,_,_⟩) rfl 39 acParts ya9 (ybZ s 1) (acBuilt _ s (by rfl)) ?_)
  |(with_reducible refine ybl (o:=⟨none,_,_,_,_,_⟩) rfl 39 (.tmp 7) (.tmp 27) rfl 39 _ (ybZ s 1) rfl rfl (acc_size s) ya9 (acc_one s) ?_))
 generalize aj:H.alloc _=W6;have M:Hid (W6.heap[H.heap.size]? =some (.cells (ybZ s 1) 39 (0,0))):=by show _=_;rw [<-aj];exact zy H _
 have HB6:Hid (Below W2.heap.size W2 W6):=by show Below ..;rw [<-aj];exact au.out.alloc au.out.size _
 have O:Below H.heap.size H W6:=by rw [<-aj];exact bl
 have ar:Hid (W6.heap[w1.heap.size]? =some (.cells #[.string s,.int .i64 0,.slice (some ⟨w.heap.size,0,none⟩) 1 1,.slice U 1 1] 42 (0,0))):=(O.block _ (lb ae.out)).trans ae.out;have bg:Hid (Sl I W6 W6.heap.size A5 n5 (nrm [0,3])):=(HS5.out.up O nl).more' O.size;have a2:=zz W6 H.heap.size 2 _ _ _ M.out;have a3:=zz W6 H.heap.size 3 _ _ _ M.out;have a4:=zz W6 H.heap.size 4 _ _ _ M.out;have a5:=zz W6 H.heap.size 5 _ _ _ M.out;have a6:=zz W6 H.heap.size 6 _ _ _ M.out;have a7:=zz W6 H.heap.size 7 _ _ _ M.out;have a8:=zz W6 H.heap.size 8 _ _ _ M.out;have a9:=zz W6 H.heap.size 9 _ _ _ M.out;have aW:=zz W6 H.heap.size 10 _ _ _ M.out;have bb:=zz W6 H.heap.size 11 _ _ _ M.out;have bv:=zz W6 H.heap.size 12 _ _ _ M.out;have bu:=zz W6 H.heap.size 13 _ _ _ M.out;have aV:=zz W6 H.heap.size 14 _ _ _ M.out;have aX:=zz W6 H.heap.size 15 _ _ _ M.out;simp [ybZ] at a2 a3 a4 a5 a6 a7 a8 a9 aW bb bv bu aV aX;have ak:Hid (Below w4.heap.size w4 W6):=bt aS.out O;have aa:Hid (w.heap.size<=W6.heap.size):=lT af.out.size HB6.out.size;clear aj O p0 p1
 obtain ⟨ie,aF,aO,aR⟩:∃ie,prog.info? 35=some ie/\ie.zero=some zRc/\ie.size=14:=by
  have h:=Tryz.infoRc
  cases hh:prog.info? 35 with
  |none=>rw [hh] at h;cases h
  |some ie=>
   rw [hh] at h;simp only [Option.map_some,Option.some.injEq,Prod.mk.injEq] at h;exact ⟨ie,rfl,h.1,h.2⟩
 have bi:=lh aF;have bo:=lh aO;have aw:=lh aR;have bw:Hid (Sl I ((W6.alloc (.cells (rsArr s) 35)).alloc (.cells #[.int .i64 2] 3)) (W6.heap.size+2) (some ⟨W6.heap.size+1,0,none⟩) 1 [2]):=⟨rfl,SL.of_block (t:=3) (fr:=(0,0)) (heap_alloc2_new W6 _ _) om⟩;have aK:Below (W6.heap.size+1) (W6.alloc (.cells (rsArr s) 35)) ((W6.alloc (.cells (rsArr s) 35)).alloc (.cells #[.int .i64 2] 3)):=bR.alloc sI _;have bp:okP s 0:=⟨by rw [ax.out];unfold maxLen;omega,by unfold int64;omega⟩
 have bx:=lh (reassign_any (some ⟨W6.heap.size,0,none⟩) (some ⟨W6.heap.size+1,0,none⟩) 2 2 1 1 (W6.heap.size+2) [rc0 s,rc0 s] [2] _ (((two_rows W6 s).up aK nl).more om) bw.out sI om om (fun r hr=>by
  simp at hr;subst hr;exact bp))
 clear aF aO aR aK
 go_upto_region 6 with (first
  |(refine wpList_buildSlice (o:=⟨some 32,_,_,_,_,_⟩) rfl 89 35 2 rsParts ya9 (rsArr s) ie zRc underlying89 bi.out bo.out (by rw [aw.out];omega) (by rw [aw.out];omega) (by rw [aw.out];exact rsFill _ s (by rfl) (by rfl)) ?_)
  |(go_at_call 36;(with_reducible refine bx.out.mono ?_);rintro e J ⟨A8,n8,c8,rfl,Y,aG⟩
    have bz:=lh Y;have bk:=lh aG
    clear Y aG))
 obtain ⟨aE,bJ⟩:∃aE,aE=n8:=⟨_,rfl⟩
 have Y:=bz.out;rw [rea0] at Y;obtain rfl:n8=1:=by rw [<-Y.1];rfl
 obtain ⟨b8,o8,x8,rfl,aq,aH,aC⟩:=Y.at_ (k:=0) om;simp at aH;subst aH;have q0:=aC 0 (.string s) rfl;have q1:=aC 1 (.int .i64 0) rfl;simp at q0 q1;have L:Hid (Below W6.heap.size W6 J):=((bl.alloc sI _).trans (bk.out.mono yba));have ac:Hid (J.heap[H.heap.size]? =some (.cells #[.int .i64 0,.int .i64 0,.int .i64 2,.int .i64 0,.string s,.int .i64 0,.int .i64 1,.int .i64 0,.int .i64 0,.int .i64 0,.int .i64 0,.string ⟨#[]⟩,.slice none 0 0,.int .i64 0,.slice none 0 0,.slice none 0 0,.string ⟨#[]⟩,.int .i64 0,.string ⟨#[]⟩,.string ⟨#[]⟩] 39 (0,0))):=(L.out.block _ (lb M.out)).trans M.out;have z:Hid (J.heap[w1.heap.size]? =some (.cells #[.string s,.int .i64 0,.slice (some ⟨w.heap.size,0,none⟩) 1 1,.slice U 1 1] 42 (0,0))):=(L.out.block _ (lb ar.out)).trans ar.out
 have aT:Hid (Sl fB J J.heap.size A2 n2 [1,2,0,3]):=by
  have h1:=HS4.out;rw [encV03] at h1;exact ((h1.up ak.out nl).more' ak.out.size |>.up L.out nl).more' L.out.size
 have HK:Hid (∀G,Below J.heap.size J G->(convert 40 9 (.slice A2 n2 c2)).run prog G= .ok (.string ⟨#[1,2,0,3]⟩) G/\G.cell? ⟨H.heap.size,0,none⟩=some (.int .i64 0)/\G.cell? ⟨H.heap.size,1,none⟩=some (.int .i64 0)/\G.cell? ⟨H.heap.size,2,none⟩=some (.int .i64 2)/\G.cell? ⟨H.heap.size,3,none⟩=some (.int .i64 0)/\G.cell? ⟨H.heap.size,4,none⟩=some (.string s)/\G.cell? ⟨H.heap.size,5,none⟩=some (.int .i64 0)/\G.cell? ⟨H.heap.size,6,none⟩=some (.int .i64 1)/\G.cell? ⟨H.heap.size,7,none⟩=some (.int .i64 0)/\G.cell? ⟨H.heap.size,8,none⟩=some (.int .i64 0)/\G.cell? ⟨H.heap.size,9,none⟩=some (.int .i64 0)/\G.cell? ⟨H.heap.size,10,none⟩=some (.int .i64 0)/\G.cell? ⟨H.heap.size,11,none⟩=some (.string ⟨#[]⟩)/\G.cell? ⟨H.heap.size,12,none⟩=some (.slice none 0 0)/\G.cell? ⟨H.heap.size,13,none⟩=some (.int .i64 0)/\G.cell? ⟨H.heap.size,14,none⟩=some (.slice none 0 0)/\G.cell? ⟨H.heap.size,15,none⟩=some (.slice none 0 0)/\G.cell? ⟨H.heap.size,16,none⟩=some (.string ⟨#[]⟩)/\G.cell? ⟨H.heap.size,17,none⟩=some (.int .i64 0)/\G.cell? ⟨H.heap.size,18,none⟩=some (.string ⟨#[]⟩)/\G.cell? ⟨H.heap.size,19,none⟩=some (.string ⟨#[]⟩)/\G.cell? ⟨w1.heap.size,0,none⟩=some (.string s)/\G.cell? ⟨w1.heap.size,1,none⟩=some (.int .i64 0)/\G.cell? ⟨w1.heap.size,2,none⟩=some (.slice (some ⟨w.heap.size,0,none⟩) 1 1)/\G.cell? ⟨w1.heap.size,3,none⟩=some (.slice U 1 1)/\G.cell? ⟨b8,o8,none⟩=some (.string s)/\G.cell? ⟨b8,o8+1,none⟩=some (.int .i64 0)):=fun G N=>by
  have hA:=(N.block _ (lb ac.out)).trans ac.out;have hP:=(N.block _ (lb z.out)).trans z.out;refine ⟨?_,(zz G _ 0 _ _ _ hA).trans rfl,(zz G _ 1 _ _ _ hA).trans rfl,(zz G _ 2 _ _ _ hA).trans rfl,(zz G _ 3 _ _ _ hA).trans rfl,(zz G _ 4 _ _ _ hA).trans rfl,(zz G _ 5 _ _ _ hA).trans rfl,(zz G _ 6 _ _ _ hA).trans rfl,(zz G _ 7 _ _ _ hA).trans rfl,(zz G _ 8 _ _ _ hA).trans rfl,(zz G _ 9 _ _ _ hA).trans rfl,(zz G _ 10 _ _ _ hA).trans rfl,(zz G _ 11 _ _ _ hA).trans rfl,(zz G _ 12 _ _ _ hA).trans rfl,(zz G _ 13 _ _ _ hA).trans rfl,(zz G _ 14 _ _ _ hA).trans rfl,(zz G _ 15 _ _ _ hA).trans rfl,(zz G _ 16 _ _ _ hA).trans rfl,(zz G _ 17 _ _ _ hA).trans rfl,(zz G _ 18 _ _ _ hA).trans rfl,(zz G _ 19 _ _ _ hA).trans rfl,(zz G _ 0 _ _ _ hP).trans rfl,(zz G _ 1 _ _ _ hP).trans rfl,(zz G _ 2 _ _ _ hP).trans rfl,(zz G _ 3 _ _ _ hP).trans rfl,(N.cell (p:=⟨b8,o8,none⟩) aq).trans q0,(N.cell (p:=⟨b8,o8+1,none⟩) aq).trans q1⟩;have h2:=ybU (P:=prog) 40 5 9 underlying40 underlying5 underlying9 G J.heap.size A2 n2 c2 [1,2,0,3] (aT.out.up N nl);exact h2
 have bh:Hid (∀G,Below J.heap.size J G->G.rangeAt H.heap.size 0 [.int .i64 0,.int .i64 0,.int .i64 2,.int .i64 0,.string s,.int .i64 0,.int .i64 1,.int .i64 0,.int .i64 0,.int .i64 0,.int .i64 0,.string ⟨#[]⟩,.slice none 0 0,.int .i64 0,.slice none 0 0,.slice none 0 0,.string ⟨#[]⟩,.int .i64 0,.string ⟨#[]⟩,.string ⟨#[]⟩]):=fun G N j v hv=>by
  have hA:=(N.block _ (lb ac.out)).trans ac.out;exact (zz G _ (0+j) _ _ _ hA).trans (by rw [Nat.zero_add,List.getElem?_toArray];exact hv)
 have a1:Hid (∀G,Below J.heap.size J G->G.rangeAt w1.heap.size 0 [.string s,.int .i64 0,.slice (some ⟨w.heap.size,0,none⟩) 1 1,.slice U 1 1]):=fun G N j v hv=>by
  have hP:=(N.block _ (lb z.out)).trans z.out;exact (zz G _ (0+j) _ _ _ hP).trans (by rw [Nat.zero_add,List.getElem?_toArray];exact hv)
 have HI:Hid (∀W,Below J.heap.size J W->Sl I W W.heap.size (some ⟨J.heap.size,0,none⟩) 2 [0,3]->Calls prog 23 #[.slice A5 n5 c5,.slice (some ⟨J.heap.size,0,none⟩) 2 2] W fun e G=>e= .returned (.bool true)/\∃r,G=W.drewN r):=fun W N hs=>by
  have h5:Sl I W W.heap.size A5 n5 (nrm [0,3]):=(((bg.out.up L.out nl).more' L.out.size).up N nl).more' N.size;have bG:n5=2:=by rw [<-HS5.out.1,nrm03];rfl
  refine (ints_any A5 (some ⟨J.heap.size,0,none⟩) n5 2 (nrm [0,3]) [0,3] c5 2 W W.heap.size h5 hs om om).mono ?_;rintro e G ⟨rfl,h⟩;exact ⟨by rw [nrm03];rfl,h⟩
 have bn:Hid (∀W,Below J.heap.size J W->Calls prog 15 #[.agg #[.int .i64 0,.int .i64 0,.int .i64 2,.int .i64 0,.string s,.int .i64 0,.int .i64 1,.int .i64 0,.int .i64 0,.int .i64 0,.int .i64 0,.string ⟨#[]⟩,.slice none 0 0,.int .i64 0,.slice none 0 0,.slice none 0 0,.string ⟨#[]⟩,.int .i64 0,.string ⟨#[]⟩,.string ⟨#[]⟩],.agg #[.string s,.int .i64 0,.slice (some ⟨w.heap.size,0,none⟩) 1 1,.slice U 1 1]] W fun e G=>e= .returned (.bool true)/\Below J.heap.size J G):=fun W N=>by
  have hw:Below w.heap.size w W:=af.out.trans ((HB6.out.mono af.out.size).trans ((L.out.mono aa.out).trans (N.mono (lT aa.out L.out.size))));have aA:Below W2.heap.size W2 W:=HB6.out.trans ((L.out.mono HB6.out.size).trans (N.mono (lT HB6.out.size L.out.size)));have h:=acquits_one 1 1 1 W2.heap.size (some ⟨w.heap.size,0,none⟩) U [120] W (bA.out.on hw) nl ((bm.out.up aA (Nat.le_of_lt (Nat.lt_of_le_of_lt ag.out T.out))).more' (Nat.le_of_lt (Nat.lt_of_le_of_lt ag.out T.out))) (by rw [<-aI.out];exact (bq.out.up aA (Nat.le_of_lt T.out)).more' (Nat.le_of_lt T.out)) aA.size om om a0.out;rw [<-aI.out] at h;exact h.mono (fun e G h=>⟨h.1,bt N h.2⟩)
 have HBq:Hid (Below J.heap.size J J):=Below.refl _ _;refine rH (S:=(fun G=>Below J.heap.size J G)) (by as_aux_lemma=>kernel_rfl) (by exact yan) (fun aD=>?_)
 (iterate 4 refine tkA ?_)
 refine tkH (i:=4) (v:=?z4v) (y:=(Or.inl ⟨by rfl,?z4y⟩)) (h:=?z4r);case z4y=>(intro w hSw;(try dsimp only at hSw);obtain ⟨k0, -, -, -, -, -, -, -, -, -, -, -, -, -, -, -, -, -, -, -, -, -, -, -, -, -, -⟩:=HK.out w hSw;go_simp;try (with_reducible rfl))
 try simp only [pt]
 refine tkY 5 ?_;refine tkY 6 ?_;refine tkY 7 ?_;refine tkY 8 ?_;refine tkY 9 ?_;refine tkY 10 ?_;refine tkY 11 ?_;refine tkY 12 ?_;refine tkY 13 ?_;refine tkY 14 ?_;refine tkY 15 ?_;refine tkY 16 ?_
 as_aux_lemma=>
  refine rd1 17 (fun K hK=>?_);go_simp;refine hK.out _ _ yaj (fun ai=>?_);clear hK K aD
  try simp only [pt]
  refine rd1 18 (fun K hK=>?_)
  (go_simp;go_at_call 23;(refine (HI.out _ ?_ ?_).mono ?_);(exact yan);(exact ⟨rfl,SL.of_block (t:=3) (fr:=(0,0)) (zy _ _) sI⟩);rintro e w9 ⟨rfl,r9,aY⟩;(have HBi:Hid (Below J.heap.size J w9):=(by show Below ..;rw [aY];exact yan));go_wp2_with fail)
  refine hK.out _ _ yaj (fun ah=>?_);clear hK K ai
  try simp only [pt]
  refine tkY 19 ?_;refine tkY 20 ?_;refine tkH (i:=21) (v:=_) (y:=(yieldsIf_load_mid (by rfl) 39 (.tmp 7) rfl H.heap.size 0 (by rfl) [.int .i64 0,.int .i64 0,.int .i64 2,.int .i64 0,.string s,.int .i64 0,.int .i64 1,.int .i64 0,.int .i64 0,.int .i64 0,.int .i64 0,.string ⟨#[]⟩,.slice none 0 0,.int .i64 0,.slice none 0 0,.slice none 0 0,.string ⟨#[]⟩,.int .i64 0,.string ⟨#[]⟩,.string ⟨#[]⟩] _ bh.out underlying39 rfl Tryz.sizeAcc)) (h:=?_)
  try simp only [pt]
  refine tkH (i:=22) (v:=_) (y:=(yieldsIf_load_mid (by rfl) 42 (.tmp 1) rfl w1.heap.size 0 (by rfl) [.string s,.int .i64 0,.slice (some ⟨w.heap.size,0,none⟩) 1 1,.slice U 1 1] _ a1.out underlying42 rfl Tryz.sizePc)) (h:=?_)
  try simp only [pt]
  refine rd1 23 (fun K hK=>?_)
  (go_simp;go_at_call 15;(refine (bn.out _ ?_).mono ?_);(exact yan);rintro e bE ⟨rfl,bB⟩;go_wp2_with fail)
  refine hK.out _ _ yaj (fun aU=>?_);clear hK K ah
  try simp only [pt]
  as_aux_lemma=>
   refine tkY 24 ?_;refine tkY 25 ?_;refine tkY 26 ?_;refine tkY 27 ?_;refine tkY 28 ?_;refine tkY 29 ?_;refine tkY 30 ?_;refine tkY 31 ?_;refine tkY 32 ?_;refine tkH (i:=33) (v:=?z33v) (y:=(Or.inl ⟨by rfl,?z33y⟩)) (h:=?z33r);case z33y=>(intro w hSw;(try dsimp only at hSw);obtain ⟨-, -, -, -, -, -, -, -, -, -, -, -, -, -, -, -, -, -, -, -, -, -, -, -, -,bC,bI⟩:=HK.out w hSw;go_simp;try (with_reducible rfl))
   try simp only [pt]
   refine tkY 34 ?_;refine tkH (i:=35) (v:=?z35v) (y:=(Or.inl ⟨by rfl,?z35y⟩)) (h:=?z35r);case z35y=>(intro w hSw;(try dsimp only at hSw);obtain ⟨-, -, -, -, -, -, -, -, -, -, -, -, -, -, -, -, -, -, -, -, -,bF,bH, -, -, -, -⟩:=HK.out w hSw;go_simp;try (with_reducible rfl))
   try simp only [pt]
   refine tkY 36 ?_;refine tkY 37 ?_;refine tkY 38 ?_;refine wpAnyH_done (by as_aux_lemma=>kernel_rfl) ?_ _;go_wp2_with fail;go_ret
   first |exact ⟨rfl,af.out.trans ((HB6.out.mono af.out.size).trans ((L.out.mono aa.out).trans (Below.mono (by assumption) (lT aa.out L.out.size))))⟩ |trace_state
theorem acF_len {k d q:Int} {bs:List Int} (H:k=6) (h0:(acF k d q bs).er=0):(acF k d q bs).ps.length<=1000000/\(acF k d q bs).qs.length<=1000000/\(acF k d q bs).rs.length<=1000000:=by
 unfold acF at h0 ⊢;rw [if_pos H] at h0 ⊢
 split at h0
 ·next h1=>
  split at h0
  ·next h2=>
   rw [if_pos h1,if_pos h2];unfold okT at h2;rw [Bool.and_eq_true] at h2;have G:=h2.2;unfold okR at G;rw [Bool.and_eq_true] at G;obtain ⟨_,_,_,_,_,_,_,_,_,_,g1,g2,g3,_⟩:=yb2 G.2;exact ⟨lT g1.1 de,Nat.le_trans g3.1 de,Nat.le_trans g2.1 de⟩
  ·exact absurd h0 de
 ·exact absurd h0 de
theorem opnV_ok (x:Vw) (J:List EnR) (vs:List VtR) (G H:List ByteArray) {a:Ac} (h:a∈opnV x J vs G H):a.ps.length<=1000000/\a.qs.length<=1000000/\a.rs.length<=1000000:=by
 obtain ⟨p,hp,rfl⟩:=List.mem_map.1 h;obtain ⟨e,K,h1⟩:=List.mem_filterMap.1 hp;obtain ⟨g1,g2,_,rfl⟩:=cgE_some h1;exact acF_len g1 g2
theorem viewOf_any (x:Vw) (w:World):Calls prog 14 #[.agg (cVw x)] w fun e G=>e= .returned (.agg (cVw x))/\Below w.heap.size w G:=by
 have HB:Hid (Below w.heap.size w (w.alloc (.cells (cVw x) 29))):=bl;go_enter func14,ntmps14;go_wp2;exact bodyPost_ret (v:= .agg (cVw x)) (by simp [results,Tryz.results14,go_sem]) rfl ⟨rfl,HB.out.alloc HB.out.size _⟩
open Go.ChangeShapes Go.WideShapes Go.ChangeAt Go.RowKit Go.Deep
theorem wAll_mem {H:Type} {P:Program} {e:TypeId}:∀ {l:List (DataW H)} {d:DataW H},d∈l->∀n∈d.weights P e,n∈DataW.weightsAll P e l
 |d'::r,d,hd,n,hn=>by
  simp only [DataW.weightsAll,List.mem_append];rcases List.mem_cons.1 hd with rfl |h
  ·exact Or.inl hn
  ·exact Or.inr (wAll_mem h n hn)
theorem Tryz.bytesB:prog.bytesOf 5=1:=by kernel_rfl
section
variable {H:Type} {enc:TypeId × Value->H} {W:World} {d:DataW H} {p:List MemPlace}
theorem w_btsM {fuel:Nat} {a:Option Addr} {n c:Nat} {x:DataW H × List MemPlace} (h:DataW.trod enc prog W 0 (fun _=>true) true fuel 40 [.slice a n c]=some x)
 (L:∀m∈x.1.weights prog 40,m<=reachBytes):n<=reachBytes:=by
 rcases open_slice underlying40 h with ⟨e,_⟩ |⟨x,l,T,m,N,D,M,e,_,hl,O,J,K,hi⟩
 ·simp only [List.cons.injEq,Value.slice.injEq,and_true] at e;obtain ⟨_,rfl,_⟩:=e;exact Nat.zero_le _
 ·simp only [List.cons.injEq,Value.slice.injEq,and_true] at e;obtain ⟨_,rfl,rfl⟩:=e;simp only [if_true] at J;subst J K;have:=L _ (by simp only [DataW.weights,underlying40];exact List.mem_cons_self);simp only [List.length_map,List.length_range,Tryz.bytesB,Nat.mul_one] at this;omega
theorem w_enr {fuel:Nat} {v:EnR} {x:DataW H × List MemPlace} (h:DataW.trod enc prog W 0 (fun _=>true) true fuel 55 (fEn v)=some x)
 (O:∀m∈x.1.weights prog 55,m<=reachBytes):v.bd.n<=reachBytes:=by
 obtain ⟨ys,n,_,N,aa,L,G⟩:=DataW.trod_struct underlying55 h;obtain ⟨Y,U,z,y3,J,T,rfl⟩:=clist6 L;have M:DataW.trod enc prog W 0 (fun _=>true) true n 40 (((fEn v).drop 4).take (prog.cellsOf 40))=[Y,U,z,y3,J,T][4]? :=G 4 _ rfl;rw [Tryz.cellsLb] at M;have K:DataW.trod enc prog W 0 (fun _=>true) true n 40 [.slice v.bd.a v.bd.n v.bd.c]=some J:=M;subst N;refine w_btsM K fun m Z=>O m ?_;simp only [DataW.weights,underlying55];exact DataW.weights_mem_each (j:=4) rfl rfl m Z
theorem w_slice {α:Type} [Inhabited α] {f:α->List Value} {s:Nat} {t e:TypeId} (ht:prog.underlying t=some (.slice e)) (hC:prog.cellsOf e=s) (ae:0 < s) (hf:∀x,(f x).length=s) {Pr:α->Prop}
 (ag:∀(fuel:Nat) (cs:List Value) (y:DataW H × List MemPlace),DataW.trod enc prog W 0 (fun _=>true) true fuel e cs=some y->(∀m∈y.1.weights prog e,m<=reachBytes)->∃x,cs=f x/\Pr x) {fuel:Nat} {cs:List Value} {y:DataW H × List MemPlace}
 (h:DataW.trod enc prog W 0 (fun _=>true) true fuel t cs=some y) (hw:∀m∈y.1.weights prog t,m<=reachBytes):∃a n c xs,cs=[.slice a n c]/\n<=c/\c<=maxLen/\SlN f s W W.heap.size a n xs/\∀x∈xs,Pr x:=by
 rcases open_slice ht h with ⟨rfl,_⟩ |⟨x,l,c,m,nn,D,Pl,rfl,_,hl,hm,O,U,hi⟩
 ·exact ⟨none,0,0,[],rfl,Nat.le_refl _,Nat.zero_le _,SlN.nil,fun x U=>by cases U⟩
 ·simp only [if_true] at O;subst O U
  have T:∀i,i < l->∃r:α,(∀j v,(f r)[j]? =some v->W.cell? (x.add (i*s+j))=some v)/\Pr r:=by
   intro i J;obtain ⟨aj,hc,ah⟩:=hi i om;rw [hC] at hc;obtain ⟨_,ai,af⟩:=World.cells?_some hc
   obtain ⟨r,rfl,hr⟩:=ag _ _ _ ah (fun m ac=>hw m (by
    simp only [DataW.weights,ht,List.mem_cons,List.mem_append]
    exact Or.inr (Or.inl (wAll_mem (List.mem_map.2 ⟨i,List.mem_range.2 J,rfl⟩) m ac))))
   refine ⟨r,fun j v M=>?_,hr⟩;have hj:j < s:=by have:=(List.getElem?_eq_some_iff.1 M).1;rw [hf] at this;exact this
   rw [<-Go.Deep.add_add,af j hj];exact M
  obtain ⟨R,Y⟩:=choose_lt T;refine ⟨some x,l,_,(List.range l).map R,rfl,hl,hm,⟨by simp,fun hn=>?_⟩,fun z hz=>?_⟩
  ·simp at hn;obtain ⟨u,hu⟩:∃u,(f (R 0))[0]? =some u:=⟨_,List.getElem?_eq_getElem (by rw [hf];exact ae)⟩
   have h0:=(Y 0 hn).1 0 u hu;obtain ⟨b,N,Z⟩:=x;have K:Z=none:=by simpa [Addr.add] using World.cell?_spot h0
   subst K;refine ⟨b,N,rfl,block_lt_of_cell (a:=⟨b,N,none⟩) (by simpa [Addr.add] using h0),fun i z G j v M=>?_⟩;rw [List.getElem?_map] at G
   have J:i < l:=by
    rcases Nat.lt_or_ge i l with h |h
    ·exact h
    ·rw [List.getElem?_eq_none (by simpa using h)] at G;cases G
   rw [List.getElem?_range J] at G;cases G
   have:=(Y i J).1 j v M;rw [Addr.add_mid] at this;exact this
  ·obtain ⟨i,aa,rfl⟩:=List.mem_map.1 hz;exact (Y i (List.mem_range.1 aa)).2
theorem in_enrsS {fuel:Nat} {cs:List Value} {y:DataW H × List MemPlace} (h:DataW.trod enc prog W 0 (fun _=>true) true fuel 22 cs=some y) (J:∀m∈y.1.weights prog 22,m<=reachBytes):∃a n c xs,cs=[.slice a n c]/\n<=c/\c<=maxLen/\EnIn W W.heap.size a n xs/\smB xs:=by
 obtain ⟨a,n,c,xs,e,h1,h0,h2,M⟩:=w_slice (f:=fEn) (s:=6) (Pr:=fun v:EnR=>EnOk W W.heap.size v/\v.bd.n<=reachBytes) underlying22 Tryz.cellsEn de ydK (fun _ _ _ h J=>by obtain ⟨v,rfl,N⟩:=in_enr h;exact ⟨v,rfl,N,w_enr h J⟩) h J;have K:∀x∈xs,EnOk W W.heap.size x/\x.bd.n<=reachBytes:=M;have L:reachBytes<=140737488355328:=of_decide_eq_true ya9;have O:∀x∈xs,x.bd.n<=140737488355328:=fun x G=>lT (K x G).2 L;exact ⟨a,n,c,xs,e,h1,h0,⟨h2,fun x G=>And.left (K x G)⟩,O⟩
theorem in_viewS {fuel:Nat} {cs:List Value} {x:DataW H × List MemPlace} (h:DataW.trod enc prog W 0 (fun _=>true) true fuel 29 cs=some x) (hw:∀m∈x.1.weights prog 29,m<=reachBytes):∃(q:Vw) (es:List EnR) (vs:List VtR) (Z af:List ByteArray) (ag:List Int),cs=(cVw q).toList/\VwIn W W.heap.size q es vs Z af ag/\smB es:=by
 obtain ⟨ys,n,_,ae,Y,aa,G⟩:=DataW.trod_struct underlying29 h;rw [Tryz.cellsVw] at Y;obtain ⟨c0,c1,c2,c3,c4,J,T,rfl⟩:=clist7 Y;obtain ⟨M,O,U,K,N,L,rfl⟩:=clist6 aa;have f0:DataW.trod enc prog W 0 (fun _=>true) true n 22 (([c0,c1,c2,c3,c4,J,T].drop 0).take (prog.cellsOf 22))=[M,O,U,K,N,L][0]? :=G 0 _ rfl;rw [Tryz.cellsLe] at f0;have f1:DataW.trod enc prog W 0 (fun _=>true) true n 23 (([c0,c1,c2,c3,c4,J,T].drop 1).take (prog.cellsOf 23))=[M,O,U,K,N,L][1]? :=G 1 _ rfl;rw [Tryz.cellsLv] at f1;have z:DataW.trod enc prog W 0 (fun _=>true) true n 24 (([c0,c1,c2,c3,c4,J,T].drop 2).take (prog.cellsOf 24))=[M,O,U,K,N,L][2]? :=G 2 _ rfl;rw [Tryz.cellsLs] at z;have f3:DataW.trod enc prog W 0 (fun _=>true) true n 26 (([c0,c1,c2,c3,c4,J,T].drop 3).take (prog.cellsOf 26))=[M,O,U,K,N,L][3]? :=G 3 _ rfl;rw [Tryz.cellsSch] at f3;have f4:DataW.trod enc prog W 0 (fun _=>true) true n 24 (([c0,c1,c2,c3,c4,J,T].drop 5).take (prog.cellsOf 24))=[M,O,U,K,N,L][4]? :=G 4 _ rfl;rw [Tryz.cellsLs] at f4;have f5:DataW.trod enc prog W 0 (fun _=>true) true n 27 (([c0,c1,c2,c3,c4,J,T].drop 6).take (prog.cellsOf 27))=[M,O,U,K,N,L][5]? :=G 5 _ rfl;rw [Tryz.cellsLi] at f5
 obtain ⟨a0,n0,c0,x0,e0,l0,m0,h0,ac⟩:=in_enrsS f0 (fun m hm=>hw m (by
  subst ae;simp only [DataW.weights,underlying29]
  exact DataW.weights_mem_each (j:=0) rfl rfl m hm))
 simp at e0;subst e0;obtain ⟨a1,n1,c1,x1,e1,l1,h1⟩:=in_vlts f1;simp at e1;subst e1;obtain ⟨a2,n2,c2,x2,e2,l2,h2⟩:=in_strs z;simp at e2;subst e2;obtain ⟨zb,zh,e3⟩:=in_sch f3;simp at e3;obtain ⟨rfl,rfl⟩:=e3;obtain ⟨a4,n4,c4,x4,e4,l4,h4⟩:=in_strs f4;simp at e4;subst e4;obtain ⟨a5,n5,J,x5,e5,l5,m5,h5⟩:=in_ilist f5;simp at e5;subst e5;exact ⟨⟨⟨a0,n0,c0⟩,⟨a1,n1,c1⟩,⟨a2,n2,c2⟩,zb,zh,⟨a4,n4,c4⟩,⟨a5,n5,J⟩⟩,x0,x1,x2,x4,x5,rfl,⟨h0,h1,h2,h4,h5,Nat.le_trans l0 m0,l0,l1,l2,l4,l5⟩,ac⟩
theorem w_viewS {r:Reach} {N:Nat} {v:Value} (M:Value.okWide prog W r N 29 v) (h:DataW.Trod enc prog W 0 (fun _=>true) true 29 v d p) (L:∀m∈d.weights prog 29,m<=reachBytes):∃(q:Vw) (K:List EnR) (vs:List VtR) (G H:List ByteArray) (J:List Int),v= .agg (cVw q)/\VwIn W W.heap.size q K vs G H J/\smB K:=by
 obtain ⟨cs,rfl,_⟩:=okWide_struct underlying29 M;obtain ⟨fuel,hf⟩:=h;obtain ⟨q,K,vs,G,H,J,e,h1⟩:=in_viewS hf L;refine ⟨q,K,vs,G,H,J,?_,h1⟩
 congr 1
 have O:cs.toList=(cVw q).toList:=e;have:=congrArg List.toArray O;simpa using this
end
