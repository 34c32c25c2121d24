import Derived.Test.YtpdledjgbgalcaaGreatDoorPs
import Derived.Test.YtpdledjgbgalcaaGreatDoorNR
import Derived.Great.BuildSlice
namespace Go.Proofs.YtpdledjgbgalcaaGreatDoor
set_option maxRecDepth 100000
set_option maxHeartbeats 16000000
open Go.RowKit Go.Lib Go.Proofs.Tryz
set_option linter.unusedVariables false
set_option linter.unusedSimpArgs false
theorem Tryz.infoEn:(prog.info? 55).map (fun i=>(i.zero.map (·.cells.size),i.size,i.bytes))=some (some 6,6,72):=by kernel_rfl
abbrev zVw:Array Value:=#[.slice none 0 0,.slice none 0 0,.slice none 0 0,.int .i64 0,.int .i64 0,.slice none 0 0,.slice none 0 0]
theorem cVw_all (x:Vw):(cVw x).all (·.oneCell')=true:=by kernel_rfl
def UnE (l:List EnR):Prop:=l.Pairwise fun a b=>¬(a.dv=b.dv/\a.sq=b.sq)
theorem hasE_false {l:List EnR} {d q:Int} (h:hasE l d q=false):∀e∈l,¬(e.dv=d/\e.sq=q):=fun e he g=>by
 have h1:hasE l d q=true:=List.any_eq_true.2 ⟨e,he,by simp [g.1,g.2]⟩;rw [h] at h1;cases h1
theorem UnE.put {l:List EnR} {e:EnR} (h:UnE l):UnE (putE l e):=by
 cases hs:hasE l e.dv e.sq with
 |true=>rw [putE_yes hs];exact h
 |false=>
  rw [putE_no hs]
  exact List.pairwise_append.2 ⟨h,List.pairwise_singleton _ _,fun a ha b G=>by
   obtain rfl:b=e:=by simpa using G
   exact hasE_false hs a ha⟩
section
variable (x y:Vw) (es:List EnR) (vs:List VtR) (pubs drs:List ByteArray) (d:ByteArray) (e:EnR)
end
theorem hasE_fr (G:List EnR) (d q:Int):hasE (frE G) d q=hasE G d q:=by
 have h:∀(G:List EnR) (l:List EnR),hasE (G.foldl putE l) d q=(hasE l d q||hasE G d q):=by
  intro G
  induction G with
  |nil=>intro l;simp [hasE]
  |cons e G ih=>
   intro l;rw [List.foldl_cons,ih];have h1:hasE (e::G) d q=((decide (e.dv=d)&&decide (e.sq=q))||hasE G d q):=by simp [hasE]
   rw [h1,<-Bool.or_assoc]
   congr 1
   unfold putE
   split
   ·next hh=>
    by_cases g:e.dv=d/\e.sq=q
    ·obtain ⟨rfl,rfl⟩:=g;rw [hh];simp
    ·have:(decide (e.dv=d)&&decide (e.sq=q))=false:=by
      by_cases g1:e.dv=d
      ·by_cases g2:e.sq=q
       ·exact absurd ⟨g1,g2⟩ g
       ·simp [g2]
      ·simp [g1]
     rw [this,Bool.or_false]
   ·exact hasE_snoc _ _ _ _
 rw [frE,h];simp [hasE]
theorem frE_yes {es:List EnR} {k:Nat} {e:EnR} (h:es[k]? =some e) (hh:hasE (es.take k) e.dv e.sq=true):frE (es.take (k+1))=frE (es.take k):=by
 rw [ydM h,putE_yes (by rw [hasE_fr];exact hh)]
theorem frE_no {es:List EnR} {k:Nat} {e:EnR} (h:es[k]? =some e) (hh:hasE (es.take k) e.dv e.sq=false):frE (es.take (k+1))=frE (es.take k)++[e]:=by
 rw [ydM h,putE_no (by rw [hasE_fr];exact hh)]
theorem hasE_take {G:List EnR} {m:Nat} {e:EnR} (h:G[m]? =some e) (d q:Int):hasE (G.take (m+1)) d q=(hasE (G.take m) d q||(decide (e.dv=d)&&decide (e.sq=q))):=by
 rw [List.take_add_one,h];exact hasE_snoc _ _ _ _
theorem sizeEnK (e:EnR):(prog.info? 55).map (·.size)=some (fEn e).length:=by kernel_rfl
theorem entries_any (x:Vw) (H:List EnR) (B:Nat) (w:World) (hE:SlN fEn 6 w B x.E.a x.E.n H) (hB:B<=w.heap.size) (hn:x.E.n<=1000):
 Calls prog 55 #[.agg (cVw x)] w fun e w'=>∃v,e= .returned v/\OwnN fEn 6 55 w' w.heap.size v (frE H)/\Below w.heap.size w w':=by
 obtain ⟨⟨EA,G,EC⟩,xV,xP,xb,xh,xD,xF⟩:=x;have aB:H.length=G:=hE.1;have aR:=lh aB;have HE:=lh hE;have ax:=lh hB;have aJ:G<=1000:=hn;have HN:=lh aJ;have az:(w.alloc (.cells (cVw ⟨⟨EA,G,EC⟩,xV,xP,xb,xh,xD,xF⟩) 48)).heap.size=w.heap.size+1:=by simp
 obtain ⟨i0,z0,au,ap,ak,aA,aq⟩:=ycP Tryz.infoEn;have ay:=lh au;have am:=lh ap;have ar:=lh ak;have aN:=lh aA;have aj:=lh aq;obtain ⟨Z,N⟩:∃W:World,W=(w.alloc (.cells (cVw ⟨⟨EA,G,EC⟩,xV,xP,xb,xh,xD,xF⟩) 48)).alloc (.cells #[] 55):=⟨_,rfl⟩
 have aQ:=lh N;have HB1:Hid (Below w.heap.size w Z):=by show Below ..;rw [N];exact bl.alloc sI _
 have aS:Hid (Z.heap[w.heap.size]? =some (.cells (cVw ⟨⟨EA,G,EC⟩,xV,xP,xb,xh,xD,xF⟩) 48 (0,0))):=by show _=_;rw [N];exact (zx _ _ _ sI).trans (zy w _)
 have aG:Hid (OwnN fEn 6 55 Z (w.heap.size+1) (.slice (some ⟨w.heap.size+1,0,none⟩) 0 0) []):=by
  show OwnN ..
  rw [N,<-az];exact World.ownsRow_made _ #[] 0 nl (Nat.zero_le _) sI
 have HS1:Hid (w.heap.size+1<=Z.heap.size):=by show _<=_;rw [N];simp
 clear hE hB au ap ak aA aq N az;go_enter func55,ntmps55;go_upto_region 2 with fail
 rw [<-aQ.out];go_wp2_with fail
 go_loopw [3,4] (fun v i wr=>∃k:Nat,k<=G/\i= .int .i64 k/\Hid (Below (w.heap.size+1) Z wr)/\Hid (OwnN fEn 6 55 wr (w.heap.size+1) v (frE (H.take k)))) (fun _ i _=>G - (intOf i).toNat)
 case atStart=>exact ⟨0,Nat.zero_le _,rfl,Below.refl _ _,aG⟩
 case round=>
  obtain ⟨k,hk,rfl,HBr,HO⟩:=hrel;have HG:Hid (wr.heap[w.heap.size]? =some (.cells (cVw ⟨⟨EA,G,EC⟩,xV,xP,xb,xh,xD,xF⟩) 48 (0,0))):=(HBr.out.block _ (Nat.lt_succ_self _)).trans aS.out;have ah:Hid (Below w.heap.size w wr):=HB1.out.trans (HBr.out.mono (Nat.le_succ _));obtain ⟨v0,v1,v2,v3,v4,v5,v6⟩:=ybv HG.out
  by_cases hlt:k < G
  ·obtain ⟨b,O,e,rfl,aW,he,aw⟩:=(HE.out.up ah.out ax.out).at_ (k:=k) hlt;have aP:(k:Int) < (G:Int):=by omega
   have HGE:=lh he;have aK:Hid (SlN fEn 6 w B (some ⟨b,O,none⟩) G H):=HE;obtain ⟨J,aL⟩:∃J:World,J=wr:=⟨_,rfl⟩
   subst aL;obtain ⟨dv,sq,Y,dy,bd,pr,bs⟩:=e;have HR:Hid (J.rangeAt b (O+k*6) (fEn ⟨dv,sq,Y,dy,bd,pr,bs⟩)):=fun j v T=>by rw [Nat.add_assoc];exact aw j v T
   clear aw he;go_upto_region 7 with fail
   have aI:Hid (∀V,Below J.heap.size J V->V.heap[w.heap.size]? =some (.cells (cVw ⟨⟨some ⟨b,O,none⟩,G,EC⟩,xV,xP,xb,xh,xD,xF⟩) 48 (0,0))):=fun V T=>(T.block _ (lb HG.out)).trans HG.out
   have z:Hid (∀V,Below J.heap.size J V->∀m,m < G->∃e',H[m]? =some e'/\V.rangeAt b (O+m*6) (fEn e')):=fun V T m hm=>by
    obtain ⟨b',aU,e',h1,_,h3,h4⟩:=(aK.out.up (bt ah.out T) ax.out).at_ (k:=m) hm;injection h1 with h1;injection h1 with h5 h6 _;subst h5 h6;exact ⟨e',h3,fun j v T=>by rw [Nat.add_assoc];exact h4 j v T⟩
   have U:=HGE
   go_loopw [5,6] (fun f j wr=>∃m:Nat,m<=k/\j= .int .i64 m/\f= .bool (!hasE (H.take m) dv sq)/\Hid (Below J.heap.size J wr)) (fun _ j _=>k - (intOf j).toNat)
   case atStart=>exact ⟨0,Nat.zero_le _,rfl,rfl,Below.refl _ _⟩
   case round=>
    obtain ⟨m,hm,rfl,rfl,L⟩:=hrel;obtain ⟨v0,v1,v2,v3,v4,v5,v6⟩:=ybv (aI.out _ L.out)
    by_cases aZ:m < k
    ·obtain ⟨⟨ac,af,aY,a3,a0,aX,bs'⟩,al,aa⟩:=z.out _ L.out m om;obtain ⟨e2,K,M⟩:=z.out _ L.out k hlt;obtain rfl:(⟨dv,sq,Y,dy,bd,pr,bs⟩:EnR)=e2:=by rw [U.out] at K;exact Option.some.inj K
     have aD:(m:Int) < (k:Int):=by omega
     have aC:(m:Int) < (G:Int):=by omega
     have y0:=aa 0 _ rfl;have y1:=aa 1 _ rfl;have x0:=M 0 _ rfl;have x1:=M 1 _ rfl;simp only [Nat.add_zero] at y0 x0;have HT:=lh (hasE_take al dv sq);have ai:Hid (Below J.heap.size J wr.drew):=L.out.drew;clear aa M al K;go_wp2_with fail
     by_cases hd:ac=dv
     ·by_cases hq:af=sq
      ·subst hd;subst hq;go_quiet (fail);go_wp2_with fail;go_roundw;case rel=>exact ⟨m+1,by omega,by go_num,by rw [HT.out];simp,by first |exact ai.out |exact ybl L.out _⟩
       case measure=>simp [intOf];omega
      ·subst hd;have a5:(af==sq)=false:=by simp [hq]
       have a1:decide (af=sq)=false:=by simp [hq]
       go_quiet (fail)
       go_wp2_with fail
       go_roundw
       case rel=>exact ⟨m+1,by omega,by go_num,by rw [HT.out];simp [hq],by first |exact ai.out |exact ybl L.out _⟩
       case measure=>simp [intOf];omega
     ·have a4:(ac==dv)=false:=by simp [hd]
      have a2:decide (ac=dv)=false:=by simp [hd]
      go_quiet (fail)
      go_wp2_with fail
      go_roundw
      case rel=>exact ⟨m+1,by omega,by go_num,by rw [HT.out];simp [hd],by first |exact ai.out |exact ybl L.out _⟩
      case measure=>simp [intOf];omega
    ·obtain rfl:m=k:=by omega
     have aD:¬(m:Int) < (m:Int):=by omega
     have ae:=lh (OwnN.on HO.out L.out);have ag:Hid (Below (w.heap.size+1) Z wr):=HBr.out.trans (L.out.mono (lT HS1.out HBr.out.size));obtain ⟨e2,K,M⟩:=z.out _ L.out m hlt;obtain rfl:(⟨dv,sq,Y,dy,bd,pr,bs⟩:EnR)=e2:=by rw [U.out] at K;exact Option.some.inj K
     have aC:(m:Int) < (G:Int):=by omega
     have aH:=lh M;clear M K
     cases hh:hasE (H.take m) dv sq with
     |true=>
      have HY:=lh (frE_yes U.out hh);clear hh;go_wp2_with fail;go_roundw;case rel=>exact ⟨m+1,by omega,by go_num,ag,by show OwnN ..;rw [HY.out];exact ae.out⟩
      case measure=>simp [intOf];omega
     |false=>
      have HY:=lh (frE_no U.out hh);have aT:=ydp H m;have hml:=HN.out;have aF:Hid (((frE (H.take m)).length+1)*72<=140737488355328):=by show _<=_;omega
      have aM:Hid ((frE (H.take m)).length+1<=maxLen):=by show _<=_;unfold maxLen;omega
      have ao:Hid (w.heap.size+1<=wr.heap.size):=lT HS1.out ag.out.size;clear hh aT hml
      go_wp2_with (first
       |(with_reducible refine wpList_load_mid rfl 55 (.tmp 53) rfl b (O+m*6) rfl (fEn ⟨dv,sq,Y,dy,bd,pr,bs⟩) _ aH.out underlying55 rfl (sizeEnK _) ?_)
       |(with_reducible refine ycb (o:=⟨some 55,_,_,_,_,_⟩) rfl 22 (.tmp 54) rfl 55 i0 z0 6 underlying22 ay.out am.out ar.out aj.out om om (fEn ⟨dv,sq,Y,dy,bd,pr,bs⟩).toArray rfl rfl ?_)
       |((with_reducible refine yct (o:=⟨some 56,_,_,_,_,_⟩) (f:=fEn) ycz om rfl (.tmp 49) (.tmp 55) 22 rfl 55 i0 z0 72 underlying22 ay.out am.out ar.out aN.out aj.out u3 (frE (H.take m)) (w.heap.size+1) rfl ae.out ⟨dv,sq,Y,dy,bd,pr,bs⟩ 1 rfl ydV aF.out aM.out ao.out ?_);intro v6 W6 aO aE aV))
      go_roundw
      case rel=>exact ⟨m+1,by omega,by go_num,OwnN.below ae.out ag.out nl ao.out aE.out,by show OwnN ..;rw [HY.out];exact aO.out⟩
      case measure=>simp [intOf];omega
  ·obtain rfl:k=G:=by omega
   have aP:¬(k:Int) < (k:Int):=by omega
   have HT:Hid (H.take k=H):=by show _=_;rw [<-aR.out,List.take_length]
   go_wp2_with fail
   go_ret;exact ⟨_,rfl,World.ownsRow.mono (by have:=HO.out;rw [HT.out] at this;exact this) (Nat.le_succ _),ah.out⟩
def sumB:List EnR->Nat
 | []=>0
 |e::t=>e.bd.n+sumB t
theorem sumB_snoc:∀(es:List EnR) (e:EnR),sumB (es++[e])=sumB es+e.bd.n
 | [],e=>by simp [sumB]
 |a::t,e=>by
  rw [List.cons_append,sumB,sumB_snoc t e,sumB];omega
def smB (es:List EnR):Prop:=∀e∈es,e.bd.n<=140737488355328
theorem sumB_le:∀(G:List EnR),smB G->sumB G<=G.length*140737488355328
 | [],_=>by simp [sumB]
 |e::t,h=>by
  have h1:=h e List.mem_cons_self;have h2:=sumB_le t (fun x H=>h x (List.mem_cons_of_mem _ H));rw [sumB,List.length_cons,Nat.succ_mul];omega
theorem smB_take {es:List EnR} (h:smB es) (k:Nat):smB (es.take k):=fun e he=>h e (List.mem_of_mem_take he)
def FewB (x:Vw) (es:List EnR):Prop:=x.E.n<=12/\x.V.n<=4/\x.P.n<=14/\x.D.n<=10/\x.F.n<=10/\(smB es->sumB es<=30000)
def FewP (x:Vw) (es:List EnR) (w:World) (e:Ending) (w':World):Prop:=∃t:Bool,e= .returned (.bool t)/\(t=true->FewB x es)/\Below w.heap.size w w'
theorem few_any (x:Vw) (G:List EnR) (B:Nat) (w:World) (U:EnIn w B x.E.a x.E.n G) (hB:B<=w.heap.size) (ah:x.E.n<=9223372036854775807):
 Calls prog 9 #[.agg (cVw x)] w (FewP x G w):=by
 obtain ⟨K,J⟩:∃K:World,K=w.alloc (.cells (cVw x) 29):=⟨_,rfl⟩
 have M:Below w.heap.size w K:=by rw [J];exact bl
 have H:K.heap[w.heap.size]? =some (.cells (cVw x) 29 (0,0)):=by rw [J];exact zy w _
 obtain ⟨v0,v1,v2,v3,v4,v5,v6⟩:=ybv H;have HX:Hid (EnIn K B x.E.a x.E.n G):=U.up M hB;have aa:Hid (G.length=x.E.n):=U.1.1;have HB1:=lh M;have HWE:=lh J;have O:Hid (smB G->(0:Int)=(sumB (G.take 0):Int)):=fun _=>by simp [sumB]
 clear U hB M H J;go_enter func9,ntmps9;go_upto_region 1 with fail
 rw [<-HWE.out];go_upto_region 3 with fail
 go_loopw [3,4] (fun u i wr=>(∃(k:Nat) (s:Int),k<=x.E.n/\k<=20/\i= .int .i64 k/\u= .int .i64 s/\Hid (smB G->s=(sumB (G.take k):Int)))/\K=wr) (fun _ i _=>20 - (intOf i).toNat)
 case atStart=>exact ⟨⟨0,0,by omega,by omega,rfl,rfl,O⟩,rfl⟩
 case round=>
  clear O;obtain ⟨⟨k,s,hk,ag,rfl,rfl,L⟩,rfl⟩:=hrel
  by_cases hlt:k < x.E.n
  ·by_cases ak:k < 20
   ·have T:(k:Int) < (x.E.n:Int):=by omega
    have ae:(k:Int) < 20:=by omega
    have ai:(0:Int)<=(k:Int):=by omega
    obtain ⟨be,oe,e,Y,_,H,N⟩:=HX.out.1.at_ (k:=k) hlt;have k4:=N 4 _ rfl;rw [<-Nat.add_assoc] at k4;rw [Y] at v0
    have Z:Hid (smB G->wrap64 (s+(e.bd.n:Int))=(sumB (G.take (k+1)):Int)):=fun hs=>by
     have h1:=L.out hs;have h2:=sumB_le (G.take (k+1)) (smB_take hs _);have h3:(G.take (k+1)).length<=20:=by rw [List.length_take];omega
     have z:sumB (G.take (k+1))=sumB (G.take k)+e.bd.n:=by rw [yby H,sumB_snoc]
     have h5:(G.take (k+1)).length*140737488355328<=20*140737488355328:=Nat.mul_le_mul_right _ h3;rw [h1,z];rw [IntWalk.wrap64_in _ om];simp
    clear N H;go_wp2;refine ⟨?rel,?measure⟩;case rel=>exact ⟨⟨k+1,_,by omega,by omega,by go_num,rfl,Z⟩,by first |rfl |trivial⟩
    case measure=>(simp [intOf]<;>omega)
   ·
    obtain rfl:k=20:=by omega
    have T:((20:Nat):Int) < (x.E.n:Int):=by omega
    have af:(20:Int) < (x.E.n:Int):=by omega
    have aj:¬(x.E.n:Int)<=12:=by omega
    go_wp2;go_ret;exact ⟨false,rfl,(fun h=>by cases h),HB1.out⟩
  ·obtain rfl:x.E.n=k:=by omega
   have W:Hid (smB G->s=(sumB G:Int)):=fun hs=>by rw [L.out hs,List.take_of_length_le (by rw [aa.out];exact Nat.le_refl _)]
   have T:¬(x.E.n:Int) < (x.E.n:Int):=by omega
   clear L
   by_cases h1:(x.E.n:Int)<=12
   ·by_cases h2:s<=30000
    ·by_cases h3:(x.V.n:Int)<=4
     ·by_cases z:(x.P.n:Int)<=14
      ·by_cases h5:(x.D.n:Int)<=10
       ·by_cases h6:(x.F.n:Int)<=10
        ·have ac:Hid (FewB x G):=⟨by omega,by omega,by omega,by omega,by omega,fun hs=>by have:=W.out hs;omega⟩
         go_wp2;go_ret;exact ⟨true,rfl,fun _=>ac.out,HB1.out⟩
        ·go_wp2;go_ret;exact ⟨false,rfl,(fun h=>by cases h),HB1.out⟩
       ·go_wp2;go_ret;exact ⟨false,rfl,(fun h=>by cases h),HB1.out⟩
      ·go_wp2;go_ret;exact ⟨false,rfl,(fun h=>by cases h),HB1.out⟩
     ·go_wp2;go_ret;exact ⟨false,rfl,(fun h=>by cases h),HB1.out⟩
    ·go_wp2;go_ret;exact ⟨false,rfl,(fun h=>by cases h),HB1.out⟩
   ·go_wp2;go_ret;exact ⟨false,rfl,(fun h=>by cases h),HB1.out⟩
theorem encV03:encV [0,3]=[2,0,3]:=by decide
theorem nrm03:nrm [0,3]=[0,3]:=by decide
def rc0 (s:ByteArray):Rcp:=⟨2,0,s,0,1,0,0,0,0,⟨#[]⟩,⟨none,0,0⟩,0,⟨none,0,0⟩,⟨none,0,0⟩⟩
theorem rea0 (s:ByteArray):rea [2] [rc0 s,rc0 s]=[(s,0)]:=by
 have h1:reaS [2] [] (rc0 s)=[(s,0)]:=by
  unfold reaS;rw [pinB_no sI];rfl
 have h2:reaS [2] [(s,0)] (rc0 s)=[(s,0)]:=by
  unfold reaS;rw [yei (by simp [rc0])];simp
 show reaS [2] (reaS [2] [] (rc0 s)) (rc0 s)=_;rw [h1,h2]
theorem two_rows (w:World) (s:ByteArray):SlN fR 14 (w.alloc (.cells ((fR (rc0 s)++fR (rc0 s)).toArray) 35)) (w.heap.size+1) (some ⟨w.heap.size,0,none⟩) 2 [rc0 s,rc0 s]:=
 ⟨rfl,fun _=>⟨w.heap.size,0,rfl,Nat.lt_succ_self _,fun k x G j v H=>by
   have hj:j < 14:=(List.getElem?_eq_some_iff.1 H).1;rw [cell_of_row _ _ _ _ _ _ (zy w _),List.getElem?_toArray,Nat.zero_add];rcases k with _ |_ |k
   ·simp at G;subst G;rw [Nat.zero_mul,Nat.zero_add,List.getElem?_append_left (by rw [fR_len];exact hj)];exact H
   ·simp at G;subst G;rw [List.getElem?_append_right (by rw [fR_len];omega),fR_len,show (0+1)*14+j - 14=j by omega];exact H
   ·simp at G⟩⟩
def rcParts:Array (Nat × Operand):=#[(0,.const (.int .i64 2)),(2,.tmp 25),(3,.const (.int .i64 1))]
def acParts:Array (Nat × Operand):=#[(2,.tmp 26)]
abbrev rcArr (s:ByteArray):Array Value:=(fR (rc0 s)).toArray
theorem rcBuilt (a:Act) (s:ByteArray) (h:a.eval (.tmp 25)= .agg #[.string s,.int .i64 0]):prog.built 35 (rcParts.map fun (i,x)=>(i,a.eval x)).toList=some (rcArr s):=by
 rw [Array.toList_map];show prog.built 35 [(0,.int .i64 2),(2,a.eval (.tmp 25)),(3,.int .i64 1)]=_;rw [h]
 kernel_rfl
theorem acBuilt (a:Act) (s:ByteArray) (h:a.eval (.tmp 26)= .agg (rcArr s)):prog.built 39 (acParts.map fun (i,x)=>(i,a.eval x)).toList=some (yb6 s 1):=by
 rw [Array.toList_map];show prog.built 39 [(2,a.eval (.tmp 26))]=_;rw [h]
 kernel_rfl
theorem acc_size (s:ByteArray):(prog.info? 39).map (·.size)=some (yb6 s 1).size:=by kernel_rfl
theorem acc_one (s:ByteArray):(yb6 s 1).all (·.oneCell')=true:=by
 rw [Array.all_eq_true'];intro x hx;simp [yb6] at hx
 repeat' (rcases hx with rfl |hx)
 all_goals first
  |rfl
  |(subst hx;rfl)
def zRc:Value:= .agg #[.int .i64 0,.int .i64 0,.string ⟨#[]⟩,.int .i64 0,.int .i64 0,.int .i64 0,.int .i64 0,.int .i64 0,.int .i64 0,.string ⟨#[]⟩,.slice none 0 0,.int .i64 0,.slice none 0 0,.slice none 0 0]
theorem Tryz.infoRc:(prog.info? 35).map (fun i=>(i.zero,i.size))=some (some zRc,14):=by kernel_rfl
def rsParts:Array (Nat × Operand):=#[(0,.tmp 29),(1,.tmp 31)]
abbrev rsArr (s:ByteArray):Array Value:=(fR (rc0 s)++fR (rc0 s)).toArray
theorem rsFill (a:Act) (s:ByteArray) (h:a.eval (.tmp 29)= .agg (rcArr s)) (G:a.eval (.tmp 31)= .agg (rcArr s)):
 Instr.fill (fun i=>some (i*14,14)) ((Array.range (2*14)).map (zRc.cells[· % zRc.cells.size]!)) (rsParts.map fun (i,x)=>(i,a.eval x)).toList=some (rsArr s):=by
 rw [Array.toList_map];show Instr.fill (fun i=>some (i*14,14)) ((Array.range (2*14)).map (zRc.cells[· % zRc.cells.size]!)) [(0,a.eval (.tmp 29)),(1,a.eval (.tmp 31))]=_;rw [h,G]
 kernel_rfl
theorem Tryz.sizePc:(prog.info? 42).map (·.size)=some 4:=by kernel_rfl
theorem Tryz.sizeAcc:(prog.info? 39).map (·.size)=some 20:=by kernel_rfl
theorem awake_any (w:World) (hG:Glob w):Calls prog 11 #[] w fun e G=>e= .returned (.bool true)/\Below w.heap.size w G:=by
 have bA:=lh hG;have aq:Sl fB (w.alloc (.cells #[.int .u8 120] 5 (1,2))) (w.heap.size+1) (some ⟨w.heap.size,0,none⟩) 1 [120]:=⟨rfl,SL.of_block (t:=5) (fr:=(1,2)) (zy w _) (Nat.lt_succ_self _)⟩;have ax:Byt [120]:=fun x hx=>by rw [List.mem_singleton.1 hx];omega
 have br:=lh aq;have aV:=lh ax;have bp:Hid (Below w.heap.size w (w.alloc (.cells #[.int .u8 120] 5 (1,2)))):=bl;have HP:=lh (piece_any (some ⟨w.heap.size,0,none⟩) 1 1 (w.heap.size+1) [120] _ nl aq sI om om ax);have ay:Hid ((leafS [120]).size=32):=leafS_size _;have bm:(convert 40 40 (.slice (some ⟨w.heap.size,0,none⟩) 1 1)).run prog (w.alloc (.cells #[.int .u8 120] 5))= .ok (.slice (some ⟨w.heap.size,0,none⟩) 1 1) (w.alloc (.cells #[.int .u8 120] 5 (1,2))):=run_convert_bytes_const w 40 5 #[.int .u8 120] 1 1 underlying40 underlying5;clear hG aq ax;go_enter func11,ntmps11
 go_upto_region 2 with (first
  |(go_at_call 29;(with_reducible refine HP.out.mono ?_);rintro e w1 ⟨Y,rfl,aK,am⟩
    have HS1:=lh aK;have HB1:Hid (Below w.heap.size w w1):=bp.out.trans (am.mono sI);have bo:Hid (Sl fB w1 (w.heap.size+1) (some ⟨w.heap.size,0,none⟩) 1 [120]):=br.out.up am sI;have ai:Hid (w.heap.size+1<=w1.heap.size):=by have:=am.size;simp at this;exact this
    clear aK am))
 clear bm;obtain ⟨s,hs⟩:∃s,s=leafS [120]:=⟨_,rfl⟩
 rw [<-hs] at HS1 ay ⊢;have aP:=lh hs;clear hs;generalize az:w1.alloc _=W2;have aM:Hid (W2.heap[w1.heap.size]? =some (.cells #[.string s,.int .i64 0,.slice (some ⟨w.heap.size,0,none⟩) 1 1,.slice Y 1 1] 42 (0,0))):=by show _=_;rw [<-az];exact zy w1 _
 have ae:Below w1.heap.size w1 W2:=by rw [<-az];exact bl
 have ag:Hid (Below w.heap.size w W2):=bt HB1.out ae;have be:Hid (Sl fT W2 w1.heap.size Y 1 [s]):=HS1.out.up ae nl;have bz:Hid (Sl fB W2 (w.heap.size+1) (some ⟨w.heap.size,0,none⟩) 1 [120]):=bo.out.up ae ai.out;have T:Hid (w1.heap.size < W2.heap.size):=lb aM.out;clear ae az;have aO:Sl I (W2.alloc (.cells #[.int .i64 0,.int .i64 3] 3)) (W2.heap.size+1) (some ⟨W2.heap.size,0,none⟩) 2 [0,3]:=⟨rfl,SL.of_block (t:=3) (fr:=(0,0)) (zy W2 _) (Nat.lt_succ_self _)⟩
 have bk:Hid (Calls prog 31 #[.int .i64 1,.slice (some ⟨W2.heap.size,0,none⟩) 2 2] (W2.alloc (.cells #[.int .i64 0,.int .i64 3] 3)) (Slc2 fB ((1:Int)::encV [0,3]) 0 (W2.alloc (.cells #[.int .i64 0,.int .i64 3] 3)))):=
  (emeet_any 1 (some ⟨W2.heap.size,0,none⟩) 2 [0,3] 2 _ (W2.heap.size+1) aO sI om).mono (fun e G h=>by
    rcases h with ⟨_,h⟩ |⟨h,_⟩
    ·exact h
    ·exact absurd h de)
 clear aO
 go_upto_region 4 with (first
  |(go_at_call 31;(with_reducible refine bk.out.mono ?_)
    rintro e w4 ⟨A2,n2,c2,rfl,bj,aA,aQ⟩;have HS4:=lh aA;have aL:Hid (Below W2.heap.size W2 w4):=bl.trans (aQ.mono sI);have bw:=lh (dmeet_enc 1 [0,3] A2 n2 c2 w4.heap.size w4 aA bj nl de om);have HW4:Hid (Below W2.heap.size W2 w4):=aL.out
    clear aA aQ)
  |(go_at_call 35;(with_reducible refine bw.out.mono ?_);rintro e H ⟨A5,n5,c5,rfl,bL,aI,aC⟩
    have HS5:=lh aI;have aB:Hid (Below W2.heap.size W2 H):=bt aL.out aC;have aU:Hid (Below w4.heap.size w4 H):=aC
    clear aI aC))
 have z:Hid (H.heap[w1.heap.size]? =some (.cells #[.string s,.int .i64 0,.slice (some ⟨w.heap.size,0,none⟩) 1 1,.slice Y 1 1] 42 (0,0))):=(aB.out.block _ T.out).trans aM.out;have p0:=zz H w1.heap.size 0 _ _ _ z.out;have p1:=zz H w1.heap.size 1 _ _ _ z.out;simp at p0 p1
 go_upto_region 5 with (first
  |(with_reducible refine ybq (o:=⟨some 26,_,_,_,_,_⟩) rfl 35 rcParts ybi (rcArr s) (rcBuilt _ s (by rfl)) ?_)
  |(with_reducible refine ybq (o:=⟨some 27,_,_,_,_,_⟩) rfl 39 acParts ybi (yb6 s 1) (acBuilt _ s (by rfl)) ?_)
  |(with_reducible refine ybr (o:=⟨none,_,_,_,_,_⟩) rfl 39 (.tmp 7) (.tmp 27) rfl 39 _ (yb6 s 1) rfl rfl (acc_size s) ybi (acc_one s) ?_))
 generalize ak:H.alloc _=W6;have M:Hid (W6.heap[H.heap.size]? =some (.cells (yb6 s 1) 39 (0,0))):=by show _=_;rw [<-ak];exact zy H _
 have HB6:Hid (Below W2.heap.size W2 W6):=by show Below ..;rw [<-ak];exact aB.out.alloc aB.out.size _
 have U:Below H.heap.size H W6:=by rw [<-ak];exact bl
 have au:Hid (W6.heap[w1.heap.size]? =some (.cells #[.string s,.int .i64 0,.slice (some ⟨w.heap.size,0,none⟩) 1 1,.slice Y 1 1] 42 (0,0))):=(U.block _ (lb z.out)).trans z.out;have bg:Hid (Sl I W6 W6.heap.size A5 n5 (nrm [0,3])):=(HS5.out.up U nl).more' U.size;have a2:=zz W6 H.heap.size 2 _ _ _ M.out;have a3:=zz W6 H.heap.size 3 _ _ _ M.out;have a4:=zz W6 H.heap.size 4 _ _ _ M.out;have a5:=zz W6 H.heap.size 5 _ _ _ M.out;have a6:=zz W6 H.heap.size 6 _ _ _ M.out;have a7:=zz W6 H.heap.size 7 _ _ _ M.out;have a8:=zz W6 H.heap.size 8 _ _ _ M.out;have a9:=zz W6 H.heap.size 9 _ _ _ M.out;have aY:=zz W6 H.heap.size 10 _ _ _ M.out;have bh:=zz W6 H.heap.size 11 _ _ _ M.out;have a0:=zz W6 H.heap.size 12 _ _ _ M.out;have bD:=zz W6 H.heap.size 13 _ _ _ M.out;have aX:=zz W6 H.heap.size 14 _ _ _ M.out;have bB:=zz W6 H.heap.size 15 _ _ _ M.out;simp [yb6] at a2 a3 a4 a5 a6 a7 a8 a9 aY bh a0 bD aX bB;have al:Hid (Below w4.heap.size w4 W6):=bt aU.out U;have aa:Hid (w.heap.size<=W6.heap.size):=lT ag.out.size HB6.out.size;clear ak U p0 p1
 obtain ⟨ie,aG,aN,aH⟩:∃ie,prog.info? 35=some ie/\ie.zero=some zRc/\ie.size=14:=by
  have h:=Tryz.infoRc
  cases hh:prog.info? 35 with
  |none=>rw [hh] at h;cases h
  |some ie=>
   rw [hh] at h;simp only [Option.map_some,Option.some.injEq,Prod.mk.injEq] at h;exact ⟨ie,rfl,h.1,h.2⟩
 have bb:=lh aG;have a1:=lh aN;have ar:=lh aH;have aZ:Hid (Sl I ((W6.alloc (.cells (rsArr s) 35)).alloc (.cells #[.int .i64 2] 3)) (W6.heap.size+2) (some ⟨W6.heap.size+1,0,none⟩) 1 [2]):=⟨rfl,SL.of_block (t:=3) (fr:=(0,0)) (heap_alloc2_new W6 _ _) om⟩;have aJ:Below (W6.heap.size+1) (W6.alloc (.cells (rsArr s) 35)) ((W6.alloc (.cells (rsArr s) 35)).alloc (.cells #[.int .i64 2] 3)):=bR.alloc sI _;have bv:okP s 0:=⟨by rw [ay.out];unfold maxLen;omega,by unfold int64;omega⟩
 have bC:=lh (reassign_any (some ⟨W6.heap.size,0,none⟩) (some ⟨W6.heap.size+1,0,none⟩) 2 2 1 1 (W6.heap.size+2) [rc0 s,rc0 s] [2] _ (((two_rows W6 s).up aJ nl).more om) aZ.out sI om om (fun r hr=>by
  simp at hr;subst hr;exact bv))
 clear aG aN aH aJ
 go_upto_region 6 with (first
  |(refine wpList_buildSlice (o:=⟨some 32,_,_,_,_,_⟩) rfl 89 35 2 rsParts ybi (rsArr s) ie zRc underlying89 bb.out a1.out (by rw [ar.out];omega) (by rw [ar.out];omega) (by rw [ar.out];exact rsFill _ s (by rfl) (by rfl)) ?_)
  |(go_at_call 36;(with_reducible refine bC.out.mono ?_);rintro e J ⟨A8,n8,c8,rfl,Z,aF⟩
    have bx:=lh Z;have bq:=lh aF
    clear Z aF))
 obtain ⟨aE,bJ⟩:∃aE,aE=n8:=⟨_,rfl⟩
 have Z:=bx.out;rw [rea0] at Z;obtain rfl:n8=1:=by rw [<-Z.1];rfl
 obtain ⟨b8,o8,x8,rfl,ao,aR,aw⟩:=Z.at_ (k:=0) om;simp at aR;subst aR;have q0:=aw 0 (.string s) rfl;have q1:=aw 1 (.int .i64 0) rfl;simp at q0 q1;have L:Hid (Below W6.heap.size W6 J):=((bl.alloc sI _).trans (bq.out.mono ybh));have ac:Hid (J.heap[H.heap.size]? =some (.cells #[.int .i64 0,.int .i64 0,.int .i64 2,.int .i64 0,.string s,.int .i64 0,.int .i64 1,.int .i64 0,.int .i64 0,.int .i64 0,.int .i64 0,.string ⟨#[]⟩,.slice none 0 0,.int .i64 0,.slice none 0 0,.slice none 0 0,.string ⟨#[]⟩,.int .i64 0,.string ⟨#[]⟩,.string ⟨#[]⟩] 39 (0,0))):=(L.out.block _ (lb M.out)).trans M.out;have af:Hid (J.heap[w1.heap.size]? =some (.cells #[.string s,.int .i64 0,.slice (some ⟨w.heap.size,0,none⟩) 1 1,.slice Y 1 1] 42 (0,0))):=(L.out.block _ (lb au.out)).trans au.out
 have aT:Hid (Sl fB J J.heap.size A2 n2 [1,2,0,3]):=by
  have h1:=HS4.out;rw [encV03] at h1;exact ((h1.up al.out nl).more' al.out.size |>.up L.out nl).more' L.out.size
 have HK:Hid (∀G,Below J.heap.size J G->(convert 40 9 (.slice A2 n2 c2)).run prog G= .ok (.string ⟨#[1,2,0,3]⟩) G/\G.cell? ⟨H.heap.size,0,none⟩=some (.int .i64 0)/\G.cell? ⟨H.heap.size,1,none⟩=some (.int .i64 0)/\G.cell? ⟨H.heap.size,2,none⟩=some (.int .i64 2)/\G.cell? ⟨H.heap.size,3,none⟩=some (.int .i64 0)/\G.cell? ⟨H.heap.size,4,none⟩=some (.string s)/\G.cell? ⟨H.heap.size,5,none⟩=some (.int .i64 0)/\G.cell? ⟨H.heap.size,6,none⟩=some (.int .i64 1)/\G.cell? ⟨H.heap.size,7,none⟩=some (.int .i64 0)/\G.cell? ⟨H.heap.size,8,none⟩=some (.int .i64 0)/\G.cell? ⟨H.heap.size,9,none⟩=some (.int .i64 0)/\G.cell? ⟨H.heap.size,10,none⟩=some (.int .i64 0)/\G.cell? ⟨H.heap.size,11,none⟩=some (.string ⟨#[]⟩)/\G.cell? ⟨H.heap.size,12,none⟩=some (.slice none 0 0)/\G.cell? ⟨H.heap.size,13,none⟩=some (.int .i64 0)/\G.cell? ⟨H.heap.size,14,none⟩=some (.slice none 0 0)/\G.cell? ⟨H.heap.size,15,none⟩=some (.slice none 0 0)/\G.cell? ⟨H.heap.size,16,none⟩=some (.string ⟨#[]⟩)/\G.cell? ⟨H.heap.size,17,none⟩=some (.int .i64 0)/\G.cell? ⟨H.heap.size,18,none⟩=some (.string ⟨#[]⟩)/\G.cell? ⟨H.heap.size,19,none⟩=some (.string ⟨#[]⟩)/\G.cell? ⟨w1.heap.size,0,none⟩=some (.string s)/\G.cell? ⟨w1.heap.size,1,none⟩=some (.int .i64 0)/\G.cell? ⟨w1.heap.size,2,none⟩=some (.slice (some ⟨w.heap.size,0,none⟩) 1 1)/\G.cell? ⟨w1.heap.size,3,none⟩=some (.slice Y 1 1)/\G.cell? ⟨b8,o8,none⟩=some (.string s)/\G.cell? ⟨b8,o8+1,none⟩=some (.int .i64 0)):=fun G O=>by
  have N:=(O.block _ (lb ac.out)).trans ac.out;have hP:=(O.block _ (lb af.out)).trans af.out;refine ⟨?_,(zz G _ 0 _ _ _ N).trans rfl,(zz G _ 1 _ _ _ N).trans rfl,(zz G _ 2 _ _ _ N).trans rfl,(zz G _ 3 _ _ _ N).trans rfl,(zz G _ 4 _ _ _ N).trans rfl,(zz G _ 5 _ _ _ N).trans rfl,(zz G _ 6 _ _ _ N).trans rfl,(zz G _ 7 _ _ _ N).trans rfl,(zz G _ 8 _ _ _ N).trans rfl,(zz G _ 9 _ _ _ N).trans rfl,(zz G _ 10 _ _ _ N).trans rfl,(zz G _ 11 _ _ _ N).trans rfl,(zz G _ 12 _ _ _ N).trans rfl,(zz G _ 13 _ _ _ N).trans rfl,(zz G _ 14 _ _ _ N).trans rfl,(zz G _ 15 _ _ _ N).trans rfl,(zz G _ 16 _ _ _ N).trans rfl,(zz G _ 17 _ _ _ N).trans rfl,(zz G _ 18 _ _ _ N).trans rfl,(zz G _ 19 _ _ _ N).trans rfl,(zz G _ 0 _ _ _ hP).trans rfl,(zz G _ 1 _ _ _ hP).trans rfl,(zz G _ 2 _ _ _ hP).trans rfl,(zz G _ 3 _ _ _ hP).trans rfl,(O.cell (p:=⟨b8,o8,none⟩) ao).trans q0,(O.cell (p:=⟨b8,o8+1,none⟩) ao).trans q1⟩;have h2:=yb1 (P:=prog) 40 5 9 underlying40 underlying5 underlying9 G J.heap.size A2 n2 c2 [1,2,0,3] (aT.out.up O nl);exact h2
 have bi:Hid (∀G,Below J.heap.size J G->G.rangeAt H.heap.size 0 [.int .i64 0,.int .i64 0,.int .i64 2,.int .i64 0,.string s,.int .i64 0,.int .i64 1,.int .i64 0,.int .i64 0,.int .i64 0,.int .i64 0,.string ⟨#[]⟩,.slice none 0 0,.int .i64 0,.slice none 0 0,.slice none 0 0,.string ⟨#[]⟩,.int .i64 0,.string ⟨#[]⟩,.string ⟨#[]⟩]):=fun G O j v hv=>by
  have N:=(O.block _ (lb ac.out)).trans ac.out;exact (zz G _ (0+j) _ _ _ N).trans (by rw [Nat.zero_add,List.getElem?_toArray];exact hv)
 have bf:Hid (∀G,Below J.heap.size J G->G.rangeAt w1.heap.size 0 [.string s,.int .i64 0,.slice (some ⟨w.heap.size,0,none⟩) 1 1,.slice Y 1 1]):=fun G O j v hv=>by
  have hP:=(O.block _ (lb af.out)).trans af.out;exact (zz G _ (0+j) _ _ _ hP).trans (by rw [Nat.zero_add,List.getElem?_toArray];exact hv)
 have HI:Hid (∀W,Below J.heap.size J W->Sl I W W.heap.size (some ⟨J.heap.size,0,none⟩) 2 [0,3]->Calls prog 23 #[.slice A5 n5 c5,.slice (some ⟨J.heap.size,0,none⟩) 2 2] W fun e G=>e= .returned (.bool true)/\∃r,G=W.drewN r):=fun W O hs=>by
  have h5:Sl I W W.heap.size A5 n5 (nrm [0,3]):=(((bg.out.up L.out nl).more' L.out.size).up O nl).more' O.size;have bI:n5=2:=by rw [<-HS5.out.1,nrm03];rfl
  refine (ints_any A5 (some ⟨J.heap.size,0,none⟩) n5 2 (nrm [0,3]) [0,3] c5 2 W W.heap.size h5 hs om om).mono ?_;rintro e G ⟨rfl,h⟩;exact ⟨by rw [nrm03];rfl,h⟩
 have bu:Hid (∀W,Below J.heap.size J W->Calls prog 15 #[.agg #[.int .i64 0,.int .i64 0,.int .i64 2,.int .i64 0,.string s,.int .i64 0,.int .i64 1,.int .i64 0,.int .i64 0,.int .i64 0,.int .i64 0,.string ⟨#[]⟩,.slice none 0 0,.int .i64 0,.slice none 0 0,.slice none 0 0,.string ⟨#[]⟩,.int .i64 0,.string ⟨#[]⟩,.string ⟨#[]⟩],.agg #[.string s,.int .i64 0,.slice (some ⟨w.heap.size,0,none⟩) 1 1,.slice Y 1 1]] W fun e G=>e= .returned (.bool true)/\Below J.heap.size J G):=fun W O=>by
  have hw:Below w.heap.size w W:=ag.out.trans ((HB6.out.mono ag.out.size).trans ((L.out.mono aa.out).trans (O.mono (lT aa.out L.out.size))));have ap:Below W2.heap.size W2 W:=HB6.out.trans ((L.out.mono HB6.out.size).trans (O.mono (lT HB6.out.size L.out.size)));have h:=acquits_one 1 1 1 W2.heap.size (some ⟨w.heap.size,0,none⟩) Y [120] W (bA.out.on hw) nl ((bz.out.up ap (Nat.le_of_lt (Nat.lt_of_le_of_lt ai.out T.out))).more' (Nat.le_of_lt (Nat.lt_of_le_of_lt ai.out T.out))) (by rw [<-aP.out];exact (be.out.up ap (Nat.le_of_lt T.out)).more' (Nat.le_of_lt T.out)) ap.size om om aV.out;rw [<-aP.out] at h;exact h.mono (fun e G h=>⟨h.1,bt O h.2⟩)
 have HBq:Hid (Below J.heap.size J J):=Below.refl _ _;refine rH (S:=(fun G=>Below J.heap.size J G)) (by as_aux_lemma=>kernel_rfl) (by exact yan) (fun aD=>?_)
 (iterate 4 refine tkA ?_)
 refine tkH (i:=4) (v:=?z4v) (y:=(Or.inl ⟨by rfl,?z4y⟩)) (h:=?z4r);case z4y=>(intro w hSw;(try dsimp only at hSw);obtain ⟨k0, -, -, -, -, -, -, -, -, -, -, -, -, -, -, -, -, -, -, -, -, -, -, -, -, -, -⟩:=HK.out w hSw;go_simp;try (with_reducible rfl))
 try simp only [pt]
 refine tkY 5 ?_;refine tkY 6 ?_;refine tkY 7 ?_;refine tkY 8 ?_;refine tkY 9 ?_;refine tkY 10 ?_;refine tkY 11 ?_;refine tkY 12 ?_;refine tkY 13 ?_;refine tkY 14 ?_;refine tkY 15 ?_;refine tkY 16 ?_
 as_aux_lemma=>
  refine rd1 17 (fun K hK=>?_);go_simp;refine hK.out _ _ yaj (fun ah=>?_);clear hK K aD
  try simp only [pt]
  refine rd1 18 (fun K hK=>?_)
  (go_simp;go_at_call 23;(refine (HI.out _ ?_ ?_).mono ?_);(exact yan);(exact ⟨rfl,SL.of_block (t:=3) (fr:=(0,0)) (zy _ _) sI⟩);rintro e w9 ⟨rfl,r9,aW⟩;(have HBi:Hid (Below J.heap.size J w9):=(by show Below ..;rw [aW];exact yan));go_wp2_with fail)
  refine hK.out _ _ yaj (fun aj=>?_);clear hK K ah
  try simp only [pt]
  refine tkY 19 ?_;refine tkY 20 ?_;refine tkH (i:=21) (v:=_) (y:=(yieldsIf_load_mid (by rfl) 39 (.tmp 7) rfl H.heap.size 0 (by rfl) [.int .i64 0,.int .i64 0,.int .i64 2,.int .i64 0,.string s,.int .i64 0,.int .i64 1,.int .i64 0,.int .i64 0,.int .i64 0,.int .i64 0,.string ⟨#[]⟩,.slice none 0 0,.int .i64 0,.slice none 0 0,.slice none 0 0,.string ⟨#[]⟩,.int .i64 0,.string ⟨#[]⟩,.string ⟨#[]⟩] _ bi.out underlying39 rfl Tryz.sizeAcc)) (h:=?_)
  try simp only [pt]
  refine tkH (i:=22) (v:=_) (y:=(yieldsIf_load_mid (by rfl) 42 (.tmp 1) rfl w1.heap.size 0 (by rfl) [.string s,.int .i64 0,.slice (some ⟨w.heap.size,0,none⟩) 1 1,.slice Y 1 1] _ bf.out underlying42 rfl Tryz.sizePc)) (h:=?_)
  try simp only [pt]
  refine rd1 23 (fun K hK=>?_)
  (go_simp;go_at_call 15;(refine (bu.out _ ?_).mono ?_);(exact yan);rintro e bK ⟨rfl,bE⟩;go_wp2_with fail)
  refine hK.out _ _ yaj (fun aS=>?_);clear hK K aj
  try simp only [pt]
  as_aux_lemma=>
   refine tkY 24 ?_;refine tkY 25 ?_;refine tkY 26 ?_;refine tkY 27 ?_;refine tkY 28 ?_;refine tkY 29 ?_;refine tkY 30 ?_;refine tkY 31 ?_;refine tkY 32 ?_;refine tkH (i:=33) (v:=?z33v) (y:=(Or.inl ⟨by rfl,?z33y⟩)) (h:=?z33r);case z33y=>(intro w hSw;(try dsimp only at hSw);obtain ⟨-, -, -, -, -, -, -, -, -, -, -, -, -, -, -, -, -, -, -, -, -, -, -, -, -,bF,bH⟩:=HK.out w hSw;go_simp;try (with_reducible rfl))
   try simp only [pt]
   refine tkY 34 ?_;refine tkH (i:=35) (v:=?z35v) (y:=(Or.inl ⟨by rfl,?z35y⟩)) (h:=?z35r);case z35y=>(intro w hSw;(try dsimp only at hSw);obtain ⟨-, -, -, -, -, -, -, -, -, -, -, -, -, -, -, -, -, -, -, -, -,bM,bG, -, -, -, -⟩:=HK.out w hSw;go_simp;try (with_reducible rfl))
   try simp only [pt]
   refine tkY 36 ?_;refine tkY 37 ?_;refine tkY 38 ?_;refine wpAnyH_done (by as_aux_lemma=>kernel_rfl) ?_ _;go_wp2_with fail;go_ret
   first |exact ⟨rfl,ag.out.trans ((HB6.out.mono ag.out.size).trans ((L.out.mono aa.out).trans (Below.mono (by assumption) (lT aa.out L.out.size))))⟩ |trace_state
theorem acF_len {k d q:Int} {bs:List Int} (H:k=6) (h0:(acF k d q bs).er=0):(acF k d q bs).ps.length<=1000000/\(acF k d q bs).qs.length<=1000000/\(acF k d q bs).rs.length<=1000000:=by
 unfold acF at h0 ⊢;rw [if_pos H] at h0 ⊢
 split at h0
 ·next h1=>
  split at h0
  ·next h2=>
   rw [if_pos h1,if_pos h2];unfold okT at h2;rw [Bool.and_eq_true] at h2;have G:=h2.2;unfold okR at G;rw [Bool.and_eq_true] at G;obtain ⟨_,_,_,_,_,_,_,_,_,_,g1,g2,g3,_⟩:=yb9 G.2;exact ⟨lT g1.1 de,Nat.le_trans g3.1 de,Nat.le_trans g2.1 de⟩
  ·exact absurd h0 de
 ·exact absurd h0 de
open Go.ChangeShapes Go.WideShapes Go.ChangeAt Go.RowKit Go.Deep
theorem wAll_mem {H:Type} {P:Program} {e:TypeId}:∀ {l:List (DataW H)} {d:DataW H},d∈l->∀n∈d.weights P e,n∈DataW.weightsAll P e l
 |d'::r,d,hd,n,hn=>by
  simp only [DataW.weightsAll,List.mem_append];rcases List.mem_cons.1 hd with rfl |h
  ·exact Or.inl hn
  ·exact Or.inr (wAll_mem h n hn)
theorem Tryz.bytesB:prog.bytesOf 5=1:=by kernel_rfl
section
variable {H:Type} {enc:TypeId × Value->H} {W:World} {d:DataW H} {p:List MemPlace}
theorem w_btsM {fuel:Nat} {a:Option Addr} {n c:Nat} {x:DataW H × List MemPlace} (h:DataW.trod enc prog W 0 (fun _=>true) true fuel 40 [.slice a n c]=some x)
 (K:∀m∈x.1.weights prog 40,m<=reachBytes):n<=reachBytes:=by
 rcases open_slice underlying40 h with ⟨e,_⟩ |⟨x,l,N,m,T,D,O,e,_,hl,M,J,L,hi⟩
 ·simp only [List.cons.injEq,Value.slice.injEq,and_true] at e;obtain ⟨_,rfl,_⟩:=e;exact Nat.zero_le _
 ·simp only [List.cons.injEq,Value.slice.injEq,and_true] at e;obtain ⟨_,rfl,rfl⟩:=e;simp only [if_true] at J;subst J L;have:=K _ (by simp only [DataW.weights,underlying40];exact List.mem_cons_self);simp only [List.length_map,List.length_range,Tryz.bytesB,Nat.mul_one] at this;omega
theorem w_enr {fuel:Nat} {v:EnR} {x:DataW H × List MemPlace} (h:DataW.trod enc prog W 0 (fun _=>true) true fuel 55 (fEn v)=some x)
 (O:∀m∈x.1.weights prog 55,m<=reachBytes):v.bd.n<=reachBytes:=by
 obtain ⟨ys,n,_,hx,aa,J,G⟩:=DataW.trod_struct underlying55 h;obtain ⟨N,z,Z,U,L,Y,rfl⟩:=clist6 J;have K:DataW.trod enc prog W 0 (fun _=>true) true n 40 (((fEn v).drop 4).take (prog.cellsOf 40))=[N,z,Z,U,L,Y][4]? :=G 4 _ rfl;rw [Tryz.cellsLb] at K;have M:DataW.trod enc prog W 0 (fun _=>true) true n 40 [.slice v.bd.a v.bd.n v.bd.c]=some L:=K;subst hx;refine w_btsM M fun m T=>O m ?_;simp only [DataW.weights,underlying55];exact DataW.weights_mem_each (j:=4) rfl rfl m T
theorem w_slice {α:Type} [Inhabited α] {f:α->List Value} {s:Nat} {t e:TypeId} (ht:prog.underlying t=some (.slice e)) (hC:prog.cellsOf e=s) (ae:0 < s) (hf:∀x,(f x).length=s) {Pr:α->Prop}
 (ag:∀(fuel:Nat) (cs:List Value) (y:DataW H × List MemPlace),DataW.trod enc prog W 0 (fun _=>true) true fuel e cs=some y->(∀m∈y.1.weights prog e,m<=reachBytes)->∃x,cs=f x/\Pr x) {fuel:Nat} {cs:List Value} {y:DataW H × List MemPlace}
 (h:DataW.trod enc prog W 0 (fun _=>true) true fuel t cs=some y) (hw:∀m∈y.1.weights prog t,m<=reachBytes):∃a n c xs,cs=[.slice a n c]/\n<=c/\c<=maxLen/\SlN f s W W.heap.size a n xs/\∀x∈xs,Pr x:=by
 rcases open_slice ht h with ⟨rfl,_⟩ |⟨x,l,c,m,nn,D,Pl,rfl,_,hl,hm,N,Y,hi⟩
 ·exact ⟨none,0,0,[],rfl,Nat.le_refl _,Nat.zero_le _,SlN.nil,fun x Y=>by cases Y⟩
 ·simp only [if_true] at N;subst N Y
  have U:∀i,i < l->∃r:α,(∀j v,(f r)[j]? =some v->W.cell? (x.add (i*s+j))=some v)/\Pr r:=by
   intro i J;obtain ⟨ai,hc,ah⟩:=hi i om;rw [hC] at hc;obtain ⟨_,aj,ac⟩:=World.cells?_some hc
   obtain ⟨r,rfl,hr⟩:=ag _ _ _ ah (fun m aa=>hw m (by
    simp only [DataW.weights,ht,List.mem_cons,List.mem_append]
    exact Or.inr (Or.inl (wAll_mem (List.mem_map.2 ⟨i,List.mem_range.2 J,rfl⟩) m aa))))
   refine ⟨r,fun j v L=>?_,hr⟩;have hj:j < s:=by have:=(List.getElem?_eq_some_iff.1 L).1;rw [hf] at this;exact this
   rw [<-Go.Deep.add_add,ac j hj];exact L
  obtain ⟨R,Z⟩:=choose_lt U;refine ⟨some x,l,_,(List.range l).map R,rfl,hl,hm,⟨by simp,fun hn=>?_⟩,fun z hz=>?_⟩
  ·simp at hn;obtain ⟨u,hu⟩:∃u,(f (R 0))[0]? =some u:=⟨_,List.getElem?_eq_getElem (by rw [hf];exact ae)⟩
   have h0:=(Z 0 hn).1 0 u hu;obtain ⟨b,O,T⟩:=x;have K:T=none:=by simpa [Addr.add] using World.cell?_spot h0
   subst K;refine ⟨b,O,rfl,block_lt_of_cell (a:=⟨b,O,none⟩) (by simpa [Addr.add] using h0),fun i z G j v L=>?_⟩;rw [List.getElem?_map] at G
   have J:i < l:=by
    rcases Nat.lt_or_ge i l with h |h
    ·exact h
    ·rw [List.getElem?_eq_none (by simpa using h)] at G;cases G
   rw [List.getElem?_range J] at G;cases G
   have:=(Z i J).1 j v L;rw [Addr.add_mid] at this;exact this
  ·obtain ⟨i,af,rfl⟩:=List.mem_map.1 hz;exact (Z i (List.mem_range.1 af)).2
theorem in_enrsS {fuel:Nat} {cs:List Value} {y:DataW H × List MemPlace} (h:DataW.trod enc prog W 0 (fun _=>true) true fuel 22 cs=some y) (G:∀m∈y.1.weights prog 22,m<=reachBytes):∃a n c xs,cs=[.slice a n c]/\n<=c/\c<=maxLen/\EnIn W W.heap.size a n xs/\smB xs:=by
 obtain ⟨a,n,c,xs,e,h1,h0,h2,O⟩:=w_slice (f:=fEn) (s:=6) (Pr:=fun v:EnR=>EnOk W W.heap.size v/\v.bd.n<=reachBytes) underlying22 Tryz.cellsEn de ycz (fun _ _ _ h G=>by obtain ⟨v,rfl,M⟩:=in_enr h;exact ⟨v,rfl,M,w_enr h G⟩) h G;have K:∀x∈xs,EnOk W W.heap.size x/\x.bd.n<=reachBytes:=O;have N:reachBytes<=140737488355328:=of_decide_eq_true ybi;have L:∀x∈xs,x.bd.n<=140737488355328:=fun x J=>lT (K x J).2 N;exact ⟨a,n,c,xs,e,h1,h0,⟨h2,fun x J=>And.left (K x J)⟩,L⟩
theorem in_viewS {fuel:Nat} {cs:List Value} {x:DataW H × List MemPlace} (h:DataW.trod enc prog W 0 (fun _=>true) true fuel 29 cs=some x) (hw:∀m∈x.1.weights prog 29,m<=reachBytes):∃(q:Vw) (es:List EnR) (vs:List VtR) (Z af:List ByteArray) (fks:List Int),cs=(cVw q).toList/\VwIn W W.heap.size q es vs Z af fks/\smB es:=by
 obtain ⟨ys,n,_,aa,Y,ac,G⟩:=DataW.trod_struct underlying29 h;rw [Tryz.cellsVw] at Y;obtain ⟨c0,c1,c2,c3,c4,J,T,rfl⟩:=clist7 Y;obtain ⟨O,K,U,L,N,M,rfl⟩:=clist6 ac;have f0:DataW.trod enc prog W 0 (fun _=>true) true n 22 (([c0,c1,c2,c3,c4,J,T].drop 0).take (prog.cellsOf 22))=[O,K,U,L,N,M][0]? :=G 0 _ rfl;rw [Tryz.cellsLe] at f0;have f1:DataW.trod enc prog W 0 (fun _=>true) true n 23 (([c0,c1,c2,c3,c4,J,T].drop 1).take (prog.cellsOf 23))=[O,K,U,L,N,M][1]? :=G 1 _ rfl;rw [Tryz.cellsLv] at f1;have f2:DataW.trod enc prog W 0 (fun _=>true) true n 24 (([c0,c1,c2,c3,c4,J,T].drop 2).take (prog.cellsOf 24))=[O,K,U,L,N,M][2]? :=G 2 _ rfl;rw [Tryz.cellsLs] at f2;have f3:DataW.trod enc prog W 0 (fun _=>true) true n 26 (([c0,c1,c2,c3,c4,J,T].drop 3).take (prog.cellsOf 26))=[O,K,U,L,N,M][3]? :=G 3 _ rfl;rw [Tryz.cellsSch] at f3;have f4:DataW.trod enc prog W 0 (fun _=>true) true n 24 (([c0,c1,c2,c3,c4,J,T].drop 5).take (prog.cellsOf 24))=[O,K,U,L,N,M][4]? :=G 4 _ rfl;rw [Tryz.cellsLs] at f4;have f5:DataW.trod enc prog W 0 (fun _=>true) true n 27 (([c0,c1,c2,c3,c4,J,T].drop 6).take (prog.cellsOf 27))=[O,K,U,L,N,M][5]? :=G 5 _ rfl;rw [Tryz.cellsLi] at f5
 obtain ⟨a0,n0,c0,x0,z,l0,m0,h0,ae⟩:=in_enrsS f0 (fun m hm=>hw m (by
  subst aa;simp only [DataW.weights,underlying29]
  exact DataW.weights_mem_each (j:=0) rfl rfl m hm))
 simp at z;subst z;obtain ⟨a1,n1,c1,x1,e1,l1,h1⟩:=in_vlts f1;simp at e1;subst e1;obtain ⟨a2,n2,c2,x2,e2,l2,h2⟩:=in_strs f2;simp at e2;subst e2;obtain ⟨zb,zh,e3⟩:=in_sch f3;simp at e3;obtain ⟨rfl,rfl⟩:=e3;obtain ⟨a4,n4,c4,x4,e4,l4,h4⟩:=in_strs f4;simp at e4;subst e4;obtain ⟨a5,n5,J,x5,e5,l5,m5,h5⟩:=in_ilist f5;simp at e5;subst e5;exact ⟨⟨⟨a0,n0,c0⟩,⟨a1,n1,c1⟩,⟨a2,n2,c2⟩,zb,zh,⟨a4,n4,c4⟩,⟨a5,n5,J⟩⟩,x0,x1,x2,x4,x5,rfl,⟨h0,h1,h2,h4,h5,Nat.le_trans l0 m0,l0,l1,l2,l4,l5⟩,ae⟩
theorem w_viewS {r:Reach} {M:Nat} {v:Value} (L:Value.okWide prog W r M 29 v) (h:DataW.Trod enc prog W 0 (fun _=>true) true 29 v d p) (K:∀m∈d.weights prog 29,m<=reachBytes):∃(q:Vw) (J:List EnR) (vs:List VtR) (G H:List ByteArray) (fks:List Int),v= .agg (cVw q)/\VwIn W W.heap.size q J vs G H fks/\smB J:=by
 obtain ⟨cs,rfl,_⟩:=okWide_struct underlying29 L;obtain ⟨fuel,hf⟩:=h;obtain ⟨q,J,vs,G,H,fks,e,h1⟩:=in_viewS hf K;refine ⟨q,J,vs,G,H,fks,?_,h1⟩
 congr 1
 have N:cs.toList=(cVw q).toList:=e;have:=congrArg List.toArray N;simpa using this
end
