import Derived.Test.YtpdledjgbgalcaaGreatDoorPw
import Derived.Test.YtpdledjgbgalcaaGreatDoorPx
namespace Go.Proofs.YtpdledjgbgalcaaGreatDoor
set_option maxRecDepth 100000
set_option maxHeartbeats 32000000
open Go.RowKit Go.Lib Go.Proofs.Tryz
set_option linter.unusedVariables false
set_option linter.unusedSimpArgs false
theorem Tryz.infoRA:(prog.info? 50).map (fun i=>(i.zero.map (·.cells.size),i.size,i.bytes))=some (some 20,20,248):=by kernel_rfl
theorem sizeArR (r:AcR):(prog.info? 50).map (·.size)=some (fAr r).length:=by kernel_rfl
theorem ownNN_apart {α β:Type} {f:α->List Value} {N:β->List Value} {s Y:Nat} {w:World} {base base':Nat} {e K:TypeId} {v J:Value} {xs:List α} {ys:List β} (h:OwnN f s e w base v xs) (W:OwnN N Y K w base' J ys) (H:e≠K):v.ownBlock=none∨v.ownBlock≠J.ownBlock:=by
 rcases h.2 with ⟨rfl,h0⟩ |⟨g,cap,Z,rfl,h1,O,h2⟩
 ·exact .inl rfl
 ·right
  rcases W.2 with ⟨rfl,h0⟩ |⟨U,M,L,rfl,z,G,aa⟩
  ·intro e;cases e
  ·intro e;have T:g=U:=by injection e
   subst T;rw [O] at G;injection G with G;injection G with _ ht _;exact H ht
def OqR (al:List Ac) (base:Nat) (W1:World) (vE:Value) (l:List EnR) (wr:World) (v:Value):Prop:=
 Below base W1 wr/\OwnN fEn 6 55 wr base vE l/\∃rs:List AcR,OwnN fAr 20 50 wr base v rs/\(∀r∈rs,ArO wr base r)/\rs.map (·.a)=al
theorem OqR.on {al:List Ac} {base:Nat} {J wr H:World} {K v:Value} {l:List EnR} (h:OqR al base J K l wr v) (G:Below wr.heap.size wr H) (L:base<=wr.heap.size):OqR al base J K l H v:=by
 obtain ⟨h1,h2,rs,O,N,M⟩:=h;exact ⟨h1.trans (G.mono L),h2.on G,rs,O.on G,fun r hr=>(N r hr).on G,M⟩
theorem cg_er {op:Ac->Bool} {l:List EnR} {k:Nat} {e:EnR} (h:l[k]? =some e) (hn:¬((acX e).er=0/\op (acX e)=true)):(cgL op (l.take (k+1))).map (·.1)=(cgL op (l.take k)).map (·.1):=by
 rw [yc5 h];unfold cgE;rw [if_neg (fun g=>hn ⟨g.2.1,g.2.2⟩)];simp
theorem acX_six {e:EnR} (h:(acX e).er=0):e.k=6:=by
 unfold acX acF at h
 by_cases h6:e.k=6
 ·exact h6
 ·rw [if_neg h6] at h;exact absurd h de
theorem cg_yes {op:Ac->Bool} {l:List EnR} {k:Nat} {e:EnR} (h:l[k]? =some e) (h0:(acX e).er=0) (h1:op (acX e)=true):(cgL op (l.take (k+1))).map (·.1)=(cgL op (l.take k)).map (·.1)++[acX e]:=by
 rw [yc5 h];unfold cgE;rw [if_pos ⟨acX_six h0,h0,h1⟩];simp
theorem aqX_seven {e:EnR} (h:(aqX e).er=0):e.k=7:=by
 unfold aqX aqF at h
 by_cases h7:e.k=7
 ·exact h7
 ·rw [if_neg h7] at h;exact absurd h de
theorem pcs_take {l:List EnR} {m:Nat} {e:EnR} (h:l[m]? =some e) (d q y:Int):pcsE aqX (l.take (m+1)) d q y=pcsE aqX (l.take m) d q y++(pcE aqX e d q y).toList:=by
 unfold pcsE;rw [List.take_add_one,h,List.filterMap_append];cases h:pcE aqX e d q y<;>simp [h]
def acqd (a:Ac) (l:List EnR):Bool:=(pcsE aqX l a.d a.q a.R.hd).any fun p=>aqB a.R p.st p.ix p.xs p.ys
theorem acqd_no {a:Ac} {l:List EnR} {m:Nat} {e:EnR} (h:l[m]? =some e) (hn:¬((aqX e).er=0/\e.dv=a.R.hd/\(aqX e).d=a.d/\(aqX e).q=a.q/\aqB a.R (aqX e).x.st (aqX e).x.ix (aqX e).x.xs (aqX e).x.ys=true)):acqd a (l.take (m+1))=acqd a (l.take m):=by
 unfold acqd;rw [pcs_take h,List.any_append]
 have:((pcE aqX e a.d a.q a.R.hd).toList.any fun p=>aqB a.R p.st p.ix p.xs p.ys)=false:=by
  unfold pcE
  split
  ·next g=>
   simp only [Option.toList_some,List.any_cons,List.any_nil,Bool.or_false];rw [<-Bool.not_eq_true];exact fun G=>hn ⟨g.2.1,g.2.2.2.2.symm,g.2.2.1.symm,g.2.2.2.1.symm,G⟩
  ·rfl
 rw [this,Bool.or_false]
theorem acqd_yes {a:Ac} {l:List EnR} {m:Nat} {e:EnR} (h:l[m]? =some e) (h1:(aqX e).er=0) (h2:e.dv=a.R.hd) (H:(aqX e).d=a.d) (G:(aqX e).q=a.q) (J:aqB a.R (aqX e).x.st (aqX e).x.ix (aqX e).x.xs (aqX e).x.ys=true):acqd a (l.take (m+1))=true:=by
 unfold acqd;rw [pcs_take h,List.any_append]
 have:((pcE aqX e a.d a.q a.R.hd).toList.any fun p=>aqB a.R p.st p.ix p.xs p.ys)=true:=by
  unfold pcE;rw [if_pos ⟨aqX_seven h1,h1,H.symm,G.symm,h2.symm⟩];simpa using J
 rw [this,Bool.or_true]
theorem opV_eq (x:Vw) (J:List EnR) (vs:List VtR) (G H:List ByteArray) (a:Ac):opV x J vs G H a=(cnF G x.b x.h vs a&&(!drB H a.R.s&& !acqd a (frE J))):=by
 unfold opV opF opB acqd;cases cnF G x.b x.h vs a<;>simp
theorem drB_take {G:List ByteArray} {m:Nat} {y:ByteArray} (h:G[m]? =some y) (s:ByteArray):drB (G.take (m+1)) s=(drB (G.take m) s||decide (y=s)):=by
 unfold drB;rw [List.take_add_one,h,List.any_append];simp
theorem rangeRow {w:World} {b:Nat} {t:TypeId} {cs:Array Value} (h:w.heap[b]? =some (.cells cs t (0,0))):w.rangeAt b 0 cs.toList:=fun j v G=>by
 rw [Nat.zero_add,cell_of_row w b j _ _ _ h];simpa using G
theorem sizePcL (s:ByteArray) (ix:Int) (A:Option Addr) (n c:Nat) (A':Option Addr) (m c':Nat):(prog.info? 42).map (·.size)=some (cPi s ix A n c A' m c').toList.length:=by kernel_rfl
theorem ropen_any (x:Vw) (O:List EnR) (vs:List VtR) (G L:List ByteArray) (bv:List Int) (B:Nat) (w:World) (hV:VwIn w B x O vs G L bv) (hB:B<=w.heap.size) (hk:VwOk x O) (bj:∀e∈O,e.bd.n<=65536):
 Calls prog 21 #[.agg (cVw x)] w fun e w'=>∃v,e= .returned v/\Below w.heap.size w w'/\∃rs:List AcR,OwnN fAr 20 50 w' w.heap.size v rs/\(∀r∈rs,ArO w' w.heap.size r)/\rs.map (·.a)=opnV x O vs G L:=by
 have bO:(w.alloc (.cells (cVw x) 48)).heap.size=w.heap.size+1:=by simp
 obtain ⟨W1,ai⟩:∃W:World,W=(w.alloc (.cells (cVw x) 48)).alloc (.cells #[] 50):=⟨_,rfl⟩
 have aC:Below w.heap.size w W1:=by rw [ai];exact bl.alloc sI _
 have aI:W1.heap[w.heap.size]? =some (.cells (cVw x) 48 (0,0)):=by rw [ai];exact (zx _ _ _ sI).trans (zy w _)
 have bT:OwnN fAr 20 50 W1 (w.heap.size+1) (.slice (some ⟨w.heap.size+1,0,none⟩) 0 0) []:=by
  rw [ai,<-bO];exact World.ownsRow_made _ #[] 0 nl (Nat.zero_le _) sI
 have ar:w.heap.size+1<=W1.heap.size:=by rw [ai];simp
 obtain ⟨l,hl⟩:=gx (frE O);have a4:=entries_any x O B W1 (hV.E.1.up aC hB) (lT hB aC.size) hk.1;rw [hl] at a4;have aP:l.length<=1000:=by rw [<-hl];have h1:=yci O;have h2:O.length=x.E.n:=hV.E.1.1;have h3:=hk.1;omega
 have HL:Hid (∀e∈l,EnOk w B e/\e.bd.n<=65536):=fun e he=>by rw [<-hl] at he;exact ⟨hV.E.2 e (ydf he),bj e (ydf he)⟩
 have ck:=lh hl;have HLN:=lh aP;have aD:=lh a4;have cm:=lh ai;have HB1:=lh aC;have cP:=lh aI;have bh:=lh bT;have HS1:=lh ar;have bn:Hid (∀V,Below w.heap.size w V->VwIn V V.heap.size x O vs G L bv):=fun V M=>(hV.up M hB).more (lT hB M.size);have aG:=lh hB;have aY:=lh hk;obtain ⟨i0,z0,bI,bW,bF,bK,ba⟩:=ycK Tryz.infoRA;have bM:=lh bI;have br:=lh bW;have bb:=lh bF;have cF:=lh bK;have bD:=lh ba;have ci:Hid (∀V,Below (w.heap.size+1) W1 V->V.heap[w.heap.size]? =some (.cells (cVw x) 48 (0,0))):=fun V M=>(M.block _ (Nat.lt_succ_self _)).trans aI;have HBW:Hid (∀V,Below (w.heap.size+1) W1 V->Below w.heap.size w V):=fun V M=>aC.trans (M.mono (Nat.le_succ _));have bu:Hid (∀V,Below (w.heap.size+1) W1 V->w.heap.size+1<=V.heap.size):=fun V M=>lT ar M.size;have bH:Hid (∀a,opV x O vs G L a=(cnF G x.b x.h vs a&&(!drB L a.R.s&& !acqd a l))):=fun a=>by rw [<-hl];exact opV_eq ..
 obtain ⟨v0,v1,v2,v3,v4,v5,v6⟩:=ybo aI;clear hV hB hk bj bO ai aC aI bT ar hl a4 bI bW bF bK ba;go_enter func21,ntmps21;go_upto_region 2 with fail
 rw [<-cm.out];go_wp2_with (go_at_call 55;(with_reducible refine aD.out.mono ?_);rintro e w2 ⟨vE,rfl,ho,hb⟩;(obtain ⟨Ae,ce,M,cy,_,_⟩:=OwnN.shape ydK ho);subst M;(have bS:Hid (OwnN fEn 6 55 w2 (w.heap.size+1) (.slice Ae l.length ce) l):=World.ownsRow.mono ho HS1.out);(have bc:Hid (Below (w.heap.size+1) W1 w2):=hb.mono HS1.out);(have bJ:Hid (OwnN fAr 20 50 w2 (w.heap.size+1) (.slice (some ⟨w.heap.size+1,0,none⟩) 0 0) []):=OwnN.on bh.out hb);clear ho hb cy);clear v0 v1 v2 v3 v4 v5 v6
 go_loopw [3,5] (fun v i wr=>∃k:Nat,k<=l.length/\i= .int .i64 k/\Hid (OqR ((cgL (opV x O vs G L) (l.take k)).map (·.1)) (w.heap.size+1) W1 (.slice Ae l.length ce) l wr v)) (fun _ i _=>l.length - (intOf i).toNat)
 case atStart=>exact ⟨0,Nat.zero_le _,rfl,bc.out,bS.out,[],bJ.out,(fun _ h=>by cases h),rfl⟩
 case round=>
  clear bS bc bJ aD bh;obtain ⟨k,hk,rfl,HR⟩:=hrel
  by_cases hlt:k < l.length
  ·have b9:(k:Int) < (l.length:Int):=by omega
   obtain ⟨z,cn⟩:∃z:World,z=wr:=⟨_,rfl⟩
   subst cn;have HBr:Hid (Below (w.heap.size+1) W1 z):=HR.out.1;have a1:=lh (HBW.out _ HBr.out);have ay:=lh (bu.out _ HBr.out)
   have a8:Hid (∀V,Below z.heap.size z V->∀m,m < l.length->∃b Y e',Ae=some ⟨b,Y,none⟩/\l[m]? =some e'/\V.rangeAt b (Y+m*6) (fEn e')):=fun V M m hm=>by
    obtain ⟨A',c',cD,_,ca,_⟩:=OwnN.shape ydK (OwnN.on HR.out.2.1 M);injection cD with e1 _ _;subst e1;obtain ⟨b,Y,e',h1,_,h3,h4⟩:=ca.at_ hm;exact ⟨b,Y,e',h1,h3,fun j v M=>by rw [Nat.add_assoc];exact h4 j v M⟩
   obtain ⟨b,Y,⟨dv,sq,ek,dy,bd,pr,bs⟩,rfl,he,hr⟩:=a8.out z bR k hlt;have cf:=lh hr;have HGE:=lh he;have aD:=lh (HL.out _ (List.mem_of_getElem? he));obtain ⟨a,ha⟩:∃a:Ac,acX ⟨dv,sq,ek,dy,bd,pr,bs⟩=a:=⟨_,rfl⟩
   have cz:Hid (Calls prog 56 #[.agg (fEn ⟨dv,sq,ek,dy,bd,pr,bs⟩).toArray] z (AcP a z)):=by
    have h:=rac_f ⟨dv,sq,ek,dy,bd,pr,bs⟩ B z (aD.out.1.up a1.out aG.out) (lT aG.out a1.out.size) aD.out.2;rw [ha] at h;exact h
   have HAE:=lh ha;clear he hr ha
   go_upto_region 7 with (first
    |(with_reducible refine wpList_load_mid rfl 55 (.tmp 27) rfl b (Y+k*6) rfl (fEn ⟨dv,sq,ek,dy,bd,pr,bs⟩) _ cf.out underlying55 rfl (sizeEnK _) ?_)
    |(go_at_call 56;(with_reducible refine cz.out.mono ?_);rintro e W3 ⟨pa,pb,pc,rfl,ho,bo⟩;(have cL:Hid (ArO W3 z.heap.size ⟨a,pa,pb,pc⟩):=ho);(have cd:=lh bo);(have co:Hid ((W3.alloc (.cells zA 50)).heap[W3.heap.size]? =some (.cells zA 50 (0,0))):=zy W3 _);clear ho bo)
    |((with_reducible refine ybc (o:=⟨none,_,_,_,_,_⟩) rfl 50 (.tmp 6) (.tmp 30) rfl W3.heap.size 50 _ _ rfl rfl co.out (yed a.d a.q (rHd a.R pa pb pc) a.st a.ix a.no a.an) rfl (ydV a.d a.q (rHd a.R pa pb pc) a.st a.ix a.no a.an) ?_);intro N a7 b8;(have a2:Hid (Below W3.heap.size W3 N):=((Below.refl _ W3).alloc nl (.cells zA 50)).trans (b8.out.below sI (fun i hi=>by subst hi;omega)));(have bB:Hid (Below z.heap.size z N):=bt cd.out a2.out)))
   have bQ:Hid (ArO N z.heap.size ⟨a,pa,pb,pc⟩):=RcO.on cL.out a2.out;have aB:Hid (∀V,Below N.heap.size N V->V.heap[W3.heap.size]? =some (.cells (cA a.d a.q (rHd a.R pa pb pc) a.st a.ix a.no a.an) 50 (0,0))):=fun V M=>(M.block _ (lb a7.out)).trans a7.out;have ak:Hid (∀V,Below N.heap.size N V->Below z.heap.size z V):=fun V M=>bt bB.out M;have bL:Hid (∀V,Below N.heap.size N V->V.heap[w.heap.size]? =some (.cells (cVw x) 48 (0,0))):=fun V M=>ci.out _ (HBr.out.trans ((ak.out V M).mono ay.out));have aF:Hid (∀V,Below N.heap.size N V->OqR ((cgL (opV x O vs G L) (l.take k)).map (·.1)) (w.heap.size+1) W1 (.slice (some ⟨b,Y,none⟩) l.length ce) l V u3):=fun V M=>HR.out.on (ak.out V M) ay.out;obtain ⟨v0,v1,v2,v3,v4,v5,v6⟩:=ybo (bL.out _ bR)
   by_cases h0:a.er=0
   ·have cG:=lh h0;have hi:=bQ.out.rcIn;have aP:=acF_len (k:=ek) (d:=dv) (q:=sq) (bs:=bs) (acX_six (e:=⟨dv,sq,ek,dy,bd,pr,bs⟩) (by rw [HAE.out];exact h0)) (by rw [show acF ek dv sq bs=a from HAE.out];exact h0);rw [show acF ek dv sq bs=a from HAE.out] at aP;have be:pa.n<=1000000:=by have h1:a.ps.length=pa.n:=hi.1.1.1;omega
    have bP:pb.n<=1000000:=by have h1:a.qs.length=pb.n:=hi.1.2.1.1;omega
    have b4:pc.n<=1000000:=by have h1:a.rs.length=pc.n:=hi.1.2.2.1;omega
    obtain ⟨cb,a6⟩:=gx (cnF G x.b x.h vs a)
    have bg:Hid (Calls prog 13 #[.agg (cVw x),.agg (cA a.d a.q (rHd a.R pa pb pc) a.st a.ix a.no a.an)] N fun e w'=>e= .returned (.bool cb)/\Below N.heap.size N w'):=by
     have bA:=bn.out _ (bt a1.out bB.out);have h1:=rcounts_any x G vs a.d a.q (rHd a.R pa pb pc) a.st a.ix a.no a.an a.ps a.qs a.rs N.heap.size N bA.V bA.P hi.1 nl aY.out.2.1.1 aY.out.2.1.2.1 hi.2 be bP b4;have h5:cnF G x.b x.h vs a=cnB G x.b x.h vs a.d a.q (rHd a.R pa pb pc) a.st a.ix a.no a.an a.ps a.qs a.rs:=cnB_hd _ _ _ _ _ _ _ _ _ _ _ _ _ _ hi.1.2.1.1 hi.1.2.2.1;rw [<-h5,a6] at h1;exact h1
    have bU:=lh a6;have bY:=lh (yc7 a7.out);clear hi a6 aP be bP b4
    cases cb with
    |true=>
     go_upto_region 8 with (first
      |(with_reducible refine ybN (op:=⟨some 36,_,_,_,_,_⟩) ya9 50 (.tmp 6) rfl W3.heap.size 0 rfl (cA a.d a.q (rHd a.R pa pb pc) a.st a.ix a.no a.an).toList _ bY.out underlying50 rfl (sizeALR _ _ _ _ _ _ _) ?_)
      |(go_at_call 13;(with_reducible refine bg.out.mono ?_);rintro e W5 ⟨rfl,az⟩;(have aX:=lh az);clear az))
     clear v0 v1 v2 v3 v4 v5 v6;go_upto_region 10 with fail
     go_loopw [8,9] (fun f j wr=>∃m:Nat,m<=x.D.n/\j= .int .i64 m/\f= .bool (!drB (L.take m) a.R.s)/\Hid (Below N.heap.size N wr)) (fun _ j _=>x.D.n - (intOf j).toNat)
     case atStart=>exact ⟨0,Nat.zero_le _,rfl,rfl,aX⟩
     case round=>
      obtain ⟨m,hm,rfl,rfl,Z⟩:=hrel;have cU:x.D.n<=1000:=aY.out.2.1.2.2;obtain ⟨v0,v1,v2,v3,v4,v5,v6⟩:=ybo (bL.out _ Z.out);obtain ⟨z0,z1,z2,z3,z4,z5⟩:=ybu (aB.out _ Z.out);have aN:=(bn.out _ (HBW.out _ (HBr.out.trans ((ak.out _ Z.out).mono ay.out)))).D;have bX:L.length=x.D.n:=aN.1
      by_cases cS:m < x.D.n
      ·have aV:(m:Int) < (x.D.n:Int):=by omega
       obtain ⟨b2,b5,y,bp,_,hy,cQ⟩:=aN.2.at_ (k:=m) om;have HT:=lh (drB_take hy a.R.s);rw [bp] at v5;clear aN hy bp
       cases am:drB (L.take m) a.R.s with
       |true=>
        rw [am] at HT;go_wp2_with fail;go_quiet (fail);go_wp2_with fail;go_roundw;case rel=>exact ⟨m+1,by omega,by go_num,by rw [HT.out];rfl,ybd Z.out _⟩
        case measure=>simp [intOf];omega
       |false=>
        rw [am] at HT
        by_cases aO:y=a.R.s
        ·subst aO;go_wp2_with fail;go_quiet (fail);go_wp2_with fail;go_roundw;case rel=>exact ⟨m+1,by omega,by go_num,by rw [HT.out];simp,ybd Z.out _⟩
         case measure=>simp [intOf];omega
        ·have e1:¬y.toList=a.R.s.toList:=fun h=>aO (by have:=beqD y a.R.s;rw [decide_eq_false aO] at this;simp [h] at this);have e2:(y.toList==a.R.s.toList)=false:=by simp [e1]
         have e3:(y.toList != a.R.s.toList)=true:=by simp [e1]
         have e4:decide (y.toList=a.R.s.toList)=false:=by simp [e1]
         go_wp2_with fail
         go_quiet (fail)
         go_wp2_with fail
         go_roundw
         case rel=>exact ⟨m+1,by omega,by go_num,by rw [HT.out];simp [aO],ybd Z.out _⟩
         case measure=>simp [intOf];omega
      ·obtain rfl:m=x.D.n:=by omega
       have aV:¬(x.D.n:Int) < (x.D.n:Int):=by omega
       have b1:L.take x.D.n=L:=by rw [<-bX,List.take_length]
       rw [b1];obtain ⟨db,am⟩:=gx (drB L a.R.s);rw [am];have cw:=lh am;clear b1 am aN bX;go_upto_region 14 with fail
       clear v0 v1 v2 v3 v4 v5 v6 z0 z1 z2 z3 z4 z5
       go_loopw [8,10] (fun f j wr=>∃m:Nat,m<=l.length/\j= .int .i64 m/\f= .bool (!db&& !acqd a (l.take m))/\Hid (Below N.heap.size N wr)) (fun _ j _=>l.length - (intOf j).toNat)
       case atStart=>exact ⟨0,Nat.zero_le _,rfl,by cases db<;>rfl,Z⟩
       case round=>
        clear Z;obtain ⟨m,hm,rfl,rfl,Z⟩:=hrel
        by_cases hml:m < l.length
        ·have aV:(m:Int) < (l.length:Int):=by omega
         obtain ⟨b2,b5,⟨T,aq,au,aw,aa,ap,ac⟩,af,aK,bN⟩:=a8.out _ (ak.out _ Z.out) m hml;injection af with af;injection af with hA1 hA2 _;subst hA1 hA2;have ag:=lh aK;have ch:=lh bN;obtain ⟨y,hy⟩:=gx (aqX ⟨T,aq,au,aw,aa,ap,ac⟩)
         have cu:Hid (Calls prog 57 #[.agg (fEn ⟨T,aq,au,aw,aa,ap,ac⟩).toArray] wr (RqP y wr)):=by
          have ao:=HL.out _ (List.mem_of_getElem? aK);have ax:=HBW.out _ (HBr.out.trans ((ak.out _ Z.out).mono ay.out));have h:=raq_f ⟨T,aq,au,aw,aa,ap,ac⟩ B wr (ao.1.up ax aG.out) (lT aG.out ax.size) ao.2;rw [hy] at h;exact h
         have a0:Hid (y.x.xs.length<=1000000/\y.x.ys.length<=1000000/\Byt y.x.xs):=by
          have ao:=HL.out _ (List.mem_of_getElem? aK);have h1:=aqX_ok (e:=⟨T,aq,au,aw,aa,ap,ac⟩) ao.1.2.1 (by have h1:ac.length=aa.n:=ao.1.1.1;have h2:aa.n<=65536:=ao.2;show ac.length<=1000000;omega);rw [hy] at h1;exact h1
         have HY:=lh hy;clear aK bN hy
         go_upto_region 17 with (first
          |(with_reducible refine wpList_load_mid rfl 55 (.tmp 69) rfl b (Y+m*6) rfl (fEn ⟨T,aq,au,aw,aa,ap,ac⟩) _ ch.out underlying55 rfl (sizeEnK _) ?_)
          |(go_at_call 57;(with_reducible refine cu.out.mono ?_);rintro e W7 ⟨J,H,rfl,ar,bq,bZ,bk⟩;(have bx:=lh ar);(have bC:=lh bq);(have bE:=lh bZ);(have HB7:=lh bk);clear ar bq bZ bk))
         obtain ⟨W8,aJ⟩:∃W:World,W=W7.alloc (.cells (cPi y.x.st y.x.ix J.a J.n J.c H.a H.n H.c) 42):=⟨_,rfl⟩
         have bm:W8.heap[W7.heap.size]? =some (.cells (cPi y.x.st y.x.ix J.a J.n J.c H.a H.n H.c) 42 (0,0)):=by rw [aJ];exact zy W7 _
         have bG:=lh bm;have a5:Hid (Below W7.heap.size W7 W8):=by show Below ..;rw [aJ];exact bl
         have cr:Hid (Below wr.heap.size wr W8):=bt HB7.out a5.out;rw [<-aJ];clear aJ bm;have ae:Hid (Below N.heap.size N W8):=bt Z.out cr.out
         have aT:Hid (∀V,Below W8.heap.size W8 V->V.cell? ⟨b,Y+m*6,none⟩=some (.int .i64 T)):=fun V M=>by
          obtain ⟨b3,cM,e3,af,bz,cI⟩:=a8.out _ (ak.out _ (bt ae.out M)) m hml;injection af with af;injection af with hA1 hA2 _;subst hA1 hA2;rw [ag.out] at bz;obtain rfl:⟨T,aq,au,aw,aa,ap,ac⟩=e3:=Option.some.inj bz;exact cI 0 _ rfl
         obtain ⟨z0,z1,z2,z3,z4,z5⟩:=ybu (aB.out _ ae.out);have x0:=aT.out _ bR
         by_cases g1:y.er=0
         ·by_cases g2:T=a.R.hd
          ·by_cases g3:y.d=a.d
           ·by_cases g4:y.q=a.q
            ·
             have bw:Hid (∀V,Below W8.heap.size W8 V->V.heap[W7.heap.size]? =some (.cells (cPi y.x.st y.x.ix J.a J.n J.c H.a H.n H.c) 42 (0,0))):=fun V M=>(M.block _ (lb bG.out)).trans bG.out;have aM:Hid (Below W8.heap.size W8 W8.drew):=bR.drew;have b7:Hid (Below N.heap.size N W8.drew):=ae.out.drew;obtain ⟨ab,aU⟩:=gx (aqB a.R y.x.st y.x.ix y.x.xs y.x.ys)
             have cE:Hid (∀V,Below W8.heap.size W8 V->Calls prog 16 #[.agg (cA a.d a.q (rHd a.R pa pb pc) a.st a.ix a.no a.an),.agg (cPi y.x.st y.x.ix J.a J.n J.c H.a H.n H.c)] V fun e w'=>e= .returned (.bool ab)/\Below V.heap.size V w'):=fun V M=>by
              have aH:=bt a5.out M;have h1:=racquits_any a.d a.q (rHd a.R pa pb pc) a.st a.ix a.no a.an y.x.st y.x.ix J.a H.a J.n J.c H.n H.c V.heap.size y.x.xs y.x.ys V bE.out.1 bE.out.2 ((bx.out.up aH nl).more' aH.size) ((bC.out.up aH nl).more' aH.size) nl (by have h2:=bx.out.1;have h3:=a0.out.1;omega) (by have h2:=bC.out.1;have h3:=a0.out.2.1;omega) a0.out.2.2;rw [show aqB (rHd a.R pa pb pc) y.x.st y.x.ix y.x.xs y.x.ys=ab from aU] at h1;exact h1
             have bV:=lh aU;clear aU;refine rH (S:=(fun w'=>w'.heap[W3.heap.size]? =some (.cells (cA a.d a.q (rHd a.R pa pb pc) a.st a.ix a.no a.an) 50 (0,0))/\w'.heap[W7.heap.size]? =some (.cells (cPi y.x.st y.x.ix J.a J.n J.c H.a H.n H.c) 42 (0,0))/\w'.cell? ⟨b,Y+m*6,none⟩=some (.int .i64 T))) ya9 (by exact ⟨aB.out _ b7.out,bw.out _ aM.out,aT.out _ aM.out⟩) (fun a9=>?_)
             (iterate 7 refine tkA ?_)
             refine tkH (i:=7) (v:=_) (y:=(Or.inl ⟨by rfl,by (intro w hSw;(try dsimp only at hSw);obtain ⟨z0,z1,z2,z3,z4,z5⟩:=ybu hSw.1;have x0:=hSw.2.2;go_simp;try (with_reducible rfl))⟩)) (h:=?_)
             try simp only [pt]
             (iterate 2 refine tkA ?_)
             refine tkH (i:=10) (v:=_) (y:=(Or.inl ⟨by rfl,by (intro w hSw;(try dsimp only at hSw);obtain ⟨z0,z1,z2,z3,z4,z5⟩:=ybu hSw.1;have x0:=hSw.2.2;go_simp;try (with_reducible rfl))⟩)) (h:=?_)
             try simp only [pt]
             (iterate 5 refine tkA ?_)
             refine tkH (i:=16) (v:=_) (y:=(Or.inl ⟨by rfl,by (intro w hSw;(try dsimp only at hSw);obtain ⟨z0,z1,z2,z3,z4,z5⟩:=ybu hSw.1;have x0:=hSw.2.2;go_simp;try (with_reducible rfl))⟩)) (h:=?_)
             try simp only [pt]
             (iterate 5 refine tkA ?_)
             refine tkH (i:=22) (v:=_) (y:=(Or.inl ⟨by rfl,by (intro w hSw;(try dsimp only at hSw);obtain ⟨z0,z1,z2,z3,z4,z5⟩:=ybu hSw.1;have x0:=hSw.2.2;go_simp;try (with_reducible rfl))⟩)) (h:=?_)
             try simp only [pt]
             (iterate 3 refine tkA ?_)
             refine tkH (i:=26) (v:=_) (y:=(yieldsIf_load_mid (by rfl) 50 (.tmp 6) rfl W3.heap.size 0 (by rfl) (cA a.d a.q (rHd a.R pa pb pc) a.st a.ix a.no a.an).toList _ (fun _ h=>yc7 h.1) underlying50 rfl (sizeALR _ _ _ _ _ _ _))) (h:=?_)
             try simp only [pt]
             refine tkH (i:=27) (v:=_) (y:=(yieldsIf_load_mid (by rfl) 42 (.tmp 13) rfl W7.heap.size 0 (by rfl) (cPi y.x.st y.x.ix J.a J.n J.c H.a H.n H.c).toList _ (fun _ h=>rangeRow h.2.1) underlying42 rfl (sizePcL y.x.st y.x.ix J.a J.n J.c H.a H.n H.c))) (h:=?_)
             try simp only [pt]
             refine rd1 28 (fun K hK=>?_)
             (go_simp;go_at_call 16;(with_reducible refine (cE.out _ aM.out).mono ?_);rintro e W9 ⟨rfl,bf⟩;(have aZ:Hid (Below W8.heap.size W8 W9):=bt aM.out bf);(have a3:Hid (Below N.heap.size N W9):=bt ae.out aZ.out);clear bf;go_wp2_with fail)
             refine hK.out _ _ (by exact ⟨aB.out _ a3.out,bw.out _ aZ.out,aT.out _ aZ.out⟩) (fun b6=>?_);clear hK K a9
             try simp only [pt]
             refine tkY 29 ?_;refine wpAnyH_done ya9 ?_ _
             cases ab with
             |true=>
              have U:Hid (acqd a (l.take (m+1))=true):=acqd_yes ag.out (by rw [HY.out];exact g1) g2 (by rw [HY.out];exact g3) (by rw [HY.out];exact g4) (by rw [HY.out];exact bV.out);go_wp2_with fail;go_roundw;case rel=>exact ⟨m+1,by omega,by go_num,by rw [U.out];simp,a3⟩
              case measure=>simp [intOf];omega
             |false=>
              have U:=lh (acqd_no (a:=a) ag.out (fun g=>by have h:=g.2.2.2.2;rw [HY.out,bV.out] at h;cases h));go_wp2_with fail;go_roundw;case rel=>exact ⟨m+1,by omega,by go_num,by rw [U.out],a3⟩
              case measure=>simp [intOf];omega
            ·
             have U:=lh (acqd_no (a:=a) ag.out (fun g=>g4 (by have h:=g.2.2.2.1;rw [HY.out] at h;exact h)));have k4:(y.q==a.q)=false:=by simp [g4]
             have j4:decide (y.q=a.q)=false:=by simp [g4]
             go_quiet (fail)
             go_wp2_with fail
             go_roundw
             case rel=>exact ⟨m+1,by omega,by go_num,by rw [U.out],ybd ae.out _⟩
             case measure=>simp [intOf];omega
           ·
            have U:=lh (acqd_no (a:=a) ag.out (fun g=>g3 (by have h:=g.2.2.1;rw [HY.out] at h;exact h)));have k3:(y.d==a.d)=false:=by simp [g3]
            have j3:decide (y.d=a.d)=false:=by simp [g3]
            go_quiet (fail)
            go_wp2_with fail
            go_roundw
            case rel=>exact ⟨m+1,by omega,by go_num,by rw [U.out],ybd ae.out _⟩
            case measure=>simp [intOf];omega
          ·
           have U:=lh (acqd_no (a:=a) ag.out (fun g=>g2 g.2.1));have k2:(T==a.R.hd)=false:=by simp [g2]
           have j2:decide (T=a.R.hd)=false:=by simp [g2]
           go_quiet (fail)
           go_wp2_with fail
           go_roundw
           case rel=>exact ⟨m+1,by omega,by go_num,by rw [U.out],ybd ae.out _⟩
           case measure=>simp [intOf];omega
         ·
          have U:=lh (acqd_no (a:=a) ag.out (fun g=>g1 (by have h:=g.1;rw [HY.out] at h;exact h)));have k1:(y.er==0)=false:=by simp [g1]
          have j1:decide (y.er=0)=false:=by simp [g1]
          go_quiet (fail)
          go_wp2_with fail
          go_roundw
          case rel=>exact ⟨m+1,by omega,by go_num,by rw [U.out],ybd ae.out _⟩
          case measure=>simp [intOf];omega
        ·
         obtain rfl:m=l.length:=by omega
         have aV:¬(l.length:Int) < (l.length:Int):=by omega
         rw [List.take_length];have aR:=aF.out _ Z.out;have aj:opV x O vs G L a=(!db&& !acqd a l):=by rw [bH.out,bU.out,cw.out];rfl
         cases aQ:(!db&& !acqd a l) with
         |false=>
          rw [aQ] at aj;have ah:=lh (cg_er (op:=opV x O vs G L) HGE.out (fun g=>by have h1:=g.2;rw [HAE.out,aj] at h1;cases h1));have cg:=lh aR;clear aR aj aQ;go_wp2_with fail;go_roundw;case rel=>exact ⟨k+1,by omega,by go_num,by rw [ah.out];exact cg.out⟩
          case measure=>simp [intOf];omega
         |true=>
          rw [aQ] at aj
          have ah:Hid ((cgL (opV x O vs G L) (l.take (k+1))).map (·.1)=(cgL (opV x O vs G L) (l.take k)).map (·.1)++[a]):=by
           have h1:=cg_yes (op:=opV x O vs G L) HGE.out (by rw [HAE.out];exact cG.out) (by rw [HAE.out];exact aj);rw [HAE.out] at h1;exact h1
          obtain ⟨ax,h2,rs,aS,aW,aE⟩:=aR
          have cj:rs.length<=k:=by
           have h1:rs.length=((cgL (opV x O vs G L) (l.take k)).map (·.1)).length:=by rw [<-aE];simp
           rw [List.length_map] at h1;have h2:=ydO (opV x O vs G L) (l.take k);have h3:(l.take k).length<=k:=List.length_take_le _ _;omega
          have cC:Hid ((rs.length+1)*248<=140737488355328):=by show _<=_;omega
          have cp:Hid (rs.length+1<=maxLen):=by show _<=_;unfold maxLen;omega
          have aA:=lh aS;have cK:=lh aW;have cq:=lh aE;have b0:=lh h2;have cx:=lh ax;have bi:=lh (bu.out _ ax);have cH:=lh (yc7 (aB.out _ Z.out));have cc:Hid (ArO wr (w.heap.size+1) ⟨a,pa,pb,pc⟩):=RcO.low (bQ.out.on Z.out) ay.out;clear aS aW aE h2 ax cj aj aQ
          go_wp2_with (first
           |(with_reducible refine wpList_load_mid rfl 50 (.tmp 6) rfl W3.heap.size 0 rfl (cA a.d a.q (rHd a.R pa pb pc) a.st a.ix a.no a.an).toList _ cH.out underlying50 rfl (sizeALR _ _ _ _ _ _ _) ?_)
           |(with_reducible refine ybP (o:=⟨some 109,_,_,_,_,_⟩) rfl 62 (.tmp 108) rfl 50 i0 z0 20 underlying62 bM.out br.out bb.out bD.out om om (cA a.d a.q (rHd a.R pa pb pc) a.st a.ix a.no a.an) rfl rfl ?_)
           |((with_reducible refine ycb (o:=⟨some 110,_,_,_,_,_⟩) (f:=fAr) ycf om rfl (.tmp 107) (.tmp 109) 62 rfl 50 i0 z0 248 underlying62 bM.out br.out bb.out cF.out bD.out u3 rs (w.heap.size+1) rfl aA.out ⟨a,pa,pb,pc⟩ 1 rfl fAr_one cC.out cp.out bi.out ?_);intro v9 W9 cv aL cT))
          go_roundw
          case rel=>exact ⟨k+1,by omega,by go_num,OwnN.below aA.out cx.out nl bi.out aL.out,World.ownsRow.kept b0.out aL.out (ownNN_apart b0.out aA.out de),rs++[⟨a,pa,pb,pc⟩],cv.out,(fun r hr=>by
           rcases List.mem_append.1 hr with h |h
           ·exact ArO.grown (cK.out r h) aA.out aL.out de
           ·obtain rfl:r=⟨a,pa,pb,pc⟩:=by simpa using h
            exact ArO.grown cc.out aA.out aL.out de),by rw [ah.out,List.map_append,cq.out];rfl⟩
          case measure=>simp [intOf];omega
    |false=>
     have ah:=lh (cg_er (op:=opV x O vs G L) HGE.out (fun g=>by have h1:=g.2;rw [HAE.out,bH.out,bU.out] at h1;cases h1))
     go_wp2_with (first
      |(with_reducible refine ybN (op:=⟨some 36,_,_,_,_,_⟩) ya9 50 (.tmp 6) rfl W3.heap.size 0 rfl (cA a.d a.q (rHd a.R pa pb pc) a.st a.ix a.no a.an).toList _ bY.out underlying50 rfl (sizeALR _ _ _ _ _ _ _) ?_)
      |(go_at_call 13;(with_reducible refine bg.out.mono ?_);rintro e W5 ⟨rfl,az⟩;(have aX:=lh az);clear az))
     go_roundw
     case rel=>exact ⟨k+1,by omega,by go_num,by rw [ah.out];exact aF.out _ aX.out⟩
     case measure=>simp [intOf];omega
   ·
    have ah:=lh (cg_er (op:=opV x O vs G L) HGE.out (fun g=>by rw [HAE.out] at g;exact h0 g.1));have cO:(a.er==0)=false:=by simp [h0]
    have cV:(a.er != 0)=true:=by simp [h0]
    clear h0;go_wp2_with fail;go_roundw;case rel=>exact ⟨k+1,by omega,by go_num,by rw [ah.out];exact aF.out _ bR⟩
    case measure=>simp [intOf];omega
  ·obtain rfl:k=l.length:=by omega
   have b9:¬(l.length:Int) < (l.length:Int):=by omega
   rw [List.take_length] at HR;go_wp2_with fail;go_ret;obtain ⟨h1,h2,rs,h3,h4,h5⟩:=HR.out;refine ⟨_,rfl,HBW.out _ h1,rs,World.ownsRow.mono h3 (Nat.le_succ _),fun r hr=>RcO.low (h4 r hr) (Nat.le_succ _),?_⟩;rw [h5];unfold opnV;rw [ck.out]
