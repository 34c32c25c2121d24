import Derived.Test.YtpdledjgbgalcaaGreatDoorT7
import Derived.Test.YtpdledjgbgalcaaGreatDoorPu
namespace Go.Proofs.YtpdledjgbgalcaaGreatDoor
set_option maxRecDepth 100000
set_option maxHeartbeats 16000000
open Go.RowKit Go.Lib Go.Proofs.Tryz
set_option linter.unusedVariables false
set_option linter.unusedSimpArgs false
theorem Tryz.sizeBs:(prog.info? 40).map (·.size)=some 1:=by kernel_rfl
theorem wpList_conv_sb2 {w:World} {ops:Array Oper} {G:List Oper} {o:Oper} {a:Act} {Q:Exit->Act->World->Prop} (H:o.guard=none) (x:Operand) (L:o.op= .convert 9 40 x) (s:ByteArray) (J:a.eval x= .string s)
 (h:∀c W,Hid (Sl fB W W.heap.size (some ⟨w.heap.size,0,none⟩) s.size (sB s))->Hid (s.size<=c)->Hid (Below w.heap.size w W)->wpList prog ops Q G (a.put o.dst (.slice (some ⟨w.heap.size,0,none⟩) s.size c)) W):wpList prog ops Q (o::G) a w:=by
 refine wpList_plain H fun _ K=>?_;unfold Oper.wp execOp;simp only [L,J,Sem.run_bind,run_bytes_of_string (P:=prog) w 9 40 5 s underlying9 underlying40 underlying5,Result.andThen_ok];refine K _ _ (h _ _ (sl_bytesRow (zy w.drew _) sI) (grownCap_ge w s.size 0 _) ?_);exact (Below.drew bR).alloc nl _
def rz1 (bs:List Int):Int × RS:=rI2 bs (0,0)
def rz2 (bs:List Int):Int × RS:=rI2 bs (rz1 bs).2
def rz3 (bs:List Int):ByteArray × RS:=rS bs (rz2 bs).2
def rz4 (bs:List Int):Int × RS:=rI2 bs (rz3 bs).2
def rz5 (bs:List Int):ByteArray × RS:=rT bs 65536 (rz4 bs).2
def rz6 (bs:List Int):List ByteArray × RS:=rL bs 16 (rz5 bs).2
def okZ (bs:List Int):Bool:=decide (rEnd bs (rz6 bs).2=0)&&(numB (rz1 bs).1 (rz2 bs).1&&shL (rz3 bs).1 (rz4 bs).1 (sB (rz5 bs).1) (rz6 bs).1)
def RQPost (bs:List Int) (w:World) (e:Ending) (w':World):Prop:=
 (okZ bs=true/\∃p:Pc,p.s=(rz3 bs).1/\p.ix=(rz4 bs).1/\e= .returned (.tuple #[.int .i64 (rz1 bs).1,.int .i64 (rz2 bs).1,.agg (cPc p),.int .i64 0])/\PcIn w' w'.heap.size p (sB (rz5 bs).1) (rz6 bs).1/\Below w.heap.size w w')
 ∨(okZ bs=false/\e= .returned (.tuple #[.int .i64 0,.int .i64 0,.agg zPc,.int .i64 3])/\Below w.heap.size w w')
theorem Sl.butq {f:Int->Value} {w G:World} {p:Nat->Prop} {b n:Nat} {xs:List Int} (h:Sl f w w.heap.size (some ⟨b,0,none⟩) n xs) (H:But p w G) (hp:¬p b):Sl f G G.heap.size (some ⟨b,0,none⟩) n xs:=
 ⟨h.1,fun hn=>by
   obtain ⟨L,K,e,hlt,J⟩:=h.2 hn;cases e
   exact ⟨_,_,rfl,Nat.lt_of_lt_of_le hlt H.size,J.keep (H.block _ hlt hp)⟩⟩
theorem range4 {w:World} {b:Nat} {t:TypeId} {p:Pc} (h:w.heap[b]? =some (.cells (cPc p) t (0,0))):w.rangeAt b 0 (cPc p).toList:=fun j v G=>by
 rw [Nat.zero_add,cell_of_row w b j _ _ _ h,<-Array.getElem?_toList];exact G
theorem size4L (p:Pc):(prog.info? 42).map (·.size)=some (cPc p).toList.length:=Tryz.sizePiece
theorem racq_no (dv sq k dy:Int) (pr:ByteArray) (A:Option Addr) (n c:Nat) (w:World) (K:k≠7):
 Calls prog 57 #[.agg #[.int .i64 dv,.int .i64 sq,.int .i64 k,.int .i64 dy,.slice A n c,.string pr]] w fun e J=>e= .returned (.tuple #[.int .i64 0,.int .i64 0,.agg zPc,.int .i64 1])/\Below w.heap.size w J:=by
 have L:(k != 7)=true:=by simp [K]
 obtain ⟨H,G⟩:∃H:World,H=(w.alloc (.cells #[.int .i64 dv,.int .i64 sq,.int .i64 k,.int .i64 dy,.slice A n c,.string pr] 55)).alloc (.cells zPc 42):=⟨_,rfl⟩
 have HB1:Hid (Below w.heap.size w H):=by show Below _ _ _;rw [G];exact bl.alloc sI _
 have HG3:Hid (H.heap[w.heap.size+1]? =some (.cells zPc 42 (0,0))):=by
  show _=_;rw [G];have:=zy (w.alloc (.cells #[.int .i64 dv,.int .i64 sq,.int .i64 k,.int .i64 dy,.slice A n c,.string pr] 55)) (.cells zPc 42);simpa using this
 have HWE:=lh G;clear G;go_enter func57,ntmps57
 go_wp2_with (first
  |((with_reducible refine ybc (o:=⟨none,_,_,_,_,_⟩) rfl 42 (.tmp 4) (.tmp 15) rfl (w.heap.size+1) 42 zPc zPc rfl rfl ya0 yb1 rfl ya9 ?_);intro M HG7 HB7))
 rw [<-HWE.out] at HB7;refine bodyPost_ret (ybE rfl _ _ _ _ _ _ _ rfl HG7.out underlying42 rfl yb1) rfl ⟨rfl,HB1.out.trans (HB7.out.below HB1.out.size (fun i hi=>by subst hi;omega))⟩
theorem racq_any (dv sq dy:Int) (pr:ByteArray) (A:Option Addr) (n c B:Nat) (bs:List Int) (w:World) (hx:Sl fB w B A n bs) (hB:B<=w.heap.size) (N:RK bs n c):
 Calls prog 57 #[.agg #[.int .i64 dv,.int .i64 sq,.int .i64 7,.int .i64 dy,.slice A n c,.string pr]] w (RQPost bs w):=by
 have hl:bs.length=n:=hx.1;have aF:(0,(0:Int)).1<=n:=Nat.zero_le _;have aV:(rz1 bs).2.1<=n:=ycB hl aF;have aA:(rz2 bs).2.1<=n:=ycB hl aV;have aH:(rz3 bs).2.1<=n:=rS_le hl aA;have aC:(rz4 bs).2.1<=n:=ycB hl aH;have aW:(rz5 bs).2.1<=n:=rT_le hl aC;have bf:(rz6 bs).2.1<=n:=rL_le hl aW;obtain ⟨H,Z⟩:∃H:World,H=(w.alloc (.cells #[.int .i64 dv,.int .i64 sq,.int .i64 7,.int .i64 dy,.slice A n c,.string pr] 55)).alloc (.cells zPc 42):=⟨_,rfl⟩
 have bk:Below w.heap.size w H:=by rw [Z];exact bl.alloc sI _
 have bc:H.heap.size=w.heap.size+1+1:=by rw [Z];simp
 have aY:H.heap[w.heap.size]? =some (.cells #[.int .i64 dv,.int .i64 sq,.int .i64 7,.int .i64 dy,.slice A n c,.string pr] 55 (0,0)):=by rw [Z,Below.heap_alloc _ _ _ sI];exact zy w _
 have aQ:H.heap[w.heap.size+1]? =some (.cells zPc 42 (0,0)):=by
  rw [Z];have:=zy (w.alloc (.cells #[.int .i64 dv,.int .i64 sq,.int .i64 7,.int .i64 dy,.slice A n c,.string pr] 55)) (.cells zPc 42);simpa using this
 obtain ⟨W2,ah⟩:∃W2:World,W2=H.alloc (.cells #[.slice A n c,.int .i64 0,.int .i64 0,.int .i64 0] 184):=⟨_,rfl⟩
 have aG:Below H.heap.size H W2:=by rw [ah];exact bl
 have aX:Below w.heap.size w W2:=bt bk aG;obtain ⟨g,ax⟩:∃g,g=H.heap.size:=⟨_,rfl⟩
 have ba:g=w.heap.size+1+1:=ax.trans bc;have bm:W2.heap[g]? =some (.cells #[.slice A n c,.int .i64 0,.int .i64 0,.int .i64 0] 184 (0,0)):=by rw [ah,ax];exact zy H _
 have a7:RfS g A n c bs (0,0) W2:=⟨⟨0,bm⟩,(hx.up aX hB).more' om⟩
 have HA:Hid (∀a,A=some a->0 < n->a.block < w.heap.size):=fun a ha h0=>by
  obtain ⟨b,bD,e,hlt,_⟩:=hx.2 om;rw [ha] at e;cases e
  exact Nat.lt_of_lt_of_le hlt hB
 have k4:H.cell? ⟨w.heap.size,4,none⟩=some (.slice A n c):=by rw [cell_of_row H _ _ _ _ _ aY];rfl
 have k2:H.cell? ⟨w.heap.size,2,none⟩=some (.int .i64 7):=by rw [cell_of_row H _ _ _ _ _ aY];rfl
 have af:Hid (W2.heap[w.heap.size+1]? =some (.cells zPc 42 (0,0))):=(aG.block _ (lb aQ)).trans aQ;have HGE:=lh ba;have bg:=lh ax;have a6:=lh a7;have aD:=lh aX;have HWE:=lh Z;have aN:=lh ah;have H1:Hid (∀V,RfS g A n c bs (0,0) V->Calls prog 113 #[.pointer (some ⟨g,0,none⟩)] V (ybB g A n c bs (.int .i64 (rz1 bs).1) (rz1 bs).2 V)):=fun V h=>ybS g A n c bs _ V h N aF;have H2:Hid (∀V,RfS g A n c bs (rz1 bs).2 V->Calls prog 113 #[.pointer (some ⟨g,0,none⟩)] V (ybB g A n c bs (.int .i64 (rz2 bs).1) (rz2 bs).2 V)):=fun V h=>ybS g A n c bs _ V h N aV;have H3:Hid (∀V,RfS g A n c bs (rz2 bs).2 V->Calls prog 112 #[.pointer (some ⟨g,0,none⟩),.int .i64 6,.int .i64 0] V (ybB g A n c bs (.agg (rv 6 0 0 (rz3 bs).1 0)) (rz3 bs).2 V)):=fun V h=>yde g A n c bs _ V h N aA;have H4:Hid (∀V,RfS g A n c bs (rz3 bs).2 V->Calls prog 113 #[.pointer (some ⟨g,0,none⟩)] V (ybB g A n c bs (.int .i64 (rz4 bs).1) (rz4 bs).2 V)):=fun V h=>ybS g A n c bs _ V h N aH;have H5:Hid (∀V,RfS g A n c bs (rz4 bs).2 V->Calls prog 112 #[.pointer (some ⟨g,0,none⟩),.int .i64 4,.int .i64 65536] V (ybB g A n c bs (.agg (rv 4 0 0 (rz5 bs).1 65536)) (rz5 bs).2 V)):=fun V h=>rft_any g A n c bs _ V h N aC 65536 de;have H6:Hid (∀V,RfS g A n c bs (rz5 bs).2 V->Calls prog 115 #[.pointer (some ⟨g,0,none⟩),.int .i64 16] V (RfLPost g A n c bs (rz6 bs) V)):=fun V h=>rsl_any g A n c bs _ 16 de V h N aW;have az:Hid (∀V,RfS g A n c bs (rz6 bs).2 V->Calls prog 114 #[.pointer (some ⟨g,0,none⟩)] V fun e w'=>e= .returned (.tuple #[.int .i64 (rz6 bs).2.1,.int .i64 (rEnd bs (rz6 bs).2)])/\Below V.heap.size V w'):=fun V h=>ydM g A n c bs _ V h N.2.1 bf;have M:Hid (okZ bs=(decide (rEnd bs (rz6 bs).2=0)&&(numB (rz1 bs).1 (rz2 bs).1&&shL (rz3 bs).1 (rz4 bs).1 (sB (rz5 bs).1) (rz6 bs).1))):=rfl;have aR:Hid (rEnd bs (rz6 bs).2=0->(rz6 bs).2.2=0):=fun h=>(yct.1 h).1;have a3:Hid ((rz6 bs).1.length<=1000000):=rL_len de;unfold RQPost;generalize rz1 bs=R1 at*;generalize rz2 bs=R2 at*;generalize rz3 bs=R3 at*;generalize rz4 bs=R4 at*;generalize rz5 bs=R5 at*;generalize rz6 bs=R6 at*;obtain ⟨z1,s1⟩:=R1;obtain ⟨z2,s2⟩:=R2;obtain ⟨st,s3⟩:=R3;obtain ⟨ix,s4⟩:=R4;obtain ⟨bd,s5⟩:=R5;obtain ⟨qs,s6⟩:=R6;dsimp only at H1 H2 H3 H4 H5 H6 az M aR a3 ⊢;obtain ⟨er,a2⟩:=gx (rEnd bs s6);rw [a2] at az M aR;have bv:=fun V=>fld4 6 0 0 st 0 V;have bp:=fun V=>fld4 4 0 0 bd 65536 V;clear a2 hx hB hl N aF aV aA aH aC aW bf bk bc aY aQ Z ah aG aX ba ax bm a7;go_enter func57,ntmps57;go_upto_region 3 with fail
 rw [<-HWE.out];go_upto_region 4 with fail
 rw [<-aN.out,<-bg.out];clear k4 k2
 go_upto_region 6 with (first
  |(go_at_call 113;(with_reducible refine (H1.out _ a6.out).mono ?_);rintro e V3 ⟨rfl,r,G⟩;(have R3:=lh r);(have B3:=lh G);clear r G)
  |(go_at_call 113;(with_reducible refine (H2.out _ R3.out).mono ?_);rintro e V4 ⟨rfl,r,G⟩;(have R4:=lh r);(have B4:=lh (B3.out.trans G (fun i hi=> .inl hi)));clear r G)
  |(go_at_call 112;(with_reducible refine (H3.out _ R4.out).mono ?_);rintro e V5 ⟨rfl,r,G⟩;(have R5:=lh r);(have B5:=lh (B4.out.trans G (fun i hi=> .inl hi)));clear r G)
  |(go_at_call 113;(with_reducible refine (H4.out _ R5.out).mono ?_);rintro e V6 ⟨rfl,r,G⟩;(have R6:=lh r);(have B6:=lh (B5.out.trans G (fun i hi=> .inl hi)));clear r G))
 obtain ⟨a,ha⟩:∃a,a=V6.heap.size:=⟨_,rfl⟩
 obtain ⟨W,aw⟩:∃W:World,W=V6.alloc (.cells #[.string st,.int .i64 ix,.slice none 0 0,.slice none 0 0] 42):=⟨_,rfl⟩
 have aj:Below V6.heap.size V6 W:=by rw [aw];exact bl
 have ac:W.heap[a]? =some (.cells #[.string st,.int .i64 ix,.slice none 0 0,.slice none 0 0] 42 (0,0)):=by rw [aw,ha];exact zy V6 _
 have a8:g < a:=by rw [ha];exact R6.out.lt
 have D7:Hid (DF 42 W W g A n c bs s4 a #[.string st,.int .i64 ix,.slice none 0 0,.slice none 0 0]):=⟨R6.out.on aj,ac,But.refl _ _,by omega,fun h0 x hx e=>by have:=HA.out x hx h0;have:=HGE.out;omega⟩
 have HB7:Hid (Below w.heap.size w W):=by
  have h1:Below w.heap.size w V6:=aD.out.trans (B6.out.below aD.out.size (fun i hi=>by subst hi;have:=HGE.out;omega));exact bt h1 aj
 have ag:Hid (W.heap[w.heap.size+1]? =some (.cells zPc 42 (0,0))):=by
  have h2:=(B6.out.block _ (lb af.out) (by have:=HGE.out;omega)).trans af.out;exact (aj.block _ (lb h2)).trans h2
 have z:=lh a8;rw [<-aw,<-ha];clear ha aw aj ac a8 R3 R4 R5 R6 B3 B4 B5 B6 H1 H2 H3 H4 bv a6 aD af HWE aN bg
 go_upto_region 9 with (first
  |(go_at_call 112;(with_reducible refine (H5.out _ D7.out.rd).mono ?_);rintro e V8 ⟨rfl,r,G⟩;(have D8:=lh (D7.out.read r G));clear r G D7)
  |((with_reducible refine wpList_conv_sb2 (o:=⟨some 34,_,_,_,_,_⟩) rfl (.tmp 33) rfl bd rfl ?_);intro cb V9 aO bh a4;(obtain ⟨J,aS⟩:∃J,J=V8.heap.size:=⟨_,rfl⟩);(rw [<-aS] at aO ⊢);(have ap:Hid (a < J):=(by show _ < _;rw [aS];exact lb D8.out.pc));(have D9:=lh (D8.out.keep a4.out));(have a9:Hid (Sl fB V9 V9.heap.size (some ⟨J,0,none⟩) bd.size (sB bd)):=aO);(have bj:Hid (bd.size<=cb):=bh);clear aO bh a4 aS D8)
  |((with_reducible refine ybf (o:=⟨none,_,_,_,_,_⟩) rfl 40 (.tmp 35) (.tmp 34) rfl a 42 2 #[.string st,.int .i64 ix,.slice none 0 0,.slice none 0 0] (.slice (some ⟨J,0,none⟩) bd.size cb) ya9 rfl D9.out.pc (lt_rf de) Tryz.sizeBs ya9 ?_);intro aZ hg hb;(have aJ:Hid (Sl fB aZ aZ.heap.size (some ⟨J,0,none⟩) bd.size (sB bd)):=a9.out.butq hb.out (fun e=>by have:=ap.out;omega));(have au:Hid (DF 42 W aZ g A n c bs s5 a #[.string st,.int .i64 ix,.slice (some ⟨J,0,none⟩) bd.size cb,.slice none 0 0]):=D9.out.set hg.out hb.out);clear hg hb D9 a9)
  |(go_at_call 115;(with_reducible refine (H6.out _ au.out.rd).mono ?_);rintro e aB ⟨Aq,nq,cq,U,rfl,ho,hy,r,G⟩;(have aP:Hid (Sl fB aB aB.heap.size (some ⟨J,0,none⟩) bd.size (sB bd)):=aJ.out.butq G (fun e=>by have:=ap.out;have:=z.out;omega));(have aI:=lh (au.out.read r G));(have aE:Hid (Own fT 9 aB (a+1) (.slice Aq nq cq) U):=World.ownsRow.mono ho (lb au.out.pc));(have bx:=lh hy);clear ho hy r G au aJ)
  |((with_reducible refine ybf (o:=⟨none,_,_,_,_,_⟩) rfl 24 (.tmp 38) (.tmp 37) rfl a 42 3 #[.string st,.int .i64 ix,.slice (some ⟨J,0,none⟩) bd.size cb,.slice none 0 0] (.slice Aq nq cq) ya9 rfl aI.out.pc (lt_rf de) Tryz.sizeLs ya9 ?_);intro ak hg hb;(have aL:Hid (Sl fB ak ak.heap.size (some ⟨J,0,none⟩) bd.size (sB bd)):=aP.out.butq hb.out (fun e=>by have:=ap.out;omega));(have aU:Hid (Own fT 9 ak (a+1) (.slice Aq nq cq) U):=aE.out.butG hb.out (fun k N e=>by have h1:=(ol aE.out k N).1;omega));(have aT:Hid (DF 42 W ak g A n c bs s6 a #[.string st,.int .i64 ix,.slice (some ⟨J,0,none⟩) bd.size cb,.slice Aq nq cq]):=aI.out.set hg.out hb.out);clear hg hb aI aP aE)
  |(go_at_call 114;(with_reducible refine (az.out _ aT.out.rd).mono ?_);rintro e VE ⟨rfl,G⟩;(have a5:=lh ((aL.out.up G nl).more' G.size));(have ay:=lh (aU.out.on G));(have DE:=lh (aT.out.keep G));clear G aT aL aU))
 obtain ⟨p,hp⟩:∃p:Pc,p=⟨st,ix,⟨some ⟨J,0,none⟩,bd.size,cb⟩,⟨Aq,nq,cq⟩⟩:=⟨_,rfl⟩
 have Y:Hid (VE.heap[a]? =some (.cells (cPc p) 42 (0,0))):=by show _=_;rw [hp];exact DE.out.pc
 have aa:Hid (VE.heap[w.heap.size+1]? =some (.cells zPc 42 (0,0))):=(DE.out.but.block _ (lb ag.out) (by have:=HGE.out;have:=z.out;omega)).trans ag.out;have L:Hid (Below w.heap.size w VE):=HB7.out.trans (DE.out.but.below HB7.out.size (fun i hi=>by have:=HGE.out;have:=z.out;rcases hi with rfl |rfl<;>omega))
 have am:nq<=cq/\U.length=nq:=by
  obtain ⟨A',c',hv,h1,_,_⟩:=ay.out.shape;injection hv with e1 e2 e3;subst e3;exact ⟨by omega,e2.symm⟩
 have bi:Hid (PcIn VE VE.heap.size p (sB bd) U):=by show PcIn _ _ _ _ _;rw [hp];exact ⟨a5.out,ay.out.slH,bj.out,am.1⟩
 have bz:Hid (p.d=⟨some ⟨J,0,none⟩,bd.size,cb⟩/\p.q=⟨Aq,nq,cq⟩):=by rw [hp];exact ⟨rfl,rfl⟩
 have bu:Hid (nq<=cq):=am.1;have ar:Hid (p.s=st/\p.ix=ix):=by rw [hp];exact ⟨rfl,rfl⟩
 have br:Hid (p.q.n=U.length):=by show _=_;rw [hp];exact am.2.symm
 have aK:Hid (shB p U=shL st ix (sB bd) U):=by show _=_;rw [shL_eq bi.out,ar.out.1,ar.out.2]
 have bw:Hid (a≠w.heap.size+1):=by show _≠_;have:=HGE.out;have:=z.out;omega
 have ai:=lh (fun V=>entry_any z1 z2 V);obtain ⟨nb,be⟩:=gx (numB z1 z2);rw [be] at ai M;clear be hp am DE HB7 ag H5 H6 az bp
 by_cases aq:er=0
 ·have bn:(er != 0)=false:=by simp [aq]
  have bA:U=qs:=bx.out (aR.out aq);subst bA
  cases nb with
  |false=>
   go_wp2_with (first
    |(go_at_call 44;(with_reducible refine (ai.out _).mono ?_);rintro e VN ⟨rfl,rfl⟩)
    |((with_reducible refine ybc (o:=⟨none,_,_,_,_,_⟩) rfl 42 (.tmp 4) (.tmp 57) rfl (w.heap.size+1) 42 zPc zPc rfl rfl aa.out yb1 rfl ya9 ?_);intro T HG7 HB7))
   have O:Below w.heap.size w T:=L.out.trans (HB7.out.below L.out.size (fun i hi=>by subst hi;omega));refine bodyPost_ret (ybE rfl _ _ _ _ _ _ _ rfl HG7.out underlying42 rfl yb1) rfl (.inr ⟨by rw [M.out];simp_all,rfl,O⟩)
  |true=>
   have ao:=lh (shaped_any p (sB bd) U VE.heap.size VE bi.out nl (by rw [br.out];exact a3.out));rw [aK.out] at ao;obtain ⟨sh,a1⟩:=gx (shL st ix (sB bd) U);rw [a1] at ao M;clear a1 aK
   cases sh with
   |false=>
    go_wp2_with (first
     |(go_at_call 44;(with_reducible refine (ai.out _).mono ?_);rintro e VN ⟨rfl,rfl⟩)
     |(with_reducible refine ybH (op:=⟨some 53,_,_,_,_,_⟩) ya9 42 (.tmp 9) ya9 a 0 ya9 (cPc p).toList _ (range4 Y.out) underlying42 rfl (size4L p) ?_)
     |(go_at_call 116;(with_reducible refine ao.out.mono ?_);rintro e VT ⟨rfl,G⟩;(have aM:=lh ((G.block _ (lb aa.out)).trans aa.out));(have ae:=lh ((G.block _ (lb Y.out)).trans Y.out));(have BT:=lh G);clear G)
     |((with_reducible refine ybc (o:=⟨none,_,_,_,_,_⟩) rfl 42 (.tmp 4) (.tmp 57) rfl (w.heap.size+1) 42 zPc zPc rfl rfl aM.out yb1 rfl ya9 ?_);intro T HG7 HB7))
    have O:Below w.heap.size w T:=(bt L.out BT.out).trans (HB7.out.below (lT L.out.size BT.out.size) (fun i hi=>by subst hi;omega));refine bodyPost_ret (ybE rfl _ _ _ _ _ _ _ rfl HG7.out underlying42 rfl yb1) rfl (.inr ⟨by rw [M.out];simp_all,rfl,O⟩)
   |true=>
    go_upto_region 11 with (first
     |(go_at_call 44;(with_reducible refine (ai.out _).mono ?_);rintro e VN ⟨rfl,rfl⟩)
     |(with_reducible refine ybH (op:=⟨some 53,_,_,_,_,_⟩) ya9 42 (.tmp 9) ya9 a 0 ya9 (cPc p).toList _ (range4 Y.out) underlying42 rfl (size4L p) ?_)
     |(go_at_call 116;(with_reducible refine ao.out.mono ?_);rintro e VT ⟨rfl,G⟩;(have aM:=lh ((G.block _ (lb aa.out)).trans aa.out));(have ae:=lh ((G.block _ (lb Y.out)).trans Y.out));(have BT:=lh G);clear G))
    refine rH (S:=(fun w'=>w'.heap[a]? =some (.cells (cPc p) 42 (0,0)))) ya9 (by first |exact HG7.out.2 |exact ae.out) (fun a0=>?_)
    (iterate 2 refine tkA ?_)
    refine tkH (i:=2) (v:=_) (y:=(yieldsIf_load_mid (by rfl) 42 (.tmp 9) rfl a 0 (by rfl) (cPc p).toList _ (fun _ h=>range4 h) underlying42 rfl (size4L p))) (h:=?_)
    try simp only [pt]
    (iterate 2 refine tkA ?_)
    refine rd1 5 (fun K hK=>?_)
    (refine ybn rfl 42 (.tmp 4) (.tmp 60) rfl (w.heap.size+1) 42 zPc (cPc p) ya9 ya9 aM.out (yd9 p) rfl (pc4_one p) ?_);intro T ac HB7;(have HG7:Hid (T.heap[w.heap.size+1]? =some (.cells (cPc p) 42 (0,0))/\T.heap[a]? =some (.cells (cPc p) 42 (0,0))):=⟨ac.out,(HB7.out.block a (lb ae.out) bw.out).trans ae.out⟩);clear ac
    refine hK.out _ _ (by first |exact HG7.out.2 |exact ae.out) (fun bo=>?_);clear hK K a0
    try simp only [pt]
    refine tkY 6 ?_;refine wpAnyH_done ya9 ?_ _;go_wp2_with fail;have HBW:But (fun k=>k=w.heap.size+1) VT T:=⟨HB7.out.os,HB7.out.tape,HB7.out.output,HB7.out.size,HB7.out.block⟩;have O:Below w.heap.size w T:=(bt L.out BT.out).trans (HBW.below (lT L.out.size BT.out.size) (fun i hi=>by subst hi;omega));refine bodyPost_ret (ybE rfl _ _ _ _ _ _ _ rfl HG7.out.1 underlying42 rfl (yd9 p)) rfl (.inl ⟨by rw [M.out];simp [aq],p,ar.out.1,ar.out.2,rfl,?_,O⟩);have bB:=((a5.out.up BT.out nl).more' BT.out.size).butq HBW (fun e=>by have:=ap.out;have:=z.out;have:=HGE.out;omega);have bC:=(ay.out.on BT.out).butG HBW (fun k N e=>by have h1:=(ol ay.out k N).1;have:=z.out;have:=HGE.out;omega);obtain ⟨q1,q2⟩:=bz.out;show PcIn _ _ _ _ _;unfold PcIn;rw [q1,q2];exact ⟨bB,bC.slH,bj.out,bu.out⟩
 ·have bn:(er != 0)=true:=by simp [aq]
  go_wp2_with (first
   |((with_reducible refine ybc (o:=⟨none,_,_,_,_,_⟩) rfl 42 (.tmp 4) (.tmp 57) rfl (w.heap.size+1) 42 zPc zPc rfl rfl aa.out yb1 rfl ya9 ?_);intro T HG7 HB7))
  have O:Below w.heap.size w T:=L.out.trans (HB7.out.below L.out.size (fun i hi=>by subst hi;omega));refine bodyPost_ret (ybE rfl _ _ _ _ _ _ _ rfl HG7.out underlying42 rfl yb1) rfl (.inr ⟨by rw [M.out];simp_all,rfl,O⟩)
section
variable {bs:List Int} {s:RS}
theorem rU_both (h:(rU bs s).2.2=0):s.2=0/\(rU bs s).2.2=0:=⟨(rV_ok (show (rV s 0 (numF bs 10 0 0 s.1)).2.2=0 from h)).1,h⟩
theorem rN_ok {a m:Nat} (h:(rN a m bs s).2.2=0):s.2=0/\((a:Int)<=(rU bs s).1/\(rU bs s).1<=(m:Int))/\rN a m bs s=rU bs s:=by
 unfold rN at h ⊢
 by_cases h1:s.2=0/\(rU bs s).2.2=0
 ·rw [if_pos h1] at h ⊢
  by_cases h2:(a:Int)<=(rU bs s).1/\(rU bs s).1<=(m:Int)
  ·rw [if_pos h2];exact ⟨h1.1,h2,rfl⟩
  ·rw [if_neg h2] at h;exact absurd h (by decide:¬(3:Int)=0)
 ·rw [if_neg h1] at h;exact absurd h (rU_bad h1).2
theorem l1 {a m:Nat} (hm:m<=1099511627776) (h:(rN a m bs s).2.2=0):rI2 bs s=rN a m bs s:=by
 obtain ⟨_,h2,h3⟩:=rN_ok h;rw [h3];unfold rI2;rw [if_neg om]
theorem l2 {a m:Nat} (G:m<=1099511627776) (h0:(rI2 bs s).2.2=0) (h:(a:Int)<=(rI2 bs s).1/\(rI2 bs s).1<=(m:Int)):rI2 bs s=rN a m bs s:=by
 have h1:=rU_both (show (rU bs s).2.2=0 from h0);unfold rI2 at h ⊢;unfold rN;rw [if_pos h1]
 by_cases h2:(1099511627776:Int) < (rU bs s).1
 ·rw [if_pos h2] at h;exact absurd h.1 (by simp only;omega)
 ·rw [if_neg h2] at h ⊢;simp only at h;rw [if_pos h]
theorem ycD {a m:Nat} (h:(rN a m bs s).2.2=0):s.2=0:=(rN_ok h).1
theorem yco (h:(rS bs s).2.2=0):s.2=0:=(rV_ok (show (rV s baNo (tkF bs 32 s.1)).2.2=0 from h)).1
theorem rT_ok0 {m:Nat} (h:(rT bs m s).2.2=0):s.2=0:=(rV_ok (show (rV s baNo (blkF bs m s.1)).2.2=0 from h)).1
theorem rY_ok0 {m:Nat} (h:(rY bs m s).2.2=0):s.2=0:=(rV_ok (show (rV s [] (blkL bs m s.1)).2.2=0 from h)).1
theorem rT_rY {m:Nat}:rT bs m s=(baOf (rY bs m s).1,(rY bs m s).2):=by
 unfold rT rY rV blkF
 split
 ·split<;>rfl
 ·rfl
theorem sB_rT (hb:∀b∈bs,0<=b/\b < 256) {m:Nat}:sB (rT bs m s).1=(rY bs m s).1:=by
 rw [rT_rY];exact ybC (rY_rng hb)
end
def EqX (bs:List Int):Prop:=rx1 bs=rc1 bs/\rx2 bs=rc2 bs/\rx3 bs=rc3 bs/\rx4 bs=ri1 bs/\rx5 bs=ri2 bs/\rx6 bs=ri3 bs/\rx7 bs=ri4 bs/\rx8 bs=ri5 bs/\rx9 bs=ri6 bs/\rxA bs=rc5 bs/\rxB bs=rc7 bs/\rxC bs=rc8 bs/\rxD bs=rc9 bs/\rxE bs=rcA bs
theorem eqx_of_prog {bs:List Int} (h:(rcA bs).2.2=0):EqX bs:=by
 have z:(rc9 bs).2.2=0:=rL_ok h;have H:(rc8 bs).2.2=0:=rL_ok z;have ac:(rc7 bs).2.2=0:=ycD H;have h9:(rc5 bs).2.2=0:=yco ac;have Z:(ri6 bs).2.2=0:=rL_ok h9;have h7:(ri5 bs).2.2=0:=ycD Z;have h6:(ri4 bs).2.2=0:=ycD h7;have h5:(ri3 bs).2.2=0:=ycD h6;have L:(ri2 bs).2.2=0:=ycD h5;have O:(ri1 bs).2.2=0:=ycD L;have h2:(rc3 bs).2.2=0:=ycD O;have h1:(rc2 bs).2.2=0:=yco h2;have h0:(rc1 bs).2.2=0:=ycD h1;have e0:rx1 bs=rc1 bs:=l1 de h0;have N:rx2 bs=rc2 bs:=by unfold rx2;rw [e0];exact l1 de h1
 have W:rx3 bs=rc3 bs:=by unfold rx3;rw [N];rfl
 have M:rx4 bs=ri1 bs:=by unfold rx4;rw [W];exact l1 de O
 have U:rx5 bs=ri2 bs:=by unfold rx5;rw [M];exact l1 de L
 have e5:rx6 bs=ri3 bs:=by unfold rx6;rw [U];exact l1 de h5
 have Y:rx7 bs=ri4 bs:=by unfold rx7;rw [e5];exact l1 de h6
 have e7:rx8 bs=ri5 bs:=by unfold rx8;rw [Y];exact l1 de h7
 have e8:rx9 bs=ri6 bs:=by unfold rx9;rw [e7];exact l1 de Z
 have T:rxA bs=rc5 bs:=by unfold rxA;rw [e8];rfl
 have K:rxB bs=rc7 bs:=by unfold rxB;rw [T];rfl
 have J:rxC bs=rc8 bs:=by unfold rxC;rw [K];exact l1 de H
 have G:rxD bs=rc9 bs:=by unfold rxD;rw [J];rfl
 have aa:rxE bs=rcA bs:=by unfold rxE;rw [G];rfl
 exact ⟨e0,N,W,M,U,e5,Y,e7,e8,T,K,J,G,aa⟩
theorem eqx_of_ref {bs:List Int} (h:(rxE bs).2.2=0) (hv:vaB (rxV bs ⟨none,0,0⟩ ⟨none,0,0⟩ ⟨none,0,0⟩) (rxA bs).1 (rxD bs).1 (rxE bs).1=true):EqX bs:=by
 obtain ⟨G,M,f3,f4,W,f6,f7,T,f9,_,_,_,_,fC⟩:=yb2 hv;unfold rxV at G M f4 W f6 f7 T f9 fC;dsimp only at G M f4 W f6 f7 T f9 fC;have aa:(rxD bs).2.2=0:=rL_ok h;have J:(rxC bs).2.2=0:=rL_ok aa;have ae:(rxB bs).2.2=0:=ycC J;have h9:(rxA bs).2.2=0:=yco ae;have h8:(rx9 bs).2.2=0:=rL_ok h9;have h7:(rx8 bs).2.2=0:=ycC h8;have h6:(rx7 bs).2.2=0:=ycC h7;have h5:(rx6 bs).2.2=0:=ycC h6;have N:(rx5 bs).2.2=0:=ycC h5;have Y:(rx4 bs).2.2=0:=ycC N;have h2:(rx3 bs).2.2=0:=ycC Y;have h1:(rx2 bs).2.2=0:=yco h2;have h0:(rx1 bs).2.2=0:=ycC h1;have e0:rx1 bs=rc1 bs:=l2 de h0 ⟨by have:=G.1;exact this,by have:=G.2;show (rx1 bs).1<=(1099511627776:Int);omega⟩
 have U:rx2 bs=rc2 bs:=by
  have g1:((0:Nat):Int)<=(rx2 bs).1/\(rx2 bs).1<=((1099511627776:Nat):Int):=⟨by omega,by omega⟩;have g2:=l2 (bs:=bs) (s:=(rx1 bs).2) (a:=0) (m:=1099511627776) de h1 g1;have g3:rx2 bs=rI2 bs (rx1 bs).2:=rfl;rw [g3,g2,e0];rfl
 have e2:rx3 bs=rc3 bs:=by unfold rx3;rw [U];rfl
 have O:rx4 bs=ri1 bs:=by
  have g1:((0:Nat):Int)<=(rx4 bs).1/\(rx4 bs).1<=((1099511627776:Nat):Int):=⟨by omega,by omega⟩;have g2:=l2 (bs:=bs) (s:=(rx3 bs).2) (a:=0) (m:=1099511627776) de Y g1;have g3:rx4 bs=rI2 bs (rx3 bs).2:=rfl;rw [g3,g2,e2];rfl
 have z:rx5 bs=ri2 bs:=by
  have g1:((0:Nat):Int)<=(rx5 bs).1/\(rx5 bs).1<=((1099511627776:Nat):Int):=⟨by omega,by omega⟩;have g2:=l2 (bs:=bs) (s:=(rx4 bs).2) (a:=0) (m:=1099511627776) de N g1;have g3:rx5 bs=rI2 bs (rx4 bs).2:=rfl;rw [g3,g2,O];rfl
 have e5:rx6 bs=ri3 bs:=by
  have g1:((0:Nat):Int)<=(rx6 bs).1/\(rx6 bs).1<=((1099511627776:Nat):Int):=⟨by omega,by omega⟩;have g2:=l2 (bs:=bs) (s:=(rx5 bs).2) (a:=0) (m:=1099511627776) de h5 g1;have g3:rx6 bs=rI2 bs (rx5 bs).2:=rfl;rw [g3,g2,z];rfl
 have e6:rx7 bs=ri4 bs:=by
  have g1:((0:Nat):Int)<=(rx7 bs).1/\(rx7 bs).1<=((1099511627776:Nat):Int):=⟨by omega,by omega⟩;have g2:=l2 (bs:=bs) (s:=(rx6 bs).2) (a:=0) (m:=1099511627776) de h6 g1;have g3:rx7 bs=rI2 bs (rx6 bs).2:=rfl;rw [g3,g2,e5];rfl
 have e7:rx8 bs=ri5 bs:=by
  have g1:((0:Nat):Int)<=(rx8 bs).1/\(rx8 bs).1<=((1099511627776:Nat):Int):=⟨by omega,by omega⟩;have g2:=l2 (bs:=bs) (s:=(rx7 bs).2) (a:=0) (m:=1099511627776) de h7 g1;have g3:rx8 bs=rI2 bs (rx7 bs).2:=rfl;rw [g3,g2,e6];rfl
 have e8:rx9 bs=ri6 bs:=by
  have g1:((0:Nat):Int)<=(rx9 bs).1/\(rx9 bs).1<=((1099511627776:Nat):Int):=⟨by omega,by omega⟩;have g2:=l2 (bs:=bs) (s:=(rx8 bs).2) (a:=0) (m:=1099511627776) de h8 g1;have g3:rx9 bs=rI2 bs (rx8 bs).2:=rfl;rw [g3,g2,e7];rfl
 have Z:rxA bs=rc5 bs:=by unfold rxA;rw [e8];rfl
 have L:rxB bs=rc7 bs:=by unfold rxB;rw [Z];rfl
 have K:rxC bs=rc8 bs:=by
  have g1:((0:Nat):Int)<=(rxC bs).1/\(rxC bs).1<=((1099511627776:Nat):Int):=⟨by omega,by omega⟩;have g2:=l2 (bs:=bs) (s:=(rxB bs).2) (a:=0) (m:=1099511627776) de J g1;have g3:rxC bs=rI2 bs (rxB bs).2:=rfl;rw [g3,g2,L];rfl
 have H:rxD bs=rc9 bs:=by unfold rxD;rw [K];rfl
 have ac:rxE bs=rcA bs:=by unfold rxE;rw [H];rfl
 exact ⟨e0,U,e2,O,z,e5,e6,e7,e8,Z,L,K,H,ac⟩
theorem okx_eq {bs:List Int} (h:EqX bs):okX bs=okR bs/\∀pa pb pc,rxV bs pa pb pc=rcV bs pa pb pc:=by
 obtain ⟨K,M,Y,J,U,N,Z,L,O,z,G,H,W,T⟩:=h;refine ⟨?_,fun pa pb pc=>?_⟩
 ·unfold okX okR rxV rcV;rw [K,M,Y,J,U,N,Z,L,O,z,G,H,W,T]
  congr 1
  exact decide_eq_decide.2 yct
 ·unfold rxV rcV;rw [K,M,Y,J,U,N,Z,L,O,G,H]
theorem okX_okR (bs:List Int):okX bs=okR bs:=by
 by_cases h:okX bs=true
 ·have h1:=h;unfold okX at h1;simp only [Bool.and_eq_true,decide_eq_true_eq] at h1;exact (okx_eq (eqx_of_ref (yct.1 h1.1).1 h1.2)).1
 ·by_cases h2:okR bs=true
  ·have h1:=h2;unfold okR at h1;simp only [Bool.and_eq_true,decide_eq_true_eq] at h1;exact (okx_eq (eqx_of_prog h1.1.1)).1
  ·rw [Bool.not_eq_true] at h h2;rw [h,h2]
theorem okR_eqx {bs:List Int} (h2:okR bs=true):EqX bs:=by
 have h1:=h2;unfold okR at h1;simp only [Bool.and_eq_true,decide_eq_true_eq] at h1;exact eqx_of_prog h1.1.1
theorem rY_more {bs:List Int} {m J:Nat} {s:RS} (h:(rY bs m s).2.2=0) (U:bs.length<=J):rY bs J s=rY bs m s:=by
 obtain ⟨h1,h2,W⟩:=rV_ok (show (rV s [] (blkL bs m s.1)).2.2=0 from h);unfold rY
 suffices e:blkL bs J s.1=blkL bs m s.1 by rw [e]
 obtain ⟨v,e,q,O⟩:∃v e q,numF bs 10 0 0 s.1=(v,e,q):=⟨_,_,_,rfl⟩
 have Y:0<=v:=by have:=ybQ bs 10 0 0 s.1;rw [O] at this;exact this
 have K:∀k:Nat,¬(k:Int) < v->e=0->limF k (v,e,q)=(v,0,q):=fun k h1 h2=>by
  unfold limF;rw [if_pos (show (v,e,q).2.1=0 from h2),if_neg (show ¬(k:Int) < (v,e,q).1 from h1)]
 have M:∀k:Nat,(k:Int) < v->e=0->limF k (v,e,q)=(0,2,q):=fun k h1 h2=>by
  unfold limF;rw [if_pos (show (v,e,q).2.1=0 from h2),if_pos (show (k:Int) < (v,e,q).1 from h1)]
 have N:∀k:Nat,e≠0->limF k (v,e,q)=(0,e,q):=fun k h2=>by
  unfold limF;rw [if_neg (show ¬(v,e,q).2.1=0 from h2)]
 unfold blkL at h2 ⊢;rw [O] at h2 ⊢
 by_cases G:e=0
 ·by_cases L:(m:Int) < v
  ·rw [M m L G] at h2;exact absurd (show (2:Int)=0 from h2) de
  ·rw [K m L G] at h2 ⊢;have H:(tkL bs v.toNat q).2.1=0:=h2
   have T:¬bs.length < q+v.toNat:=fun hl=>by
    unfold tkL at H;rw [if_pos hl] at H;exact absurd (show (3:Int)=0 from H) de
   rw [K J om G]
 ·rw [N m G] at h2;have H:(if e=0 then tkL bs (0:Int).toNat q else ([],e,q)).2.1=0:=h2;rw [if_neg G] at H;exact absurd H G
section
variable {bs:List Int} (hb:∀b∈bs,0<=b/\b < 256)
def EqT (bs:List Int):Prop:=(ry1 bs).2=(dT1 bs).2/\sB (ry1 bs).1=(dT1 bs).1/\ry2 bs=rS bs (dT1 bs).2/\ry3 bs=rN 0 15 bs (ry2 bs).2/\dT2 bs=(((ry2 bs).1,(ry3 bs).1),(ry3 bs).2)/\ry4 bs=dT3 bs/\ry5 bs=dT4 bs
include hb
theorem eqt_prog (hl:bs.length<=65536) (h:(dT4 bs).2.2=0):EqT bs:=by
 have U:(dT3 bs).2.2=0:=yco h;have h2:(dT2 bs).2.2=0:=yco U;have G:(rN 0 15 bs (rS bs (dT1 bs).2).2).2.2=0:=h2;have J:(rS bs (dT1 bs).2).2.2=0:=ycD G;have h1:(dT1 bs).2.2=0:=yco J;have O:rY bs 65536 (0,0)=dT1 bs:=rY_more h1 hl
 have N:(ry1 bs).2=(dT1 bs).2:=by
  show (rT bs 65536 (0,0)).2=_;rw [rT_rY,O]
 have T:sB (ry1 bs).1=(dT1 bs).1:=by
  show sB (rT bs 65536 (0,0)).1=_;rw [sB_rT hb,O]
 have H:ry2 bs=rS bs (dT1 bs).2:=by unfold ry2;rw [N]
 have M:ry3 bs=rN 0 15 bs (ry2 bs).2:=by unfold ry3;rw [H];exact l1 de G
 have L:dT2 bs=(((ry2 bs).1,(ry3 bs).1),(ry3 bs).2):=by rw [M,H];rfl
 have K:ry4 bs=dT3 bs:=by unfold ry4 dT3;rw [L]
 have W:ry5 bs=dT4 bs:=by unfold ry5 dT4;rw [K]
 exact ⟨N,T,H,M,L,K,W⟩
theorem eqt_ref (hl:bs.length<=65536) (h:(ry5 bs).2.2=0) (H:0<=(ry3 bs).1/\(ry3 bs).1<=15):EqT bs:=by
 have U:(ry4 bs).2.2=0:=yco h;have T:(ry3 bs).2.2=0:=yco U;have h2:(ry2 bs).2.2=0:=ycC T;have h1:(ry1 bs).2.2=0:=yco h2
 have O:(rY bs 65536 (0,0)).2.2=0:=by
  have:=h1;unfold ry1 at this;rw [rT_rY] at this;exact this
 have N:dT1 bs=rY bs 65536 (0,0):=rY_more O nl
 have M:(ry1 bs).2=(dT1 bs).2:=by
  show (rT bs 65536 (0,0)).2=_;rw [rT_rY,N]
 have W:sB (ry1 bs).1=(dT1 bs).1:=by
  show sB (rT bs 65536 (0,0)).1=_;rw [sB_rT hb,N]
 have J:ry2 bs=rS bs (dT1 bs).2:=by unfold ry2;rw [M]
 have L:ry3 bs=rN 0 15 bs (ry2 bs).2:=l2 (bs:=bs) (s:=(ry2 bs).2) (a:=0) (m:=15) de T ⟨H.1,H.2⟩;have K:dT2 bs=(((ry2 bs).1,(ry3 bs).1),(ry3 bs).2):=by rw [L,J];rfl
 have G:ry4 bs=dT3 bs:=by unfold ry4 dT3;rw [K]
 have Y:ry5 bs=dT4 bs:=by unfold ry5 dT4;rw [G]
 exact ⟨M,W,J,L,K,G,Y⟩
theorem okt_eq (h:EqT bs) (h0:(ry5 bs).2.2=0):okY bs=okT bs/\tkB (ry2 bs).1 (ry3 bs).1 (ry4 bs).1 (ry5 bs).1=true:=by
 obtain ⟨Z,M,W,K,Y,U,T⟩:=h;have G:(ry4 bs).2.2=0:=yco h0;have O:(ry3 bs).2.2=0:=yco G;have h2:(ry2 bs).2.2=0:=ycC O;have H:(ry5 bs).1.size=32:=(rS_only hb (s:=(ry4 bs).2) h0).2.1;have N:(ry4 bs).1.size=32:=(rS_only hb (s:=(ry3 bs).2) G).2.1;have L:(ry2 bs).1.size=32:=(rS_only hb (s:=(ry1 bs).2) h2).2.1;have J:0<=(ry3 bs).1/\(ry3 bs).1<=15:=by rw [K];exact rN_range
 have ht:tkB (ry2 bs).1 (ry3 bs).1 (ry4 bs).1 (ry5 bs).1=true:=by
  unfold tkB idB;simp only [Bool.and_eq_true,decide_eq_true_eq];exact ⟨⟨L,J⟩,N,H⟩
 refine ⟨?_,ht⟩;unfold okY okT;rw [ht,Bool.and_true,okX_okR,M,<-T]
 congr 1
 exact decide_eq_decide.2 yct
theorem okY_okT (hl:bs.length<=65536):okY bs=okT bs:=by
 by_cases h:okY bs=true
 ·have h1:=h;unfold okY at h1;simp only [Bool.and_eq_true,decide_eq_true_eq] at h1;have h0:=(yct.1 h1.1).1;exact (okt_eq hb (eqt_ref hb hl h0 (tkB_facts h1.2.2).2.1) h0).1
 ·by_cases h2:okT bs=true
  ·have h1:=h2;unfold okT at h1;simp only [Bool.and_eq_true,decide_eq_true_eq] at h1;have G:=eqt_prog hb hl h1.1.1;exact (okt_eq hb G (by rw [G.2.2.2.2.2.2];exact h1.1.1)).1
  ·rw [Bool.not_eq_true] at h h2;rw [h,h2]
theorem okT_eqt (hl:bs.length<=65536) (h2:okT bs=true):EqT bs/\okR (dT1 bs).1=true:=by
 have h1:=h2;unfold okT at h1;simp only [Bool.and_eq_true,decide_eq_true_eq] at h1;exact ⟨eqt_prog hb hl h1.1.1,h1.2⟩
end
section
variable {bs:List Int} (hb:∀b∈bs,0<=b/\b < 256)
def EqA (bs:List Int):Prop:=rz1 bs=dA1 bs/\rz2 bs=dA2 bs/\rz3 bs=rS bs (dA2 bs).2/\rz4 bs=rN 0 15 bs (rz3 bs).2/\dA3 bs=(((rz3 bs).1,(rz4 bs).1),(rz4 bs).2)/\(rz5 bs).2=(dA4 bs).2/\sB (rz5 bs).1=(dA4 bs).1/\rz6 bs=dA6 bs
theorem dA6_rL:dA6 bs=rL bs 16 (dA4 bs).2:=rfl
include hb
theorem eqa_tail (M:rz1 bs=dA1 bs) (L:rz2 bs=dA2 bs) (J:rz3 bs=rS bs (dA2 bs).2) (K:rz4 bs=rN 0 15 bs (rz3 bs).2):EqA bs:=by
 have G:dA3 bs=(((rz3 bs).1,(rz4 bs).1),(rz4 bs).2):=by rw [K,J];rfl
 have H:(rz5 bs).2=(dA4 bs).2:=by
  unfold rz5 dA4;rw [rT_rY,G]
 have N:sB (rz5 bs).1=(dA4 bs).1:=by
  unfold rz5 dA4;rw [sB_rT hb,G]
 have O:rz6 bs=dA6 bs:=by
  rw [dA6_rL,<-H];rfl
 exact ⟨M,L,J,K,G,H,N,O⟩
theorem eqa_prog (h:(dA6 bs).2.2=0):EqA bs:=by
 have N:(dA4 bs).2.2=0:=rL_ok h;have O:(dA3 bs).2.2=0:=rY_ok0 N;have G:(rN 0 15 bs (rS bs (dA2 bs).2).2).2.2=0:=O;have H:(rS bs (dA2 bs).2).2.2=0:=ycD G;have h2:(dA2 bs).2.2=0:=yco H;have h1:(dA1 bs).2.2=0:=ycD h2;have K:rz1 bs=dA1 bs:=l1 de h1;have L:rz2 bs=dA2 bs:=by unfold rz2;rw [K];exact l1 de h2
 have J:rz3 bs=rS bs (dA2 bs).2:=by unfold rz3;rw [L]
 have M:rz4 bs=rN 0 15 bs (rz3 bs).2:=by unfold rz4;rw [J];exact l1 de G
 exact eqa_tail hb K L J M
theorem eqa_ref (h:(rz6 bs).2.2=0) (hn:numB (rz1 bs).1 (rz2 bs).1=true) (G:0<=(rz4 bs).1/\(rz4 bs).1<=15):EqA bs:=by
 unfold numB at hn;simp only [decide_eq_true_eq] at hn;have N:(rz5 bs).2.2=0:=rL_ok h;have H:(rz4 bs).2.2=0:=rT_ok0 N;have T:(rz3 bs).2.2=0:=ycC H;have h2:(rz2 bs).2.2=0:=yco T;have h1:(rz1 bs).2.2=0:=ycC h2;have J:rz1 bs=dA1 bs:=l2 (bs:=bs) (s:=(0,0)) (a:=0) (m:=11) de h1 ⟨hn.1.1,hn.1.2⟩;have L:rz2 bs=rN 1 1099511627776 bs (rz1 bs).2:=l2 (bs:=bs) (s:=(rz1 bs).2) (a:=1) (m:=1099511627776) de h2 ⟨hn.2.1,hn.2.2⟩;have K:rz2 bs=dA2 bs:=by rw [L,J];rfl
 have M:rz3 bs=rS bs (dA2 bs).2:=by unfold rz3;rw [K]
 have O:rz4 bs=rN 0 15 bs (rz3 bs).2:=l2 (bs:=bs) (s:=(rz3 bs).2) (a:=0) (m:=15) de H ⟨G.1,G.2⟩;exact eqa_tail hb J K M O
end
theorem oka_eq {bs:List Int} (h:EqA bs) (h0:(dA6 bs).2.2=0):okZ bs=okA bs:=by
 obtain ⟨K,L,U,W,H,T,N,O⟩:=h;have J:(dA4 bs).2.2=0:=rL_ok h0;have M:(dA3 bs).2.2=0:=rY_ok0 J;have G:(rN 0 15 bs (rS bs (dA2 bs).2).2).2.2=0:=M;have h2:(dA2 bs).2.2=0:=yco (ycD G);have h1:(dA1 bs).2.2=0:=ycD h2;have g1:=rN_ok (show (rN 0 11 bs (0,0)).2.2=0 from h1);have g2:=rN_ok (show (rN 1 1099511627776 bs (dA1 bs).2).2.2=0 from h2)
 have hn:numB (rz1 bs).1 (rz2 bs).1=true:=by
  rw [K,L];have Y:(dA1 bs).1=(rU bs (0,0)).1:=by rw [<-g1.2.2];rfl
  have Z:(dA2 bs).1=(rU bs (dA1 bs).2).1:=by rw [<-g2.2.2];rfl
  unfold numB;simp only [decide_eq_true_eq];have:=g1.2.1;have:=g2.2.1;omega
 unfold okZ okA;rw [hn,Bool.true_and,H,N,O]
 congr 1
 exact decide_eq_decide.2 yct
section
variable {bs:List Int} (hb:∀b∈bs,0<=b/\b < 256)
include hb
theorem okZ_okA:okZ bs=okA bs:=by
 by_cases h:okZ bs=true
 ·have h1:=h;unfold okZ shL at h1;simp only [Bool.and_eq_true,decide_eq_true_eq] at h1;have h0:=(yct.1 h1.1).1;have G:=eqa_ref hb h0 h1.2.1 h1.2.2.1.2;exact oka_eq G (by rw [<-G.2.2.2.2.2.2.2];exact h0)
 ·by_cases h2:okA bs=true
  ·have h1:=h2;unfold okA at h1;simp only [Bool.and_eq_true,decide_eq_true_eq] at h1;exact oka_eq (eqa_prog hb h1.1.1) h1.1.1
  ·rw [Bool.not_eq_true] at h h2;rw [h,h2]
theorem okA_eqa (h2:okA bs=true):EqA bs:=by
 have h1:=h2;unfold okA at h1;simp only [Bool.and_eq_true,decide_eq_true_eq] at h1;exact eqa_prog hb h1.1.1
end
def AcPost (f:Ac) (w:World) (e:Ending) (w':World):Prop:=
 ∃pa pb pc:Hd,e= .returned (.tuple #[.agg (cA f.d f.q (rHd f.R pa pb pc) f.st f.ix f.no f.an),.int .i64 f.er])/\(Sl fT w' w'.heap.size pa.a pa.n f.ps/\Sl fT w' w'.heap.size pb.a pb.n f.qs/\Sl fT w' w'.heap.size pc.a pc.n f.rs)/\(pa.n<=1000000/\pb.n<=1000000/\pc.n<=1000000)/\Below w.heap.size w w'
theorem AcPost.zero {er:Int} {w G:World} {e:Ending} (J:e= .returned (.tuple #[.agg zA,.int .i64 er])) (H:Below w.heap.size w G):AcPost ⟨er,0,0,zRcp,⟨#[]⟩,0,⟨#[]⟩,⟨#[]⟩,[],[],[]⟩ w e G:=
 ⟨⟨none,0,0⟩,⟨none,0,0⟩,⟨none,0,0⟩,J,⟨Sl.nilT _ _,Sl.nilT _ _,Sl.nilT _ _⟩,⟨Nat.zero_le _,Nat.zero_le _,Nat.zero_le _⟩,H⟩
theorem AcPost.some {d q:Int} {R:Rcp} {st:ByteArray} {ix:Int} {no an:ByteArray} {ps qs rs:List ByteArray} {base:Nat} {w G:World} {e:Ending} (H:e= .returned (.tuple #[.agg (cA d q R st ix no an),.int .i64 0])) (K:RcO G base R ps qs rs) (h1:ps.length<=1000000) (h2:qs.length<=1000000) (L:rs.length<=1000000) (J:Below w.heap.size w G):AcPost ⟨0,d,q,rHd R h0 h0 h0,st,ix,no,an,ps,qs,rs⟩ w e G:=by
 have hi:=K.rcIn;refine ⟨R.pa,R.pb,R.pc,H,hi,⟨?_,?_,?_⟩,J⟩
 ·have:=hi.1.1;omega
 ·have:=hi.2.1.1;omega
 ·have:=hi.2.2.1;omega
section
variable (k dv sq dy:Int) (pr:ByteArray) (A:Option Addr) (n c B:Nat) (bs:List Int) (w:World) (hx:Sl fB w B A n bs) (hB:B<=w.heap.size) (hk:RK bs n c)
include hx hB hk
end
def AqPost (f:Aq) (w:World) (e:Ending) (w':World):Prop:=
 ∃hd hq:Hd,e= .returned (.tuple #[.int .i64 f.d,.int .i64 f.q,.agg (cPc ⟨f.st,f.ix,hd,hq⟩),.int .i64 f.er])/\Sl fB w' w'.heap.size hd.a hd.n f.xs/\Sl fT w' w'.heap.size hq.a hq.n f.ys/\hq.n<=1000000/\Below w.heap.size w w'
theorem AqPost.zero {er:Int} {w G:World} {e:Ending} (J:e= .returned (.tuple #[.int .i64 0,.int .i64 0,.agg zPc,.int .i64 er])) (H:Below w.heap.size w G):AqPost ⟨er,0,0,⟨#[]⟩,0,[],[]⟩ w e G:=
 ⟨⟨none,0,0⟩,⟨none,0,0⟩,J,⟨rfl,fun h=>absurd h sI⟩,Sl.nilT _ _,Nat.zero_le _,H⟩
theorem AqPost.some {d q:Int} {st:ByteArray} {ix:Int} {p:Pc} {xs:List Int} {ys:List ByteArray} {w G:World} {e:Ending} (J:e= .returned (.tuple #[.int .i64 d,.int .i64 q,.agg (cPc p),.int .i64 0])) (h1:p.s=st) (h2:p.ix=ix) (hi:PcIn G G.heap.size p xs ys) (hl:ys.length<=1000000) (H:Below w.heap.size w G):AqPost ⟨0,d,q,st,ix,xs,ys⟩ w e G:=by
 subst h1;subst h2;exact ⟨p.d,p.q,J,hi.1,hi.2.1,by have:=hi.2.1.1;omega,H⟩
section
variable (k dv sq dy:Int) (pr:ByteArray) (A:Option Addr) (n c B:Nat) (bs:List Int) (w:World) (hx:Sl fB w B A n bs) (hB:B<=w.heap.size) (hk:RK bs n c)
include hx hB hk
end
structure Mt where
 er:Int
 q:Int
 v:List Int
section
variable (k dv sq dy:Int) (pr:ByteArray) (A:Option Addr) (n c B:Nat) (bs:List Int) (w:World) (hx:Sl fB w B A n bs) (hB:B<=w.heap.size) (hk:RK bs n c)
include hx hB hk
end
def RqP (a:AqX) (V:World) (e:Ending) (w':World):Prop:=
 ∃hd hq:Hd,e= .returned (.tuple #[.int .i64 a.d,.int .i64 a.q,.agg #[.string a.x.st,.int .i64 a.x.ix,.slice hd.a hd.n hd.c,.slice hq.a hq.n hq.c],.int .i64 a.er])/\Sl fB w' w'.heap.size hd.a hd.n a.x.xs/\Sl fT w' w'.heap.size hq.a hq.n a.x.ys/\(hd.n<=hd.c/\hq.n<=hq.c)/\Below V.heap.size V w'
theorem RqP.zero {er:Int} {w G:World} {e:Ending} (J:e= .returned (.tuple #[.int .i64 0,.int .i64 0,.agg zPc,.int .i64 er])) (H:Below w.heap.size w G):RqP ⟨er,0,0,⟨⟨#[]⟩,0,[],[]⟩⟩ w e G:=
 ⟨⟨none,0,0⟩,⟨none,0,0⟩,J,⟨rfl,fun h=>absurd h sI⟩,Sl.nilT _ _,⟨Nat.le_refl _,Nat.le_refl _⟩,H⟩
section
variable (e:EnR) (B:Nat) (w:World) (hx:EnOk w B e) (hB:B<=w.heap.size) (hn:e.bd.n<=65536)
include hx hB hn
theorem rac_f:Calls prog 56 #[.agg (fEn e).toArray] w (AcP (acX e) w):=by
 obtain ⟨dv,sq,k,dy,bd,pr,bs⟩:=e;have hl:bs.length<=65536:=by have h1:bs.length=bd.n:=hx.1.1;have h2:bd.n<=65536:=hn;omega
 have H:RK bs bd.n bd.c:=⟨hx.2.1,by have h2:bd.n<=65536:=hn;omega,hx.2.2.1⟩;unfold acX acF
 by_cases K:k=6
 ·subst K;refine (racc_any dv sq dy pr bd.a bd.n bd.c B bs w hx.1 hB H).mono ?_;rintro e z (⟨h1,R,h2,G,J,h5⟩ |⟨h1,h2,G⟩)
  ·rw [okY_okT H.1 hl] at h1;simp only [Bool.and_eq_true] at h1;rw [if_pos rfl,if_pos h1.2,if_pos h1.1];obtain ⟨⟨a1,Y,a3,a4,W,a6,Z⟩,hR⟩:=okT_eqt H.1 hl h1.1;have M:=okR_eqx hR;have U:=(okx_eq M).2;obtain ⟨e0,e1,e2,e3,e4,e5,e6,e7,e8,T,ac,aa,O,N⟩:=M;rw [Y] at G J;rw [U] at G;rw [T,O,N] at J;have hs:(dT2 bs).1.1=(ry2 bs).1/\(dT2 bs).1.2=(ry3 bs).1:=by rw [W];exact ⟨rfl,rfl⟩
   rw [<-hs.1,<-hs.2,a6,Z] at h2;have hr:rHd R h0 h0 h0=rcV (dT1 bs).1 h0 h0 h0:=by rw [G];rfl
   dsimp only;rw [<-hr];exact ⟨R.pa,R.pb,R.pc,h2,J,h5⟩
  ·rw [okY_okT H.1 hl] at h1;rw [if_pos rfl]
   by_cases L:numB dv sq=true
   ·rw [if_pos L];rw [L,Bool.and_true] at h1;rw [if_neg (by rw [h1];decide)];exact AcP.zero h2 G
   ·rw [if_neg L];exact AcP.zero h2 G
 ·rw [if_neg K];refine (racc_no dv sq k dy pr bd.a bd.n bd.c w K).mono ?_;rintro e z ⟨h2,G⟩;exact AcP.zero h2 G
theorem raq_f:Calls prog 57 #[.agg (fEn e).toArray] w (RqP (aqX e) w):=by
 obtain ⟨dv,sq,k,dy,bd,pr,bs⟩:=e;have J:RK bs bd.n bd.c:=⟨hx.2.1,by have h2:bd.n<=65536:=hn;omega,hx.2.2.1⟩;unfold aqX aqF
 by_cases K:k=7
 ·subst K;refine (racq_any dv sq dy pr bd.a bd.n bd.c B bs w hx.1 hB J).mono ?_;rintro e O (⟨h1,p,h2,G,L,H,W⟩ |⟨h1,h2,G⟩)
  ·rw [okZ_okA J.1] at h1;simp only [if_true,h1];obtain ⟨M,T,z,a4,N,Z,U,Y⟩:=okA_eqa J.1 h1;have hs:(dA3 bs).1.1=(rz3 bs).1/\(dA3 bs).1.2=(rz4 bs).1:=by rw [N];exact ⟨rfl,rfl⟩
   rw [<-hs.1] at h2;rw [<-hs.2] at G;rw [M,T] at L;rw [U,Y] at H;rw [<-h2,<-G];exact ⟨p.d,p.q,L,H.1,H.2.1,H.2.2,W⟩
  ·rw [okZ_okA J.1] at h1;simp only [if_true,h1];exact RqP.zero h2 G
 ·refine (racq_no dv sq k dy pr bd.a bd.n bd.c w K).mono ?_;rintro e O ⟨h2,G⟩;simp only [if_neg K];exact RqP.zero h2 G
end
