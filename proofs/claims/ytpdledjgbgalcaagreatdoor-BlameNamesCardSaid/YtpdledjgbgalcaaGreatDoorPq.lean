import Derived.Test.YtpdledjgbgalcaaGreatDoorPp
import Derived.Test.YtpdledjgbgalcaaGreatDoorPw
namespace Go.Proofs.YtpdledjgbgalcaaGreatDoor
set_option maxRecDepth 100000
set_option maxHeartbeats 8000000
open Go.RowKit Go.Lib Go.Proofs.Tryz
set_option linter.unusedVariables false
set_option linter.unusedSimpArgs false
def dmV (bs:List Int):Option (Int × List Int):=if (rU bs (0,0)).2.2=0/\(rU bs (0,0)).1 < 12 then (decV (bs.drop (rU bs (0,0)).2.1)).map (fun v=>((rU bs (0,0)).1,v)) else none
def DMPost (bs:List Int) (w:World) (e:Ending) (w':World):Prop:=
 (∃q v A n c,dmV bs=some (q,v)/\e= .returned (.tuple #[.int .i64 q,.slice A n c,.int .i64 0])/\(Sl I w' w'.heap.size A n v/\∀t,A=some t->w.heap.size<=t.block)/\Below w.heap.size w w')
 ∨(dmV bs=none/\e= .returned (.tuple #[.int .i64 0,.slice none 0 0,.int .i64 3])/\Below w.heap.size w w')
theorem dmt_no (dv sq k dy:Int) (pr:ByteArray) (A:Option Addr) (n c:Nat) (w:World) (H:k≠9):
 Calls prog 35 #[.agg #[.int .i64 dv,.int .i64 sq,.int .i64 k,.int .i64 dy,.slice A n c,.string pr]] w fun e G=>e= .returned (.tuple #[.int .i64 0,.slice none 0 0,.int .i64 1])/\Below w.heap.size w G:=by
 have J:(k != 9)=true:=by simp [H]
 go_enter func35,ntmps35;go_wp2;refine bodyPost_ret (ybI rfl _ _ _) rfl ⟨rfl,bl⟩
theorem left_anyR (g:Nat) (A:Option Addr) (n c:Nat) (bs:List Int) (s:RS) (w:World) (hr:RdS g A n c bs s w) (hp:s.1<=n) (hn:n<=1000000):
 Calls prog 83 #[.pointer (some ⟨g,0,none⟩)] w fun e G=>e= .returned (.int .i64 ((n:Int) - s.1))/\∃m,G=w.drewN m:=by
 obtain ⟨⟨H,h1⟩,_⟩:=hr;exact left_anyZ g A n c s.1 H s.2 w h1 hp hn
theorem RdS.drewN {g:Nat} {A:Option Addr} {n c:Nat} {bs:List Int} {s:RS} {w:World} (h:RdS g A n c bs s w) (m:Nat):RdS g A n c bs s (w.drewN m):=h
theorem dmt_any (dv sq dy:Int) (pr:ByteArray) (A:Option Addr) (n c B:Nat) (bs:List Int) (w:World) (hx:Sl fB w B A n bs) (hB:B<=w.heap.size) (hk:RK bs n c):
 Calls prog 35 #[.agg #[.int .i64 dv,.int .i64 sq,.int .i64 9,.int .i64 dy,.slice A n c,.string pr]] w (DMPost bs w):=by
 have hl:bs.length=n:=hx.1;have Z:(rU bs (0,0)).2.1<=n:=rU_le hl (Nat.zero_le _);have aC:=ycX bs (0,0);have hn:=hk.2.1;have ar:=hk.2.2
 have T:(rU bs (0,0)).2.2≠0->(rU bs (0,0)).2.1=0:=fun h=>by
  unfold rU at h ⊢;unfold rV at h ⊢;simp only [if_true] at h ⊢
  split at h
  ·exact absurd rfl h
  ·next e=>rw [if_neg e]
 have Y:(rU bs (0,0)).2.2=0->0 < (rU bs (0,0)).2.1:=fun h=>by
  obtain ⟨_,m,_,_,h1,_⟩:=rU_only hk.1 h;have:0 < (enc m).length:=by unfold enc encF;split<;>simp
  rw [h1];omega
 obtain ⟨H,M⟩:∃H:World,H=w.alloc (.cells #[.int .i64 dv,.int .i64 sq,.int .i64 9,.int .i64 dy,.slice A n c,.string pr] 55):=⟨_,rfl⟩
 have K:Below w.heap.size w H:=by rw [M];exact bl
 have af:H.heap[w.heap.size]? =some (.cells #[.int .i64 dv,.int .i64 sq,.int .i64 9,.int .i64 dy,.slice A n c,.string pr] 55 (0,0)):=by rw [M];exact zy w _
 have ap:H.heap.size=w.heap.size+1:=by rw [M];simp
 have ae:=lh (yci A n c bs H ((hx.up K hB).more' (lT hB K.size)) hn);have HU:Hid (∀g O c1 V,n<=c1->RdS g O n c1 bs (0,0) V->Calls prog 82 #[.pointer (some ⟨g,0,none⟩)] V (RPost g O n c1 bs (.int .u64 (rU bs (0,0)).1) (rU bs (0,0)).2 V)):=fun g O c1 V hc h=>ru_any g O n c1 bs _ V h ⟨hk.1,hn,hc⟩ (Nat.zero_le _)
 have ag:Hid (∀V,Below H.heap.size H V->V.cell? ⟨w.heap.size,4,none⟩=some (.slice A n c)):=fun V hb=>by
  rw [cell_of_row V _ _ _ _ _ ((hb.block _ om).trans af)];rfl
 have k2:H.cell? ⟨w.heap.size,2,none⟩=some (.int .i64 9):=by rw [cell_of_row H _ _ _ _ _ af];rfl
 have k4:=ag.out H bR;have L:Hid (dmV bs=if (rU bs (0,0)).2.2=0/\(rU bs (0,0)).1 < 12 then (decV (bs.drop (rU bs (0,0)).2.1)).map (fun v=>((rU bs (0,0)).1,v)) else none):=rfl
 have ac:Hid (∀p J,p<=n->(if c=p then A else A.map (·.add p))=J->∀V,Below H.heap.size H V->Calls prog 84 #[.slice J (n - p) (c - p)] V (DecPost (bs.drop p) V)):=fun p J hp hA V hb=>by
  have h1:=((hx.up K hB).up hb (lT hB K.size)).part (c:=c) p (n - p) om ar;rw [List.take_of_length_le ya6,hA] at h1;exact decode_any J (n - p) (c - p) (bs.drop p) V (h1.more' (lT (lT hB K.size) hb.size)) om (fun b hb=>hk.1 b (List.mem_of_mem_drop hb))
 obtain ⟨iB,au,_,am,_⟩:=info_parts Tryz.infoB
 have aa:Hid (∀(p:Nat) J,p<=n->(if c=p then A else A.map (·.add p))=J->∀W,(Instr.slice 40 (.slice A n c) (some (.int .i64 (p:Int))) none none).run prog W= .ok (.slice J (n - p) (c - p)) W):=fun p J hp hA W=>by
  rw [ybF (P:=prog) 40 5 iB underlying40 au am A n c .i64 p p rfl hp ar W,hA]
 have HB1:=lh K;have HS1:=lh ap;have HWE:=lh M;unfold DMPost;generalize rU bs (0,0)=R1 at*;obtain ⟨z,p,er⟩:=R1;dsimp only at Z aC T Y HU L ⊢;clear M K af ap hx hB hk hl au am;go_enter func35,ntmps35;go_upto_region 3 with fail
 rw [<-HWE.out]
 go_upto_region 5 with (first
  |(go_at_call 81;(with_reducible refine ae.out.mono ?_);rintro e V2 ⟨g,O,c1,rfl,r0,x0,aw,ao,al,ay⟩;(have R2:Hid (RdS g O n c1 bs (0,0) V2):=⟨⟨_,r0⟩,x0⟩);(have B2:=lh ao);(have ax:=lh al);(have aD:=lh aw);clear r0 x0 aw ao al ay)
  |(go_at_call 82;(with_reducible refine (HU.out g O c1 V2 ax.out R2.out).mono ?_);rintro e V3 ⟨rfl,r,bb⟩;(have R3:=lh r);(have B3:=lh (B2.out.trans (bb.below B2.out.size (fun i hi=>by subst hi;exact aD.out))));clear r bb))
 clear k2 k4;have e4:=ag.out V3 B3.out;have aA:Hid (∀a,Calls prog 83 #[.pointer (some ⟨g,0,none⟩)] (V3.drewN a) fun e w'=>e= .returned (.int .i64 ((n:Int) - p))/\∃m,w'=(V3.drewN a).drewN m):=fun a=>left_anyR g O n c1 bs _ (V3.drewN a) (R3.out.drewN a) Z hn;have aI:IntKind.i64.wrap ((n:Int) - ((n:Int) - p))=p:=by rw [IntWalk.i64_in _ om];omega
 go_quiet ((go_at_call 83;with_reducible exact Calls.quiet_of (aA.out _)))
 generalize hW:World.drewN V3 _=V4;have ak:Hid (Below H.heap.size H V4):=by show Below ..;rw [<-hW];exact ybl B3.out _
 have HBW:Hid (Below w.heap.size w V4):=bt HB1.out ak.out;replace e4:V4.cell? ⟨w.heap.size,4,none⟩=some (.slice A n c):=ag.out V4 ak.out;clear hW
 by_cases ah:er=0
 ·subst ah;have aE:=Y rfl;have aF:((p:Int)==0)=false:=by simp;omega
  by_cases hz:z < 12
  ·have G:Hid (dmV bs=(decV (bs.drop p)).map (fun v=>(z,v))):=by show _=_;rw [L.out,if_pos ⟨rfl,hz⟩]
   have aB:¬(12:Int)<=z:=by omega
   have aH:IntKind.i64.wrap z=z:=IntWalk.i64_in _ om;obtain ⟨J,aj⟩:∃J,(if c=p then A else A.map (·.add p))=J:=⟨_,rfl⟩
   have aG:=aa.out p J Z aj;have HD:=lh (ac.out p J Z aj V4 ak.out);clear aj aa ac L HU ae T Y;unfold DecPost at HD;obtain ⟨az,aq⟩:=gX (decV (bs.drop p));rw [aq] at HD G;clear aq
   cases az with
   |none=>
    go_wp2_with (go_at_call 84;(refine HD.out.mono ?_);rintro e V5 ⟨A5,n5,c5,rfl,ai,N,U⟩;(have B5:=lh (bt HBW.out U));clear N U ai)
    refine bodyPost_ret (ybI rfl _ _ _) rfl (.inr ⟨by rw [G.out];rfl,rfl,B5.out⟩)
   |some v=>
    go_wp2_with (go_at_call 84;(refine HD.out.mono ?_);rintro e V5 ⟨A5,n5,c5,rfl,ai,N,U⟩;(have S5:=lh N.1);(have F5:Hid (∀t,A5=some t->w.heap.size<=t.block):=fun t ht=>lT HBW.out.size (N.2 t ht));(have B5:=lh (bt HBW.out U));clear N U ai)
    refine bodyPost_ret (ybI rfl _ _ _) rfl (.inl ⟨z,v,A5,n5,c5,by rw [G.out];rfl,rfl,⟨S5.out,F5.out⟩,B5.out⟩)
  ·have G:Hid (dmV bs=none):=by show _=_;rw [L.out,if_neg (fun h=>hz h.2)]
   have aB:(12:Int)<=z:=by omega
   clear aa ac L HU ae T Y;go_wp2;refine bodyPost_ret (ybI rfl _ _ _) rfl (.inr ⟨G.out,rfl,HBW.out⟩)
 ·have G:Hid (dmV bs=none):=by show _=_;rw [L.out,if_neg (fun h=>ah h.1)]
  obtain rfl:p=0:=T ah;clear aa ac L HU ae T Y;go_wp2;refine bodyPost_ret (ybI rfl _ _ _) rfl (.inr ⟨G.out,rfl,HBW.out⟩)
structure Ac where
 er:Int
 d:Int
 q:Int
 R:Rcp
 st:ByteArray
 ix:Int
 no:ByteArray
 an:ByteArray
 ps:List ByteArray
 qs:List ByteArray
 rs:List ByteArray
abbrev rHd (R:Rcp) (pa pb pc:Hd):Rcp:=⟨R.hd,R.vt,R.s,R.ix,R.sz,R.dy,R.sr,R.ct,R.pl,R.rt,pa,R.si,pb,pc⟩
def h0:Hd:=⟨none,0,0⟩
def acF (k d q:Int) (bs:List Int):Ac:=
 if k=6 then (if numB d q=true then (if okT bs=true then ⟨0,d,q,rcV (dT1 bs).1 h0 h0 h0,(dT2 bs).1.1,(dT2 bs).1.2,(dT3 bs).1,(dT4 bs).1,(rc5 (dT1 bs).1).1,(rc9 (dT1 bs).1).1,(rcA (dT1 bs).1).1⟩ else ⟨3,0,0,zRcp,⟨#[]⟩,0,⟨#[]⟩,⟨#[]⟩,[],[],[]⟩) else ⟨3,0,0,zRcp,⟨#[]⟩,0,⟨#[]⟩,⟨#[]⟩,[],[],[]⟩) else ⟨1,0,0,zRcp,⟨#[]⟩,0,⟨#[]⟩,⟨#[]⟩,[],[],[]⟩
structure Aq where
 er:Int
 d:Int
 q:Int
 st:ByteArray
 ix:Int
 xs:List Int
 ys:List ByteArray
def aqF (k:Int) (bs:List Int):Aq:=
 if k=7 then (if okA bs=true then ⟨0,(dA1 bs).1,(dA2 bs).1,(dA3 bs).1.1,(dA3 bs).1.2,(dA4 bs).1,(dA6 bs).1⟩ else ⟨3,0,0,⟨#[]⟩,0,[],[]⟩) else ⟨1,0,0,⟨#[]⟩,0,[],[]⟩
def mtD (k:Int) (bs:List Int):MtX:=if k=9 then (match dmV bs with |some (q,v)=>⟨0,q,v⟩ |none=>⟨3,0,[]⟩) else ⟨1,0,[]⟩
theorem Sl.nilT (w:World) (B:Nat):Sl fT w B none 0 []:=⟨rfl,fun h=>absurd h sI⟩
theorem Sl.nilI (w:World) (B:Nat):Sl I w B none 0 []:=⟨rfl,fun h=>absurd h sI⟩
def aqX (e:EnR):AqX:=⟨(aqF e.k e.bs).er,(aqF e.k e.bs).d,(aqF e.k e.bs).q,⟨(aqF e.k e.bs).st,(aqF e.k e.bs).ix,(aqF e.k e.bs).xs,(aqF e.k e.bs).ys⟩⟩
def mtX (e:EnR):MtX:=mtD e.k e.bs
def acX (e:EnR):Ac:=acF e.k e.dv e.sq e.bs
theorem aqF_int (k:Int) (bs:List Int):int64 (aqF k bs).d/\int64 (aqF k bs).q:=by
 have h1:0<=(dA1 bs).1/\(dA1 bs).1<=((11:Nat):Int):=rN_range;have h2:0<=(dA2 bs).1/\(dA2 bs).1<=((1099511627776:Nat):Int):=rN_range;unfold aqF int64
 split
 ·split
  ·dsimp only;omega
  ·exact ⟨by decide,by decide⟩
 ·exact ⟨by decide,by decide⟩
def AcP (a:Ac) (w:World) (e:Ending) (w':World):Prop:=
 ∃pa pb pc:Hd,e= .returned (.tuple #[.agg (cA a.d a.q (rHd a.R pa pb pc) a.st a.ix a.no a.an),.int .i64 a.er])/\RcO w' w.heap.size (rHd a.R pa pb pc) a.ps a.qs a.rs/\Below w.heap.size w w'
theorem AcP.zero {er:Int} {w G:World} {e:Ending} (H:e= .returned (.tuple #[.agg zA,.int .i64 er])) (J:Below w.heap.size w G):AcP ⟨er,0,0,zRcp,⟨#[]⟩,0,⟨#[]⟩,⟨#[]⟩,[],[],[]⟩ w e G:=
 ⟨⟨none,0,0⟩,⟨none,0,0⟩,⟨none,0,0⟩,H,⟨Own.nil,Own.nil,Own.nil⟩,J⟩
theorem AqP.zero {er:Int} {w H:World} {e:Ending} (J:e= .returned (.tuple #[.int .i64 0,.int .i64 0,.agg zPc,.int .i64 er])) (K:Below w.heap.size w H):AqP ⟨er,0,0,⟨⟨#[]⟩,0,[],[]⟩⟩ w e H:=
 ⟨⟨none,0,0⟩,⟨none,0,0⟩,J,⟨⟨rfl,fun h=>absurd h sI⟩,fun _ h=>by cases h⟩,⟨Sl.nilT _ _,fun _ h=>by cases h⟩,⟨Nat.le_refl _,Nat.le_refl _⟩,K⟩
section
variable (e:EnR) (B:Nat) (w:World) (hx:EnOk w B e) (hB:B<=w.heap.size) (hn:e.bd.n<=1000000)
include hx hB hn
theorem aq_any:Calls prog 103 #[.agg (fEn e).toArray] w (AqP (aqX e) w):=by
 obtain ⟨dv,sq,k,dy,bd,pr,bs⟩:=e;unfold aqX aqF
 by_cases G:k=7
 ·subst G;refine (dacq_any dv sq dy pr bd.a bd.n bd.c B bs w hx.1 hB hn hx.2.1).mono ?_;rintro e M (⟨h1,p,h2,H,N,J,K,G,L⟩ |⟨h1,h2,H⟩)
  ·simp only [if_true,h1];rw [<-h2,<-H];exact ⟨p.d,p.q,N,⟨J.1,G⟩,⟨J.2.1,L⟩,J.2.2,K⟩
  ·simp only [if_true,h1];exact AqP.zero h2 H
 ·refine (dacq_no dv sq k dy pr bd.a bd.n bd.c w G).mono ?_;rintro e M ⟨h2,H⟩;simp only [if_neg G];exact AqP.zero h2 H
theorem mt_any:Calls prog 35 #[.agg (fEn e).toArray] w (MtP (mtX e) w):=by
 obtain ⟨dv,sq,k,dy,bd,pr,bs⟩:=e;unfold mtX mtD
 by_cases H:k=9
 ·subst H;refine (dmt_any dv sq dy pr bd.a bd.n bd.c B bs w hx.1 hB ⟨hx.2.1,hn,hx.2.2.1⟩).mono ?_;rintro e J (⟨q,v,A,n,c,h1,h2,G,K⟩ |⟨h1,h2,G⟩)
  ·simp only [if_true,h1];exact ⟨⟨A,n,c⟩,h2,G,K⟩
  ·simp only [if_true,h1];exact ⟨⟨none,0,0⟩,h2,⟨Sl.nilI _ _,fun _ h=>by cases h⟩,G⟩
 ·refine (dmt_no dv sq k dy pr bd.a bd.n bd.c w H).mono ?_;rintro e J ⟨h2,G⟩;simp only [if_neg H];exact ⟨⟨none,0,0⟩,h2,⟨Sl.nilI _ _,fun _ h=>by cases h⟩,G⟩
theorem ac_any:Calls prog 105 #[.agg (fEn e).toArray] w (AcP (acX e) w):=by
 obtain ⟨dv,sq,k,dy,bd,pr,bs⟩:=e;unfold acX acF
 by_cases J:k=6
 ·subst J
  by_cases H:numB dv sq=true
  ·refine (dacc_any dv sq dy pr bd.a bd.n bd.c B bs w H hx.1 hB hn hx.2.1).mono ?_;rintro e K (⟨h1,pa,pb,pc,h2,G,L⟩ |⟨h1,h2,G⟩)
   ·simp only [if_true,H,h1];exact ⟨pa,pb,pc,h2,G,L⟩
   ·simp only [if_true,H,h1];exact AcP.zero h2 G
  ·refine (dacc_num dv sq dy pr bd.a bd.n bd.c w (by rw [Bool.not_eq_true] at H;exact H)).mono ?_;rintro e K ⟨h2,G⟩;simp only [if_true,if_neg H];exact AcP.zero h2 G
 ·refine (dacc_no dv sq k dy pr bd.a bd.n bd.c w J).mono ?_;rintro e K ⟨h2,G⟩;simp only [if_neg J];exact AcP.zero h2 G
end
def drB (drs:List ByteArray) (s:ByteArray):Bool:=drs.any fun y=>decide (y=s)
theorem drB_iff {drs:List ByteArray} {s:ByteArray}:drB drs s=true↔s∈drs:=by simp [drB]
theorem containsT_any (A:Option Addr) (n c B:Nat) (xs:List ByteArray) (s:ByteArray) (w:World) (H:Sl fT w B A n xs) (hl:n<=9223372036854775807):
 Calls prog 173 #[.slice A n c,.string s] w fun e G=>e= .returned (.bool (drB xs s))/\w=G:=by
 obtain ⟨rfl,H⟩:=H
 by_cases h0:0 < xs.length
 ·obtain ⟨b,J,rfl,L,K⟩:=H h0;refine (Tryz.slices_Contains_string b J xs.length c xs s w nl hl (fun j hj=>?_)).mono ?_
  ·have h1:=K j xs[j] (List.getElem?_eq_getElem hj);rw [List.getD_eq_getElem?_getD,List.getElem?_eq_getElem hj];exact h1
  ·rintro e G ⟨rfl,rfl⟩;refine ⟨?_,rfl⟩;rw [List.take_length]
   have:containsS xs s=drB xs s:=by
    rw [Bool.eq_iff_iff,containsS_iff,drB_iff]
   rw [this]
 ·obtain rfl:xs=[]:=List.eq_nil_of_length_eq_zero om;refine (Tryz.slices_Contains_string_empty A c s w).mono ?_;rintro e G ⟨rfl,rfl⟩;exact ⟨rfl,rfl⟩
theorem cjv {w:World} {g:Nat} {x:Vw} {A:Option Addr} {n c H G:Nat} {t:TypeId} (h:w.heap[g]? =some (.cells (cJ x A n c H G) t (0,0))):w.cell? ⟨g,0,none⟩=some (.slice x.E.a x.E.n x.E.c)/\w.cell? ⟨g,1,none⟩=some (.slice x.V.a x.V.n x.V.c)/\w.cell? ⟨g,2,none⟩=some (.slice x.P.a x.P.n x.P.c)/\w.cell? ⟨g,3,none⟩=some (.int .i64 x.b)/\w.cell? ⟨g,4,none⟩=some (.int .i64 x.h)/\w.cell? ⟨g,5,none⟩=some (.slice x.D.a x.D.n x.D.c)/\w.cell? ⟨g,6,none⟩=some (.slice x.F.a x.F.n x.F.c):=by
 refine ⟨?_,?_,?_,?_,?_,?_,?_⟩<;>(rw [cell_of_row w _ _ _ _ _ h];rfl)
def opB (drs:List ByteArray) (pl:List PcX) (R:Rcp) (cn:Bool):Bool:= !drB drs R.s&&(!(pl.any fun p=>aqB R p.st p.ix p.xs p.ys)&&cn)
theorem opB_dropped {drs:List ByteArray} {pl:List PcX} {R:Rcp} {cn:Bool} (h:drB drs R.s=true):opB drs pl R cn=false:=by simp [opB,h]
theorem opB_shown {G:List ByteArray} {pl:List PcX} {R:Rcp} {H:Bool} {k:Nat} {p:PcX} (h:pl[k]? =some p) (ha:aqB R p.st p.ix p.xs p.ys=true):opB G pl R H=false:=by
 have:pl.any (fun p=>aqB R p.st p.ix p.xs p.ys)=true:=List.any_eq_true.2 ⟨p,List.mem_of_getElem? h,ha⟩;simp [opB,this]
theorem opB_rest {G:List ByteArray} {pl:List PcX} {R:Rcp} {H:Bool} (hd:drB G R.s=false) (h:∀(k:Nat) (p:PcX),pl[k]? =some p->aqB R p.st p.ix p.xs p.ys=false):opB G pl R H=H:=by
 have:pl.any (fun p=>aqB R p.st p.ix p.xs p.ys)=false:=by
  rw [List.any_eq_false];intro p hp;obtain ⟨k,J⟩:=List.getElem?_of_mem hp;rw [h k p J]
  decide
 simp [opB,this,hd]
theorem jopen_any (x:Vw) (es:List EnR) (vs:List VtR) (T O:List ByteArray) (fks:List Int) (aU:Nat->Rl) (s k kS kM:Nat) (l:List EnR) (A:Option Addr) (n c:Nat) (mN mS mM:Lit->Value) (aY:Int->Int->Bool) (N:Int->Int->Int->List PcX) (aW:Int->List (EnR × List Int)) (d q:Int) (R:Rcp) (st:ByteArray) (M:Int) (no an:ByteArray) (ps qs rs:List ByteArray) (B:Nat) (w:World) (hG:Glob w)
 (hJ:JSt w aU s k kS kM x l A n c mN mS mM aY N aW) (hV:VwIn w B x es vs T O fks) (hR:RcIn w B R ps qs rs) (hB:B<=w.heap.size) (al:x.V.n<=1000/\x.P.n<=1000/\x.D.n<=1000) (aN:R.pa.n<=R.pa.c) (hd:int64 d) (hq:int64 q) (hh:int64 R.hd) (aK:∀p∈N d q R.hd,p.xs.length<=1000000/\p.ys.length<=1000000/\Byt p.xs) (aF:(N d q R.hd).length<=1000000):
 Calls prog 104 #[.pointer (some ⟨s+3,0,none⟩),.agg (cA d q R st M no an)] w fun e W=>e= .returned (.bool (opB O (N d q R.hd) R (cnB T x.b x.h vs d q R st M no an ps qs rs)))/\Below w.heap.size w W:=by
 obtain ⟨G,ae⟩:∃G:World,G=w.alloc (.cells (cA d q R st M no an) 39):=⟨_,rfl⟩
 have am:Below w.heap.size w G:=by rw [ae];exact bl
 have aJ:G.heap.size=w.heap.size+1:=by rw [ae];simp
 have aq:G.heap[w.heap.size]? =some (.cells (cA d q R st M no an) 39 (0,0)):=by rw [ae];exact zy w _
 have ak:=hJ.on am;have HC:Hid (∀V,Below G.heap.size G V->V.heap[w.heap.size]? =some (.cells (cA d q R st M no an) 39 (0,0))/\V.heap[s+3]? =some (.cells (cJ x A n c (s+1) (s+2)) 168 (0,0))):=fun V L=>⟨(L.block _ (lb aq)).trans aq,(ak.on L).jd⟩
 have HX:Hid (∀V,Below G.heap.size G V->VwIn V B x es vs T O fks/\RcIn V B R ps qs rs/\Glob V/\B<=V.heap.size):=fun V L=>by
  have h1:Below w.heap.size w V:=bt am L;exact ⟨hV.up h1 hB,hR.up h1 hB,hG.on h1,Nat.le_trans hB h1.size⟩
 obtain ⟨cn,ao⟩:=gX (cnB T x.b x.h vs d q R st M no an ps qs rs)
 have aR:Hid (∀V,Below G.heap.size G V->Calls prog 12 #[.agg (cVw x),.agg (cA d q R st M no an)] V fun e W=>e= .returned (.bool cn)/\Below V.heap.size V W):=fun V L=>by
  obtain ⟨h1,h2,h3,h4⟩:=HX.out V L;rw [<-ao];exact bvalid_any x T vs d q R st M no an ps qs rs B V h3 h1.V h1.P h2 h4 al.1 al.2.1 aN
 have ai:Hid (∀V,Below G.heap.size G V->Calls prog 173 #[.slice x.D.a x.D.n x.D.c,.string R.s] V fun e W=>e= .returned (.bool (drB O R.s))/\V=W):=fun V L=>containsT_any _ _ _ B _ _ V (HX.out V L).1.D (by have:=al.2.2;omega);obtain ⟨H,af,aI,aQ,ay⟩:=ak.shr d q R.hd hd hq hh;obtain ⟨PA,aT,aM,aO,aD,_⟩:=OwnN.shape fPc_len aI;have aS:Hid ((N d q R.hd).length=H.length):=by show _=_;rw [<-af];simp
 have aV:Hid (H.length<=1000000):=by show _<=_;rw [<-aS.out];exact aF
 have HPG:Hid (∀(j:Nat) (p:PcR),H[j]? =some p->(N d q R.hd)[j]? =some p.x):=fun j p h=>by rw [<-af,List.getElem?_map,h];rfl
 have aB:Hid (∀(j:Nat) (p:PcX),(N d q R.hd)[j]? =some p->∃r:PcR,H[j]? =some r/\r.x=p):=fun j p h=>by
  rw [<-af,List.getElem?_map] at h;obtain ⟨r,h1,h2⟩:=Option.map_eq_some_iff.1 h;exact ⟨r,h1,h2⟩
 have aH:Hid (∀V,Below G.heap.size G V->(Instr.lookup 165 (.map (some (s+1))) (pR d q R.hd) false).run prog V= .ok (.slice PA H.length aT) V):=fun V L=>by
  rw [<-aM];exact (ak.on L).shm.look (Maps.Keyed.of_law Rep.law) underlying165 (Rep.zero V) (kR_of hd hq hh)
 have ap:Hid (∀V,Below G.heap.size G V->∀p∈H,Calls prog 15 #[.agg (cA d q R st M no an),.agg #[.string p.x.st,.int .i64 p.x.ix,.slice p.d.a p.d.n p.d.c,.slice p.q.a p.q.n p.q.c]] V fun e W=>e= .returned (.bool (aqB R p.x.st p.x.ix p.x.xs p.x.ys))/\Below V.heap.size V W):=fun V L p hp=>by
  obtain ⟨h1,h2,h3,h4⟩:=HX.out V L;obtain ⟨⟨g1,_⟩,⟨g2,_⟩,g3,g4⟩:=ay p hp;have g5:p.x∈N d q R.hd:=by rw [<-af];exact List.mem_map_of_mem hp
  obtain ⟨g6,g7,g8⟩:=aK _ g5;exact acquits_any d q R st M no an p.x.st p.x.ix p.d.a p.q.a p.d.n p.d.c p.q.n p.q.c G.heap.size p.x.xs p.x.ys V h3 g3 g4 (g1.up L nl) (g2.up L nl) L.size (by have:=g1.1;omega) (by have:=g2.1;omega) g8
 have aE:=lh aD;have HB1:=lh am;have HS1:=lh aJ;have HWE:=lh ae;have Z:Hid (Below G.heap.size G G):=Below.refl _ _;obtain ⟨z0,z1,z2,z3,z4,z5⟩:=ybC (HC.out G Z.out).1;obtain ⟨v0,v1,v2,v3,v4,v5,v6⟩:=cjv (HC.out G Z.out).2;have v8:=cj8 (HC.out G Z.out).2;rw [ao];generalize N d q R.hd=pl at*;clear hG hJ hV hR hB al aN hd hq hh aK aF am aJ aq ak ao af aI aQ ay aM aO aD ae;rcases Bool.eq_false_or_eq_true (drB O R.s) with hdr |hdr
 ·rw [hdr] at ai;have aa:Hid (opB O pl R cn=false):=opB_dropped hdr;clear hdr;go_enter func104,ntmps104;go_upto_region 1 with fail
  rw [<-HWE.out];go_quiet ((go_at_call 173;with_reducible exact Calls.quiet_of_same (same_of (ai.out _ (ybl Z.out _)))));go_wp2_with fail;go_ret;exact ⟨by rw [aa.out];rfl,ybl HB1.out _⟩
 ·rw [hdr] at ai;have z:Hid (∀(j:Nat) (p:PcR),j < 0->H[j]? =some p->aqB R p.x.st p.x.ix p.x.xs p.x.ys=false):=fun j p hj=>absurd hj om;have aX:=lh hdr;clear hdr;go_enter func104,ntmps104;go_upto_region 1 with fail
  rw [<-HWE.out];go_quiet ((go_at_call 173;with_reducible exact Calls.quiet_of_same (same_of (ai.out _ (ybl Z.out _)))));go_wp2_with fail;generalize Y:World.drewN G _=W2;have ac:Hid (Below G.heap.size G W2):=by show Below ..;rw [<-Y];exact ybl Z.out _
  clear z0 z1 z2 z3 z4 z5 v0 v1 v2 v3 v4 v5 v6 v8 Y;obtain ⟨z0,z1,z2,z3,z4,z5⟩:=ybC (HC.out W2 ac.out).1;have v8:=cj8 (HC.out W2 ac.out).2;have az:=fun a=>aH.out (W2.drewN a) (ybl ac.out _);unfold pR at az;go_quiet (fail);generalize Y:World.drewN W2 _=W3;have aG:Hid (Below G.heap.size G W3):=by show Below ..;rw [<-Y];exact ybl ac.out _
  clear z0 z1 z2 z3 z4 z5 v8 Y az ac aH ai;go_wp2_with fail
  go_loopw [32] (fun i wr=>∃k:Nat,k<=H.length/\i= .int .i64 k/\Hid (∀(j:Nat) (p:PcR),j < k->H[j]? =some p->aqB R p.x.st p.x.ix p.x.xs p.x.ys=false)/\Hid (Below G.heap.size G wr)) (fun i _=>H.length - (intOf i).toNat)
  case atStart=>exact ⟨0,Nat.zero_le _,rfl,z,aG⟩
  case round=>
   clear z aG;obtain ⟨k,hk,rfl,z,HBr⟩:=hrel;have aZ:=aV.out
   by_cases hlt:k < H.length
   ·
    obtain ⟨b,J,p,rfl,a0,hp,ag⟩:=(aE.out.up HBr.out nl).at_ hlt;have a1:(k:Int) < (H.length:Int):=by omega
    have x0:wr.cell? ⟨b,J+k*4,none⟩=some (.string p.x.st):=by rw [show J+k*4=J+(k*4+0) by omega];exact ag 0 _ rfl
    have x1:wr.cell? ⟨b,J+k*4+1,none⟩=some (.int .i64 p.x.ix):=by rw [show J+k*4+1=J+(k*4+1) by omega];exact ag 1 _ rfl
    have x2:wr.cell? ⟨b,J+k*4+2,none⟩=some (.slice p.d.a p.d.n p.d.c):=by rw [show J+k*4+2=J+(k*4+2) by omega];exact ag 2 _ rfl
    have x3:wr.cell? ⟨b,J+k*4+3,none⟩=some (.slice p.q.a p.q.n p.q.c):=by rw [show J+k*4+3=J+(k*4+3) by omega];exact ag 3 _ rfl
    have HP:=lh hp;have aj:=lh (fun V L=>ap.out V L p (List.mem_of_getElem? hp));clear ag hp;go_upto_region 6 with fail
    obtain ⟨W4,Y⟩:∃W4:World,W4=wr.alloc (.cells #[.string p.x.st,.int .i64 p.x.ix,.slice p.d.a p.d.n p.d.c,.slice p.q.a p.q.n p.q.c] 42):=⟨_,rfl⟩
    have aL:W4.heap[wr.heap.size]? =some (.cells #[.string p.x.st,.int .i64 p.x.ix,.slice p.d.a p.d.n p.d.c,.slice p.q.a p.q.n p.q.c] 42 (0,0)):=by rw [Y];exact zy wr _
    have U:Hid (Below G.heap.size G W4):=by show Below ..;rw [Y];exact HBr.out.alloc HBr.out.size _
    rw [<-Y];obtain ⟨q0,q1,q2,q3⟩:=c4rows aL;have aA:=lh (ydi (HC.out W4 U.out).1);obtain ⟨ab,ar⟩:=gX (aqB R p.x.st p.x.ix p.x.xs p.x.ys);rw [ar] at aj;have ax:=lh ar;clear Y aL x0 x1 x2 x3 ar ap
    cases ab with
    |true=>
     have aa:Hid (opB O pl R cn=false):=opB_shown (HPG.out _ _ HP.out) ax.out;go_wp2_with (first |(with_reducible refine wpList_load_mid rfl 39 (.tmp 3) rfl w.heap.size 0 rfl (cA d q R st M no an).toList _ aA.out underlying39 rfl (sizeAL d q R st M no an) ?_) |(go_at_call 15;(with_reducible refine (aj.out _ U.out).mono ?_);rintro e W5 ⟨rfl,ah⟩;(have au:Hid (Below G.heap.size G W5):=U.out.trans (Below.mono ah U.out.size));clear ah));go_ret;exact ⟨by rw [aa.out];rfl,bt HB1.out au.out⟩
    |false=>
     go_wp2_with (first |(with_reducible refine wpList_load_mid rfl 39 (.tmp 3) rfl w.heap.size 0 rfl (cA d q R st M no an).toList _ aA.out underlying39 rfl (sizeAL d q R st M no an) ?_) |(go_at_call 15;(with_reducible refine (aj.out _ U.out).mono ?_);rintro e W5 ⟨rfl,ah⟩;(have au:Hid (Below G.heap.size G W5):=U.out.trans (Below.mono ah U.out.size));clear ah))
     go_roundw
     case rel=>exact ⟨k+1,by omega,by go_num,fun j r hj hr=>by
      by_cases h:j < k
      ·exact z.out j r h hr
      ·obtain rfl:j=k:=by omega
       rw [HP.out] at hr;injection hr with hr
       rw [<-hr];exact ax.out,au.out⟩
     case measure=>simp [intOf];omega
   ·
    obtain rfl:k=H.length:=by omega
    have HBx:=HBr
    have aa:Hid (opB O pl R cn=cn):=opB_rest aX.out (fun j p h=>by
     obtain ⟨r,h1,h2⟩:=aB.out j p h;rw [<-h2]
     exact z.out j r (List.getElem?_eq_some_iff.1 h1).1 h1)
    clear ap aE HPG aB z;go_upto_region 9 with fail
    refine rH (S:=(fun W=>W.heap[w.heap.size]? =some (.cells (cA d q R st M no an) 39 (0,0))/\W.heap[s+3]? =some (.cells (cJ x A n c (s+1) (s+2)) 168 (0,0)))) ybi (by exact HC.out _ yaz) (fun aw=>?_)
    (iterate 3 refine tkA ?_)
    refine tkH (i:=3) (v:=?o4v) (y:=(Or.inl ⟨by rfl,?o4y⟩)) (h:=?o4r);case o4y=>(intro w hSw;(try dsimp only at hSw);obtain ⟨v0,v1,v2,v3,v4,v5,v6⟩:=cjv hSw.2;go_simp;try (with_reducible rfl))
    try simp only [pt]
    refine tkH (i:=4) (v:=_) (y:=(yieldsIf_load_mid (by rfl) 39 (.tmp 3) rfl w.heap.size 0 (by rfl) (cA d q R st M no an).toList _ (fun _ h=>ydi h.1) underlying39 rfl (sizeAL d q R st M no an))) (h:=?_)
    try simp only [pt]
    refine rd1 5 (fun K hK=>?_)
    (go_simp;go_at_call 12;(with_reducible refine (aR.out _ yaz).mono ?_);rintro e w9 ⟨rfl,aC⟩;(have HBy:Hid (Below G.heap.size G w9):=Below.trans yaz (Below.mono aC (by have:=HBx.out.size;exact this)));clear aC;go_wp2_with fail)
    refine hK.out _ _ (by first |exact HC.out _ HBy.out |exact HC.out _ yaz) (fun aP=>?_);clear hK K aw
    try simp only [pt]
    refine tkY 6 ?_;refine wpAnyH_done ybi ?_ _;go_wp2_with fail;go_ret;exact ⟨by rw [aa.out];rfl,by first |exact bt HB1.out HBy.out |exact (bt HB1.out HBy.out).drew⟩
theorem foldl_set:∀(l:List Value) (k:Nat) (cs:Array Value),k+l.length<=cs.size->
 (((l.zipIdx k).foldl (fun cs (p:Value × Nat)=>cs.setIfInBounds (0+p.2) p.1) cs).size=cs.size/\∀i,((l.zipIdx k).foldl (fun cs (p:Value × Nat)=>cs.setIfInBounds (0+p.2) p.1) cs)[i]? =if k<=i/\i < k+l.length then l[i - k]? else cs[i]?)
 | [],k,cs,_=>by
   refine ⟨rfl,fun i=>?_⟩;rw [if_neg (by simp only [List.length_nil];omega)];rfl
 |v::l,k,cs,h=>by
  simp only [List.length_cons] at h;obtain ⟨h1,h2⟩:=foldl_set l (k+1) (cs.setIfInBounds (0+k) v) ybh;rw [List.zipIdx_cons,List.foldl_cons];refine ⟨by rw [h1];simp,fun i=>?_⟩;rw [h2 i]
  by_cases hi:i=k
  ·subst hi;rw [if_neg om,if_pos sI,Nat.zero_add,Nat.sub_self,Array.getElem?_setIfInBounds,if_pos rfl,if_pos om];rfl
  ·by_cases G:k+1<=i/\i < k+1+l.length
   ·rw [if_pos G,if_pos ybh];have:i - k=(i - (k+1))+1:=by omega
    rw [this,List.getElem?_cons_succ]
   ·rw [if_neg G,if_neg ybh,Nat.zero_add,Array.getElem?_setIfInBounds_ne om]
theorem foldl_all (cs base:Array Value) (h:cs.size=base.size):cs.zipIdx.foldl (fun a (p:Value × Nat)=>a.setIfInBounds (0+p.2) p.1) base=cs:=by
 obtain ⟨l⟩:=cs;have G:l.length=base.size:=h;rw [<-Array.foldl_toList,Array.toList_zipIdx];obtain ⟨h1,h2⟩:=foldl_set l 0 base om;apply Array.ext_getElem?;intro i;rw [h2 i]
 by_cases hi:i < l.length
 ·rw [if_pos ⟨Nat.zero_le _,by omega⟩];simp
 ·rw [if_neg om,Array.getElem?_eq_none om,Array.getElem?_eq_none (by simpa using hi)]
theorem run_buildSlice1 {P:Program} {t e:TypeId} {i:TypeInfo} {z:Value} {s:Nat} (ht:P.underlying t=some (.slice e)) (hi:P.info? e=some i) (H:i.zero=some z) (hs:i.size=s) (J:z.cells.size=s) (h0:0 < s) (K:s<=16777216) (v:Value) (G:v.cells.size=s) (w:World):
 (Instr.buildSlice t 1 #[(0,v)]).run P w= .ok (.slice (some ⟨w.heap.size,0,none⟩) 1 1) (w.alloc (.cells v.cells e)):=by
 have h1:¬16777216 < s:=by omega
 have h2:¬s=0:=by omega
 have hf:Instr.fill (fun i=>some (i*s,s)) ((Array.range (1*s)).map (z.cells[· % z.cells.size]!)) [(0,v)]=some v.cells:=by
  unfold Instr.fill;simp only [Nat.zero_mul,G,ne_eq,not_true_eq_false,decide_false,Bool.false_or,Nat.zero_add,Array.size_map,Array.size_range,Nat.one_mul,Nat.lt_irrefl,gt_iff_lt];have:=foldl_all v.cells ((Array.range s).map (z.cells[· % z.cells.size]!)) (by simp [G]);simp only [Nat.zero_add] at this;unfold Instr.fill;exact congrArg some this
 simp only [Nat.one_mul] at hf;simp [Instr.buildSlice,run_underlying ht,sizeOf,typeInfo,zeroValue,hi,H,hs,h1,h2,hf,newRow]
theorem yb0 {P:Program} {ops:Array Oper} {G:List Oper} {op:Oper} {a:Act} {w:World} {Q:Exit->Act->World->Prop} (J:Region.wanted op (yielded ops a.tmps)=true) (H:TypeId) (x:Operand) (K:op.op= .load H x)
 (b o:Nat) (O:a.eval x= .pointer (some ⟨b,o,none⟩)) (cs:List Value) (d:TypeDesc) (N:w.rangeAt b o cs)
 (M:P.underlying H=some d) (hd:d.isRow=true) (hi:(P.info? H).map (·.size)=some cs.length)
 (h:wpList P ops Q G (a.put op.dst (.agg cs.toArray)) w):wpList P ops Q (op::G) a w:=
 BigFrame.wpList_want J fun _ L=>wp_load_mid H x K b o O cs d N M hd hi (L _ _ h)
theorem ycb {P:Program} {ops:Array Oper} {G:List Oper} {o:Oper} {a:Act} {w:World} {Q:Exit->Act->World->Prop} (L:o.guard=none) (t:TypeId) (x:Operand) (N:o.op= .buildSlice t 1 #[(0,x)])
 (e:TypeId) (i:TypeInfo) (z:Value) (s:Nat) (ht:P.underlying t=some (.slice e)) (hi:P.info? e=some i) (W:i.zero=some z) (hs:i.size=s) (J:z.cells.size=s) (h0:0 < s) (M:s<=16777216) (cs:Array Value) (U:a.eval x= .agg cs) (O:cs.size=s)
 (h:wpList P ops Q G (a.put o.dst (.slice (some ⟨w.heap.size,0,none⟩) 1 1)) (w.alloc (.cells cs e))):wpList P ops Q (o::G) a w:=by
 refine wpList_plain L fun K T=>?_;have H:=run_buildSlice1 ht hi W hs J h0 M (.agg cs) O w;unfold Oper.wp;simp [execOp,N,U,H,Result.andThen];exact T _ _ h
structure AcR where
 a:Ac
 pa:Hd
 pb:Hd
 pc:Hd
abbrev AcR.R (r:AcR):Rcp:=rHd r.a.R r.pa r.pb r.pc
abbrev cAr (r:AcR):Array Value:=cA r.a.d r.a.q r.R r.a.st r.a.ix r.a.no r.a.an
abbrev fAr (r:AcR):List Value:=(cAr r).toList
theorem ydX:∀r,(fAr r).length=20:=fun _=>rfl
theorem fAr_one (r:AcR):∀u∈fAr r,u.oneCell'=true:=fun u G=>by
 simp only [fAr,cAr,cA,List.mem_cons,List.not_mem_nil,or_false] at G;rcases G with rfl |rfl |rfl |rfl |rfl |rfl |rfl |rfl |rfl |rfl |rfl |rfl |rfl |rfl |rfl |rfl |rfl |rfl |rfl |rfl<;>rfl
def ArO (w:World) (base:Nat) (r:AcR):Prop:=RcO w base r.R r.a.ps r.a.qs r.a.rs
theorem ArO.rcIn {w:World} {base:Nat} {r:AcR} (h:ArO w base r):RcIn w w.heap.size r.R r.a.ps r.a.qs r.a.rs/\r.R.pa.n<=r.R.pa.c:=by
 refine ⟨RcO.rcIn h,?_⟩;obtain ⟨A,c,G,K,_⟩:=h.1.shape;injection G with h7 h8 h9
 show r.pa.n<=r.pa.c;have H:r.pa.n=r.a.ps.length:=h8;have J:r.pa.c=c:=h9;omega
theorem ArO.on {w w':World} {base:Nat} {r:AcR} (h:ArO w base r) (hb:Below w.heap.size w w'):ArO w' base r:=RcO.on h hb
theorem ydY {α β:Type} {f:α->Value} {N:β->List Value} {s:Nat} {w:World} {base base':Nat} {e K:TypeId} {v J:Value} {xs:List α} {ys:List β} (h:Own f e w base v xs) (L:OwnN N s K w base' J ys) (H:e≠K):v.ownBlock=none∨v.ownBlock≠J.ownBlock:=by
 rcases h.2 with ⟨rfl,h0⟩ |⟨g,cap,Y,rfl,h1,U,h2⟩
 ·exact .inl rfl
 ·right
  rcases L.2 with ⟨rfl,h0⟩ |⟨W,O,T,rfl,z,G,Z⟩
  ·intro e;cases e
  ·intro e;have M:g=W:=by injection e
   subst M;rw [U] at G;injection G with G;injection G with _ ht _;exact H ht
theorem ArO.grown {α:Type} {f:α->List Value} {s:Nat} {t:TypeId} {w K:World} {base base':Nat} {v:Value} {xs:List α} {r:AcR} (h:ArO w base r) (J:OwnN f s t w base' v xs) (H:w.grownBy K v.ownBlock) (G:9≠t):ArO K base r:=
 ⟨World.ownsRow.kept h.1 H (ydY h.1 J G),World.ownsRow.kept h.2.1 H (ydY h.2.1 J G),World.ownsRow.kept h.2.2 H (ydY h.2.2 J G)⟩
structure CgR where
 r:AcR
 e:EnR
abbrev fCg (c:CgR):List Value:=fAr c.r++fEn c.e
theorem fCg_len:∀c,(fCg c).length=26:=fun _=>rfl
theorem fCg_one (c:CgR):∀u∈fCg c,u.oneCell'=true:=fun u hu=>by
 rcases List.mem_append.1 hu with h |h
 ·exact fAr_one _ u h
 ·exact ydV _ u h
theorem Tryz.infoCg:(prog.info? 109).map (fun i=>(i.zero.map (·.cells.size),i.size,i.bytes))=some (some 26,26,320):=by kernel_rfl
theorem ycP {P:Program} {e:TypeId} {n s b:Nat} (h:(P.info? e).map (fun i=>(i.zero.map (·.cells.size),i.size,i.bytes))=some (some n,s,b)):∃i z,P.info? e=some i/\i.zero=some z/\i.size=s/\i.bytes=b/\z.cells.size=n:=by
 obtain ⟨i,h1,h2⟩:=Option.map_eq_some_iff.1 h;injection h2 with h3 h4;injection h4 with h5 h6;obtain ⟨z,G,H⟩:=Option.map_eq_some_iff.1 h3;exact ⟨i,z,h1,G,h5,h6,H⟩
section
variable {bs:List Int} {s:RS}
theorem rU_both (h:(rU bs s).2.2=0):s.2=0/\(rU bs s).2.2=0:=⟨(rV_ok (show (rV s 0 (numF bs 10 0 0 s.1)).2.2=0 from h)).1,h⟩
theorem rN_ok {a m:Nat} (h:(rN a m bs s).2.2=0):s.2=0/\((a:Int)<=(rU bs s).1/\(rU bs s).1<=(m:Int))/\rN a m bs s=rU bs s:=by
 unfold rN at h ⊢
 by_cases h1:s.2=0/\(rU bs s).2.2=0
 ·rw [if_pos h1] at h ⊢
  by_cases h2:(a:Int)<=(rU bs s).1/\(rU bs s).1<=(m:Int)
  ·rw [if_pos h2];exact ⟨h1.1,h2,rfl⟩
  ·rw [if_neg h2] at h;exact absurd h (by decide:¬(3:Int)=0)
 ·rw [if_neg h1] at h;exact absurd h (rU_bad h1).2
theorem l1 {a m:Nat} (hm:m<=1099511627776) (h:(rN a m bs s).2.2=0):rI2 bs s=rN a m bs s:=by
 obtain ⟨_,h2,h3⟩:=rN_ok h;rw [h3];unfold rI2;rw [if_neg om]
theorem l2 {a m:Nat} (G:m<=1099511627776) (h0:(rI2 bs s).2.2=0) (h:(a:Int)<=(rI2 bs s).1/\(rI2 bs s).1<=(m:Int)):rI2 bs s=rN a m bs s:=by
 have h1:=rU_both (show (rU bs s).2.2=0 from h0);unfold rI2 at h ⊢;unfold rN;rw [if_pos h1]
 by_cases h2:(1099511627776:Int) < (rU bs s).1
 ·rw [if_pos h2] at h;exact absurd h.1 (by simp only;omega)
 ·rw [if_neg h2] at h ⊢;simp only at h;rw [if_pos h]
theorem ycF {a m:Nat} (h:(rN a m bs s).2.2=0):s.2=0:=(rN_ok h).1
theorem ycr (h:(rS bs s).2.2=0):s.2=0:=(rV_ok (show (rV s baNo (tkF bs 32 s.1)).2.2=0 from h)).1
theorem rT_ok0 {m:Nat} (h:(rT bs m s).2.2=0):s.2=0:=(rV_ok (show (rV s baNo (blkF bs m s.1)).2.2=0 from h)).1
theorem rY_ok0 {m:Nat} (h:(rY bs m s).2.2=0):s.2=0:=(rV_ok (show (rV s [] (blkL bs m s.1)).2.2=0 from h)).1
theorem rT_rY {m:Nat}:rT bs m s=(baOf (rY bs m s).1,(rY bs m s).2):=by
 unfold rT rY rV blkF
 split
 ·split<;>rfl
 ·rfl
theorem sB_rT (hb:∀b∈bs,0<=b/\b < 256) {m:Nat}:sB (rT bs m s).1=(rY bs m s).1:=by
 rw [rT_rY];exact ybL (rY_rng hb)
end
def EqX (bs:List Int):Prop:=rx1 bs=rc1 bs/\rx2 bs=rc2 bs/\rx3 bs=rc3 bs/\rx4 bs=ri1 bs/\rx5 bs=ri2 bs/\rx6 bs=ri3 bs/\rx7 bs=ri4 bs/\rx8 bs=ri5 bs/\rx9 bs=ri6 bs/\rxA bs=rc5 bs/\rxB bs=rc7 bs/\rxC bs=rc8 bs/\rxD bs=rc9 bs/\rxE bs=rcA bs
theorem eqx_of_prog {bs:List Int} (h:(rcA bs).2.2=0):EqX bs:=by
 have W:(rc9 bs).2.2=0:=rL_ok h;have H:(rc8 bs).2.2=0:=rL_ok W;have U:(rc7 bs).2.2=0:=ycF H;have h9:(rc5 bs).2.2=0:=ycr U;have h8:(ri6 bs).2.2=0:=rL_ok h9;have Z:(ri5 bs).2.2=0:=ycF h8;have h6:(ri4 bs).2.2=0:=ycF Z;have h5:(ri3 bs).2.2=0:=ycF h6;have Y:(ri2 bs).2.2=0:=ycF h5;have h3:(ri1 bs).2.2=0:=ycF Y;have h2:(rc3 bs).2.2=0:=ycF h3;have h1:(rc2 bs).2.2=0:=ycr h2;have h0:(rc1 bs).2.2=0:=ycF h1;have L:rx1 bs=rc1 bs:=l1 de h0;have e1:rx2 bs=rc2 bs:=by unfold rx2;rw [L];exact l1 de h1
 have e2:rx3 bs=rc3 bs:=by unfold rx3;rw [e1];rfl
 have e3:rx4 bs=ri1 bs:=by unfold rx4;rw [e2];exact l1 de h3
 have e4:rx5 bs=ri2 bs:=by unfold rx5;rw [e3];exact l1 de Y
 have M:rx6 bs=ri3 bs:=by unfold rx6;rw [e4];exact l1 de h5
 have T:rx7 bs=ri4 bs:=by unfold rx7;rw [M];exact l1 de h6
 have N:rx8 bs=ri5 bs:=by unfold rx8;rw [T];exact l1 de Z
 have e8:rx9 bs=ri6 bs:=by unfold rx9;rw [N];exact l1 de h8
 have O:rxA bs=rc5 bs:=by unfold rxA;rw [e8];rfl
 have J:rxB bs=rc7 bs:=by unfold rxB;rw [O];rfl
 have G:rxC bs=rc8 bs:=by unfold rxC;rw [J];exact l1 de H
 have K:rxD bs=rc9 bs:=by unfold rxD;rw [G];rfl
 have z:rxE bs=rcA bs:=by unfold rxE;rw [K];rfl
 exact ⟨L,e1,e2,e3,e4,M,T,N,e8,O,J,G,K,z⟩
theorem eqx_of_ref {bs:List Int} (h:(rxE bs).2.2=0) (hv:vaB (rxV bs ⟨none,0,0⟩ ⟨none,0,0⟩ ⟨none,0,0⟩) (rxA bs).1 (rxD bs).1 (rxE bs).1=true):EqX bs:=by
 obtain ⟨G,f2,f3,f4,f5,f6,W,O,f9,_,_,_,_,fC⟩:=yb9 hv;unfold rxV at G f2 f4 f5 f6 W O f9 fC;dsimp only at G f2 f4 f5 f6 W O f9 fC;have z:(rxD bs).2.2=0:=rL_ok h;have J:(rxC bs).2.2=0:=rL_ok z;have Z:(rxB bs).2.2=0:=ycE J;have h9:(rxA bs).2.2=0:=ycr Z;have h8:(rx9 bs).2.2=0:=rL_ok h9;have h7:(rx8 bs).2.2=0:=ycE h8;have h6:(rx7 bs).2.2=0:=ycE h7;have h5:(rx6 bs).2.2=0:=ycE h6;have h4:(rx5 bs).2.2=0:=ycE h5;have h3:(rx4 bs).2.2=0:=ycE h4;have h2:(rx3 bs).2.2=0:=ycE h3;have h1:(rx2 bs).2.2=0:=ycr h2;have h0:(rx1 bs).2.2=0:=ycE h1;have M:rx1 bs=rc1 bs:=l2 de h0 ⟨by have:=G.1;exact this,by have:=G.2;show (rx1 bs).1<=(1099511627776:Int);omega⟩
 have e1:rx2 bs=rc2 bs:=by
  have g1:((0:Nat):Int)<=(rx2 bs).1/\(rx2 bs).1<=((1099511627776:Nat):Int):=⟨by omega,by omega⟩;have g2:=l2 (bs:=bs) (s:=(rx1 bs).2) (a:=0) (m:=1099511627776) de h1 g1;have g3:rx2 bs=rI2 bs (rx1 bs).2:=rfl;rw [g3,g2,M];rfl
 have e2:rx3 bs=rc3 bs:=by unfold rx3;rw [e1];rfl
 have e3:rx4 bs=ri1 bs:=by
  have g1:((0:Nat):Int)<=(rx4 bs).1/\(rx4 bs).1<=((1099511627776:Nat):Int):=⟨by omega,by omega⟩;have g2:=l2 (bs:=bs) (s:=(rx3 bs).2) (a:=0) (m:=1099511627776) de h3 g1;have g3:rx4 bs=rI2 bs (rx3 bs).2:=rfl;rw [g3,g2,e2];rfl
 have e4:rx5 bs=ri2 bs:=by
  have g1:((0:Nat):Int)<=(rx5 bs).1/\(rx5 bs).1<=((1099511627776:Nat):Int):=⟨by omega,by omega⟩;have g2:=l2 (bs:=bs) (s:=(rx4 bs).2) (a:=0) (m:=1099511627776) de h4 g1;have g3:rx5 bs=rI2 bs (rx4 bs).2:=rfl;rw [g3,g2,e3];rfl
 have N:rx6 bs=ri3 bs:=by
  have g1:((0:Nat):Int)<=(rx6 bs).1/\(rx6 bs).1<=((1099511627776:Nat):Int):=⟨by omega,by omega⟩;have g2:=l2 (bs:=bs) (s:=(rx5 bs).2) (a:=0) (m:=1099511627776) de h5 g1;have g3:rx6 bs=rI2 bs (rx5 bs).2:=rfl;rw [g3,g2,e4];rfl
 have Y:rx7 bs=ri4 bs:=by
  have g1:((0:Nat):Int)<=(rx7 bs).1/\(rx7 bs).1<=((1099511627776:Nat):Int):=⟨by omega,by omega⟩;have g2:=l2 (bs:=bs) (s:=(rx6 bs).2) (a:=0) (m:=1099511627776) de h6 g1;have g3:rx7 bs=rI2 bs (rx6 bs).2:=rfl;rw [g3,g2,N];rfl
 have T:rx8 bs=ri5 bs:=by
  have g1:((0:Nat):Int)<=(rx8 bs).1/\(rx8 bs).1<=((1099511627776:Nat):Int):=⟨by omega,by omega⟩;have g2:=l2 (bs:=bs) (s:=(rx7 bs).2) (a:=0) (m:=1099511627776) de h7 g1;have g3:rx8 bs=rI2 bs (rx7 bs).2:=rfl;rw [g3,g2,Y];rfl
 have e8:rx9 bs=ri6 bs:=by
  have g1:((0:Nat):Int)<=(rx9 bs).1/\(rx9 bs).1<=((1099511627776:Nat):Int):=⟨by omega,by omega⟩;have g2:=l2 (bs:=bs) (s:=(rx8 bs).2) (a:=0) (m:=1099511627776) de h8 g1;have g3:rx9 bs=rI2 bs (rx8 bs).2:=rfl;rw [g3,g2,T];rfl
 have U:rxA bs=rc5 bs:=by unfold rxA;rw [e8];rfl
 have K:rxB bs=rc7 bs:=by unfold rxB;rw [U];rfl
 have H:rxC bs=rc8 bs:=by
  have g1:((0:Nat):Int)<=(rxC bs).1/\(rxC bs).1<=((1099511627776:Nat):Int):=⟨by omega,by omega⟩;have g2:=l2 (bs:=bs) (s:=(rxB bs).2) (a:=0) (m:=1099511627776) de J g1;have g3:rxC bs=rI2 bs (rxB bs).2:=rfl;rw [g3,g2,K];rfl
 have L:rxD bs=rc9 bs:=by unfold rxD;rw [H];rfl
 have aa:rxE bs=rcA bs:=by unfold rxE;rw [L];rfl
 exact ⟨M,e1,e2,e3,e4,N,Y,T,e8,U,K,H,L,aa⟩
theorem okx_eq {bs:List Int} (h:EqX bs):okX bs=okR bs/\∀pa pb pc,rxV bs pa pb pc=rcV bs pa pb pc:=by
 obtain ⟨J,L,Z,M,O,K,N,U,W,z,H,G,Y,T⟩:=h;refine ⟨?_,fun pa pb pc=>?_⟩
 ·unfold okX okR rxV rcV;rw [J,L,Z,M,O,K,N,U,W,z,H,G,Y,T]
  congr 1
  exact decide_eq_decide.2 yca
 ·unfold rxV rcV;rw [J,L,Z,M,O,K,N,U,W,H,G]
theorem okX_okR (bs:List Int):okX bs=okR bs:=by
 by_cases h:okX bs=true
 ·have h1:=h;unfold okX at h1;simp only [Bool.and_eq_true,decide_eq_true_eq] at h1;exact (okx_eq (eqx_of_ref (yca.1 h1.1).1 h1.2)).1
 ·by_cases h2:okR bs=true
  ·have h1:=h2;unfold okR at h1;simp only [Bool.and_eq_true,decide_eq_true_eq] at h1;exact (okx_eq (eqx_of_prog h1.1.1)).1
  ·rw [Bool.not_eq_true] at h h2;rw [h,h2]
theorem okR_eqx {bs:List Int} (h2:okR bs=true):EqX bs:=by
 have h1:=h2;unfold okR at h1;simp only [Bool.and_eq_true,decide_eq_true_eq] at h1;exact eqx_of_prog h1.1.1
theorem rY_more {bs:List Int} {m J:Nat} {s:RS} (h:(rY bs m s).2.2=0) (U:bs.length<=J):rY bs J s=rY bs m s:=by
 obtain ⟨h1,h2,Y⟩:=rV_ok (show (rV s [] (blkL bs m s.1)).2.2=0 from h);unfold rY
 suffices e:blkL bs J s.1=blkL bs m s.1 by rw [e]
 obtain ⟨v,e,q,N⟩:∃v e q,numF bs 10 0 0 s.1=(v,e,q):=⟨_,_,_,rfl⟩
 have W:0<=v:=by have:=ybY bs 10 0 0 s.1;rw [N] at this;exact this
 have K:∀k:Nat,¬(k:Int) < v->e=0->limF k (v,e,q)=(v,0,q):=fun k h1 h2=>by
  unfold limF;rw [if_pos (show (v,e,q).2.1=0 from h2),if_neg (show ¬(k:Int) < (v,e,q).1 from h1)]
 have M:∀k:Nat,(k:Int) < v->e=0->limF k (v,e,q)=(0,2,q):=fun k h1 h2=>by
  unfold limF;rw [if_pos (show (v,e,q).2.1=0 from h2),if_pos (show (k:Int) < (v,e,q).1 from h1)]
 have O:∀k:Nat,e≠0->limF k (v,e,q)=(0,e,q):=fun k h2=>by
  unfold limF;rw [if_neg (show ¬(v,e,q).2.1=0 from h2)]
 unfold blkL at h2 ⊢;rw [N] at h2 ⊢
 by_cases G:e=0
 ·by_cases L:(m:Int) < v
  ·rw [M m L G] at h2;exact absurd (show (2:Int)=0 from h2) de
  ·rw [K m L G] at h2 ⊢;have H:(tkL bs v.toNat q).2.1=0:=h2
   have T:¬bs.length < q+v.toNat:=fun hl=>by
    unfold tkL at H;rw [if_pos hl] at H;exact absurd (show (3:Int)=0 from H) de
   rw [K J om G]
 ·rw [O m G] at h2;have H:(if e=0 then tkL bs (0:Int).toNat q else ([],e,q)).2.1=0:=h2;rw [if_neg G] at H;exact absurd H G
section
variable {bs:List Int} (hb:∀b∈bs,0<=b/\b < 256)
def EqT (bs:List Int):Prop:=(ry1 bs).2=(dT1 bs).2/\sB (ry1 bs).1=(dT1 bs).1/\ry2 bs=rS bs (dT1 bs).2/\ry3 bs=rN 0 15 bs (ry2 bs).2/\dT2 bs=(((ry2 bs).1,(ry3 bs).1),(ry3 bs).2)/\ry4 bs=dT3 bs/\ry5 bs=dT4 bs
include hb
theorem eqt_prog (hl:bs.length<=65536) (h:(dT4 bs).2.2=0):EqT bs:=by
 have W:(dT3 bs).2.2=0:=ycr h;have h2:(dT2 bs).2.2=0:=ycr W;have G:(rN 0 15 bs (rS bs (dT1 bs).2).2).2.2=0:=h2;have M:(rS bs (dT1 bs).2).2.2=0:=ycF G;have h1:(dT1 bs).2.2=0:=ycr M;have K:rY bs 65536 (0,0)=dT1 bs:=rY_more h1 hl
 have L:(ry1 bs).2=(dT1 bs).2:=by
  show (rT bs 65536 (0,0)).2=_;rw [rT_rY,K]
 have T:sB (ry1 bs).1=(dT1 bs).1:=by
  show sB (rT bs 65536 (0,0)).1=_;rw [sB_rT hb,K]
 have H:ry2 bs=rS bs (dT1 bs).2:=by unfold ry2;rw [L]
 have J:ry3 bs=rN 0 15 bs (ry2 bs).2:=by unfold ry3;rw [H];exact l1 de G
 have N:dT2 bs=(((ry2 bs).1,(ry3 bs).1),(ry3 bs).2):=by rw [J,H];rfl
 have O:ry4 bs=dT3 bs:=by unfold ry4 dT3;rw [N]
 have U:ry5 bs=dT4 bs:=by unfold ry5 dT4;rw [O]
 exact ⟨L,T,H,J,N,O,U⟩
theorem eqt_ref (hl:bs.length<=65536) (h:(ry5 bs).2.2=0) (O:0<=(ry3 bs).1/\(ry3 bs).1<=15):EqT bs:=by
 have W:(ry4 bs).2.2=0:=ycr h;have K:(ry3 bs).2.2=0:=ycr W;have h2:(ry2 bs).2.2=0:=ycE K;have h1:(ry1 bs).2.2=0:=ycr h2
 have L:(rY bs 65536 (0,0)).2.2=0:=by
  have:=h1;unfold ry1 at this;rw [rT_rY] at this;exact this
 have H:dT1 bs=rY bs 65536 (0,0):=rY_more L nl
 have J:(ry1 bs).2=(dT1 bs).2:=by
  show (rT bs 65536 (0,0)).2=_;rw [rT_rY,H]
 have U:sB (ry1 bs).1=(dT1 bs).1:=by
  show sB (rT bs 65536 (0,0)).1=_;rw [sB_rT hb,H]
 have M:ry2 bs=rS bs (dT1 bs).2:=by unfold ry2;rw [J]
 have G:ry3 bs=rN 0 15 bs (ry2 bs).2:=l2 (bs:=bs) (s:=(ry2 bs).2) (a:=0) (m:=15) de K ⟨O.1,O.2⟩;have N:dT2 bs=(((ry2 bs).1,(ry3 bs).1),(ry3 bs).2):=by rw [G,M];rfl
 have T:ry4 bs=dT3 bs:=by unfold ry4 dT3;rw [N]
 have Y:ry5 bs=dT4 bs:=by unfold ry5 dT4;rw [T]
 exact ⟨J,U,M,G,N,T,Y⟩
theorem okt_eq (h:EqT bs) (h0:(ry5 bs).2.2=0):okY bs=okT bs/\tkB (ry2 bs).1 (ry3 bs).1 (ry4 bs).1 (ry5 bs).1=true:=by
 obtain ⟨T,K,U,H,W,Y,L⟩:=h;have G:(ry4 bs).2.2=0:=ycr h0;have N:(ry3 bs).2.2=0:=ycr G;have h2:(ry2 bs).2.2=0:=ycE N;have M:(ry5 bs).1.size=32:=(rS_only hb (s:=(ry4 bs).2) h0).2.1;have z4:(ry4 bs).1.size=32:=(rS_only hb (s:=(ry3 bs).2) G).2.1;have J:(ry2 bs).1.size=32:=(rS_only hb (s:=(ry1 bs).2) h2).2.1;have O:0<=(ry3 bs).1/\(ry3 bs).1<=15:=by rw [H];exact rN_range
 have ht:tkB (ry2 bs).1 (ry3 bs).1 (ry4 bs).1 (ry5 bs).1=true:=by
  unfold tkB idB;simp only [Bool.and_eq_true,decide_eq_true_eq];exact ⟨⟨J,O⟩,z4,M⟩
 refine ⟨?_,ht⟩;unfold okY okT;rw [ht,Bool.and_true,okX_okR,K,<-L]
 congr 1
 exact decide_eq_decide.2 yca
theorem okY_okT (hl:bs.length<=65536):okY bs=okT bs:=by
 by_cases h:okY bs=true
 ·have h1:=h;unfold okY at h1;simp only [Bool.and_eq_true,decide_eq_true_eq] at h1;have h0:=(yca.1 h1.1).1;exact (okt_eq hb (eqt_ref hb hl h0 (tkB_facts h1.2.2).2.1) h0).1
 ·by_cases h2:okT bs=true
  ·have h1:=h2;unfold okT at h1;simp only [Bool.and_eq_true,decide_eq_true_eq] at h1;have G:=eqt_prog hb hl h1.1.1;exact (okt_eq hb G (by rw [G.2.2.2.2.2.2];exact h1.1.1)).1
  ·rw [Bool.not_eq_true] at h h2;rw [h,h2]
theorem okT_eqt (hl:bs.length<=65536) (h2:okT bs=true):EqT bs/\okR (dT1 bs).1=true:=by
 have h1:=h2;unfold okT at h1;simp only [Bool.and_eq_true,decide_eq_true_eq] at h1;exact ⟨eqt_prog hb hl h1.1.1,h1.2⟩
end
section
variable {bs:List Int} (hb:∀b∈bs,0<=b/\b < 256)
def EqA (bs:List Int):Prop:=rz1 bs=dA1 bs/\rz2 bs=dA2 bs/\rz3 bs=rS bs (dA2 bs).2/\rz4 bs=rN 0 15 bs (rz3 bs).2/\dA3 bs=(((rz3 bs).1,(rz4 bs).1),(rz4 bs).2)/\(rz5 bs).2=(dA4 bs).2/\sB (rz5 bs).1=(dA4 bs).1/\rz6 bs=dA6 bs
theorem dA6_rL:dA6 bs=rL bs 16 (dA4 bs).2:=rfl
include hb
theorem eqa_tail (M:rz1 bs=dA1 bs) (N:rz2 bs=dA2 bs) (J:rz3 bs=rS bs (dA2 bs).2) (H:rz4 bs=rN 0 15 bs (rz3 bs).2):EqA bs:=by
 have G:dA3 bs=(((rz3 bs).1,(rz4 bs).1),(rz4 bs).2):=by rw [H,J];rfl
 have K:(rz5 bs).2=(dA4 bs).2:=by
  unfold rz5 dA4;rw [rT_rY,G]
 have O:sB (rz5 bs).1=(dA4 bs).1:=by
  unfold rz5 dA4;rw [sB_rT hb,G]
 have L:rz6 bs=dA6 bs:=by
  rw [dA6_rL,<-K];rfl
 exact ⟨M,N,J,H,G,K,O,L⟩
theorem eqa_prog (h:(dA6 bs).2.2=0):EqA bs:=by
 have N:(dA4 bs).2.2=0:=rL_ok h;have O:(dA3 bs).2.2=0:=rY_ok0 N;have G:(rN 0 15 bs (rS bs (dA2 bs).2).2).2.2=0:=O;have K:(rS bs (dA2 bs).2).2.2=0:=ycF G;have h2:(dA2 bs).2.2=0:=ycr K;have h1:(dA1 bs).2.2=0:=ycF h2;have H:rz1 bs=dA1 bs:=l1 de h1;have J:rz2 bs=dA2 bs:=by unfold rz2;rw [H];exact l1 de h2
 have L:rz3 bs=rS bs (dA2 bs).2:=by unfold rz3;rw [J]
 have M:rz4 bs=rN 0 15 bs (rz3 bs).2:=by unfold rz4;rw [L];exact l1 de G
 exact eqa_tail hb H J L M
theorem eqa_ref (h:(rz6 bs).2.2=0) (hn:numB (rz1 bs).1 (rz2 bs).1=true) (L:0<=(rz4 bs).1/\(rz4 bs).1<=15):EqA bs:=by
 unfold numB at hn;simp only [decide_eq_true_eq] at hn;have N:(rz5 bs).2.2=0:=rL_ok h;have J:(rz4 bs).2.2=0:=rT_ok0 N;have O:(rz3 bs).2.2=0:=ycE J;have h2:(rz2 bs).2.2=0:=ycr O;have h1:(rz1 bs).2.2=0:=ycE h2;have G:rz1 bs=dA1 bs:=l2 (bs:=bs) (s:=(0,0)) (a:=0) (m:=11) de h1 ⟨hn.1.1,hn.1.2⟩;have K:rz2 bs=rN 1 1099511627776 bs (rz1 bs).2:=l2 (bs:=bs) (s:=(rz1 bs).2) (a:=1) (m:=1099511627776) de h2 ⟨hn.2.1,hn.2.2⟩;have H:rz2 bs=dA2 bs:=by rw [K,G];rfl
 have T:rz3 bs=rS bs (dA2 bs).2:=by unfold rz3;rw [H]
 have M:rz4 bs=rN 0 15 bs (rz3 bs).2:=l2 (bs:=bs) (s:=(rz3 bs).2) (a:=0) (m:=15) de J ⟨L.1,L.2⟩;exact eqa_tail hb G H T M
end
theorem oka_eq {bs:List Int} (h:EqA bs) (h0:(dA6 bs).2.2=0):okZ bs=okA bs:=by
 obtain ⟨J,K,W,T,O,Z,M,H⟩:=h;have L:(dA4 bs).2.2=0:=rL_ok h0;have N:(dA3 bs).2.2=0:=rY_ok0 L;have G:(rN 0 15 bs (rS bs (dA2 bs).2).2).2.2=0:=N;have h2:(dA2 bs).2.2=0:=ycr (ycF G);have h1:(dA1 bs).2.2=0:=ycF h2;have g1:=rN_ok (show (rN 0 11 bs (0,0)).2.2=0 from h1);have g2:=rN_ok (show (rN 1 1099511627776 bs (dA1 bs).2).2.2=0 from h2)
 have hn:numB (rz1 bs).1 (rz2 bs).1=true:=by
  rw [J,K];have U:(dA1 bs).1=(rU bs (0,0)).1:=by rw [<-g1.2.2];rfl
  have Y:(dA2 bs).1=(rU bs (dA1 bs).2).1:=by rw [<-g2.2.2];rfl
  unfold numB;simp only [decide_eq_true_eq];have:=g1.2.1;have:=g2.2.1;omega
 unfold okZ okA;rw [hn,Bool.true_and,O,M,H]
 congr 1
 exact decide_eq_decide.2 yca
section
variable {bs:List Int} (hb:∀b∈bs,0<=b/\b < 256)
include hb
theorem okZ_okA:okZ bs=okA bs:=by
 by_cases h:okZ bs=true
 ·have h1:=h;unfold okZ shL at h1;simp only [Bool.and_eq_true,decide_eq_true_eq] at h1;have h0:=(yca.1 h1.1).1;have G:=eqa_ref hb h0 h1.2.1 h1.2.2.1.2;exact oka_eq G (by rw [<-G.2.2.2.2.2.2.2];exact h0)
 ·by_cases h2:okA bs=true
  ·have h1:=h2;unfold okA at h1;simp only [Bool.and_eq_true,decide_eq_true_eq] at h1;exact oka_eq (eqa_prog hb h1.1.1) h1.1.1
  ·rw [Bool.not_eq_true] at h h2;rw [h,h2]
theorem okA_eqa (h2:okA bs=true):EqA bs:=by
 have h1:=h2;unfold okA at h1;simp only [Bool.and_eq_true,decide_eq_true_eq] at h1;exact eqa_prog hb h1.1.1
end
