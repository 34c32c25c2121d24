/- The judge, made. -/
import Derived.Test.YtpdledjgbgalcaaGreatDoorPr
namespace Go.Proofs.YtpdledjgbgalcaaGreatDoor
set_option maxRecDepth 100000
set_option maxHeartbeats 4000000
open Go.RowKit Go.Lib
set_option linter.unusedVariables false
set_option linter.unusedSimpArgs false
def JdR (aq:EnR→AqX) (mt:EnR→MtX) (x:Vw) (es:List EnR) (w wr:World) (k:Nat):Prop:=
 Below w.heap.size w wr∧∃lab A n c mN mS mM,JSt wr lab w.heap.size k k k x (frE (es.take k)) A n c mN mS mM (hasE (frE (es.take k))) (pcsE aq (frE (es.take k))) (mtsE mt (frE (es.take k)))
theorem judge_any (aq:EnR→AqX) (mt:EnR→MtX) (x:Vw) (es:List EnR) (B:Nat) (w:World) (hE:EnIn w B x.E.a x.E.n es) (hB:B≤w.heap.size) (hn:x.E.n≤1000)
 (hA:∀e∈es,e.k=7→(∀V,Below w.heap.size w V→Calls Tryz.prog 103 #[.agg (fEn e).toArray] V (AqP (aq e) V))∧int64 (aq e).d∧int64 (aq e).q)
 (hM:∀e∈es,e.k=9→∀V,Below w.heap.size w V→Calls Tryz.prog 35 #[.agg (fEn e).toArray] V (MtP (mt e) V)):
 Calls Tryz.prog 50 #[.agg (cVw x)] w (JdP aq mt x es w):=by
 obtain ⟨⟨EA,En,Ec⟩,VV,PP,xb,xh,DD,FF⟩:=x;obtain ⟨X,hX⟩:∃X:Vw,X=⟨⟨EA,En,Ec⟩,VV,PP,xb,xh,DD,FF⟩:=⟨_,rfl⟩
 have HXE:=lh hX;have HE:Hid (EnIn w B EA En es):=hE;have HBB:=lh hB;have HEN:Hid (es.length=En):=hE.1.1;have HA:=lh hA;have HM:=lh hM;have HIN:=lh (JSt.init X w);have HBI:Hid (Below w.heap.size w (jw5 X w)):=((((bl.alloc sI _).alloc yaW _).alloc yaW _).alloc yaW _);obtain ⟨i0,hi0,hi1,hi2,hi3⟩:=info_parts Tryz.infoE;have HI0:=lh hi0;have HI1:=lh hi1;have HI2:=lh hi2;have HI3:=lh hi3;have hmm:= @run_makeMap Tryz.prog;clear hi0 hi1 hi2 hi3;clear hE hB hA hM hX;go_enter Tryz.func50,Tryz.ntmps50
 go_upto_region 4 with fail
 clear hmm
 go_loopw [25] (fun i wr=>∃k:Nat,k≤En∧i= .int .i64 k∧Hid (JdR aq mt X es w wr k)) (fun i _=>En - (intOf i).toNat)
 case atStart=>
  have h:=HXE.out;subst h;exact ⟨0,Nat.zero_le _,rfl,HBI.out,_,_,_,_,_,_,_,HIN.out⟩
 case round=>
  clear HIN HBI;obtain ⟨k,hk,rfl,HR⟩:=hrel
  by_cases hlt:k < En
  ·obtain ⟨hbw,lab,A,n,c,mN,mS,mM,hJ⟩:=HR.out
   clear HR;obtain ⟨b,off,e,rfl,hbB,he,hat⟩:=(HE.out.up hbw HBB.out).1.at_ hlt;have hkI:(k:Int) < (En:Int):=by omega
   obtain ⟨dv,sq,ek,dy,bd,pr,bs⟩:=e;have hx0:wr.cell? ⟨b,off+k*6,none⟩=some (.int .i64 dv):=by rw [show off+k*6=off+(k*6+0) by omega];exact hat 0 _ rfl
   have hx1:wr.cell? ⟨b,off+k*6+1,none⟩=some (.int .i64 sq):=by rw [show off+k*6+1=off+(k*6+1) by omega];exact hat 1 _ rfl
   have hx2:wr.cell? ⟨b,off+k*6+2,none⟩=some (.int .i64 ek):=by rw [show off+k*6+2=off+(k*6+2) by omega];exact hat 2 _ rfl
   have hx3:wr.cell? ⟨b,off+k*6+3,none⟩=some (.int .i64 dy):=by rw [show off+k*6+3=off+(k*6+3) by omega];exact hat 3 _ rfl
   have hx4:wr.cell? ⟨b,off+k*6+4,none⟩=some (.slice bd.a bd.n bd.c):=by rw [show off+k*6+4=off+(k*6+4) by omega];exact hat 4 _ rfl
   have hx5:wr.cell? ⟨b,off+k*6+5,none⟩=some (.string pr):=by rw [show off+k*6+5=off+(k*6+5) by omega];exact hat 5 _ rfl
   have HG:=lh he;have HJ:=lh hJ;have HBw:=lh hbw;have HOk:=lh (HE.out.2 _ (List.mem_of_getElem? he));have HS5:Hid (w.heap.size+5≤wr.heap.size):=hJ.hi.1;clear hat he hJ hbw
   go_upto_region 7 with fail
   obtain ⟨W2,hW⟩:∃W2:World,W2=(wr.alloc (.cells #[.int .i64 dv,.int .i64 sq,.int .i64 ek,.int .i64 dy,.slice bd.a bd.n bd.c,.string pr] 55)).alloc (.cells #[.int .i64 dv,.int .i64 sq] 171):=⟨_,rfl⟩
   have hg6:W2.heap[wr.heap.size]? =some (.cells #[.int .i64 dv,.int .i64 sq,.int .i64 ek,.int .i64 dy,.slice bd.a bd.n bd.c,.string pr] 55 (0,0)):=by rw [hW];exact (Below.heap_alloc _ _ _ sI).trans (heap_alloc_new wr _)
   have hg7:W2.heap[wr.heap.size+1]? =some (.cells #[.int .i64 dv,.int .i64 sq] 171 (0,0)):=by
    rw [hW]
    have:=heap_alloc_new (wr.alloc (.cells #[.int .i64 dv,.int .i64 sq,.int .i64 ek,.int .i64 dy,.slice bd.a bd.n bd.c,.string pr] 55)) (.cells #[.int .i64 dv,.int .i64 sq] 171)
    simpa using this
   have hba:Below wr.heap.size wr W2:=by rw [hW];exact bl.alloc sI _
   have hsz2:W2.heap.size=wr.heap.size+2:=by rw [hW];simp
   rw [←hW];have HB2:Hid (Below w.heap.size w W2):=HBw.out.trans (hba.mono HBw.out.size);have HJ2:=lh (HJ.out.on hba);have HLX:Hid (lab wr.heap.size= .dat):=HJ.out.hi.2 _ nl;have HG6:=lh hg6;have HS2:=lh hsz2;have h6a:=cell_of_row W2 _ 0 _ _ _ hg6;have h7a:=cell_of_row W2 _ 0 _ _ _ hg7;have h7b:=cell_of_row W2 _ 1 _ _ _ hg7;simp at h6a h7a h7b;have hd64:int64 dv:=HOk.out.2.2.2.2.1;have hq64:int64 sq:=HOk.out.2.2.2.2.2;have HD6:=lh hd64;have HQ6:=lh hq64;have hlook:=HJ2.out.seen.1.look (Maps.Keyed.of_law Num.law) Tryz.underlying169 (Num.zero W2) (kN_of hd64 hq64);rw [HJ2.out.seen.2 dv sq hd64 hq64] at hlook;unfold pN at hlook;clear hx0 hx1 hx2 hx3 hx4 hx5 hW hg6 hg7 hba HJ hsz2 hd64 hq64 h6a
   cases hs:hasE (frE (es.take k)) dv sq with
   |true=>
    rw [hs] at hlook;have HSN:Hid (frE (es.take (k+1))=frE (es.take k)):=by show _=_;rw [frE_take HG.out];exact putE_yes hs
    clear hs;go_wp2;refine ⟨?rel,?measure⟩
    case rel=>exact ⟨k+1,by omega,by go_num,HB2.out,by rw [HSN.out];exact ⟨_,_,_,_,_,_,_,HJ2.out.more (Nat.le_succ k) (Nat.le_succ k) (Nat.le_succ k)⟩⟩
    case measure=>simp [intOf];omega
   |false=>
    rw [hs] at hlook;have HSN:Hid (frE (es.take (k+1))=frE (es.take k)++[⟨dv,sq,ek,dy,bd,pr,bs⟩]):=by show _=_;rw [frE_take HG.out];exact putE_no hs
    obtain ⟨W3,r1,hm3,hg3⟩:=HJ2.out.seen.1.store (Maps.Keyed.of_law Num.law) Tryz.underlying169 yaS (kN_of HD6.out HQ6.out) (.bool true);unfold pN at r1;have HJ3:=lh (HJ2.out.note HD6.out HQ6.out hg3 hm3);have HS3:Hid (wr.heap.size+2≤W3.heap.size):=by have h1:=hg3.size;have h2:=HS2.out;show _≤_;omega
    have HX3:Hid (W3.heap[wr.heap.size]? =some (.cells #[.int .i64 dv,.int .i64 sq,.int .i64 ek,.int .i64 dy,.slice bd.a bd.n bd.c,.string pr] 55 (0,0))):=(hg3.block _ (lt_of_block HG6.out) (fun e=>by injection e with e;have:=HS5.out;omega)).trans HG6.out;have HB3:Hid (Below w.heap.size w W3):=HB2.out.trans (yaY hg3 (fun j hj=>by injection hj with hj;omega) HB2.out.size)
    have HHS:Hid ((fun d' q'=>hasE (frE (es.take k)) d' q'||(decide (d'=dv)&&decide (q'=sq)))=hasE (frE (es.take (k+1)))):=by
     show _=_
     funext d' q'
     rw [HSN.out,hasE_snoc];simp [eq_comm]
    clear hs hm3 hg3 HJ2 HB2
    go_upto_region 9 with fail
    clear hlook r1 h7a h7b;have hj7:=cell_of_row W3 _ 7 _ _ _ HJ3.out.jd;have y0:=cell_of_row W3 _ 0 _ _ _ HX3.out;have y1:=cell_of_row W3 _ 1 _ _ _ HX3.out;have y2:=cell_of_row W3 _ 2 _ _ _ HX3.out;have y3:=cell_of_row W3 _ 3 _ _ _ HX3.out;have y4:=cell_of_row W3 _ 4 _ _ _ HX3.out;have y5:=cell_of_row W3 _ 5 _ _ _ HX3.out;simp at hj7 y0 y1 y2 y3 y4 y5;have hfl:(frE (es.take k)).length≤k:=ydk es k;have HK1:Hid (((frE (es.take k)).length+[(⟨dv,sq,ek,dy,bd,pr,bs⟩:EnR)].length)*72≤140737488355328):=by show _≤_;simp;omega
    have HK2:Hid ((frE (es.take k)).length+[(⟨dv,sq,ek,dy,bd,pr,bs⟩:EnR)].length≤maxLen):=by show _≤_;unfold maxLen;simp;omega
    have hz3:=HS3.out;have hz5:=HS5.out
    go_cut [] from 39 to 107 (fun wx=>∃lab A n c,lab wr.heap.size= .dat∧Below w.heap.size w wx∧wr.heap.size+2≤wx.heap.size∧wx.heap[wr.heap.size]? =some (.cells #[.int .i64 dv,.int .i64 sq,.int .i64 ek,.int .i64 dy,.slice bd.a bd.n bd.c,.string pr] 55 (0,0))∧JSt wx lab w.heap.size (k+1) k k X (frE (es.take (k+1))) A n c (putM mN (kN dv sq) (.bool true)) mS mM (hasE (frE (es.take (k+1)))) (pcsE aq (frE (es.take k))) (mtsE mt (frE (es.take k))))
    case first=>
     have hj7a:∀o,(W3.alloc o).cell? ⟨w.heap.size+3,7,none⟩=some (.slice A n c):=fun o=>by rw [cell_of_row (W3.alloc o) _ 7 _ _ _ ((Below.heap_alloc W3 o _ (lt_of_block HJ3.out.jd)).trans HJ3.out.jd)];rfl
     go_region_law (first |((refine yda yb6 om rfl (.tmp 43) (.tmp 45) 22 rfl 55 i0 _ 72 Tryz.underlying22 HI0.out HI1.out HI2.out HI3.out Tryz.zsE (.slice A n c) rfl (frE (es.take k)) (w.heap.size+5) ?_ [⟨dv,sq,ek,dy,bd,pr,bs⟩] ?_ ydl HK1.out HK2.out ?_ ?_);(repeat (first |exact HJ3.out.ent.1 |refine OwnN.drewN ?_ _ |refine OwnN.drew ?_ |refine OwnN.alloc ?_ _));(exact ⟨_,_,1,1,rfl,SlN.oneJ (f:=fEn) (y:=⟨dv,sq,ek,dy,bd,pr,bs⟩) (heap_alloc_new _ _) (Nat.lt_succ_self _)⟩);(simp;omega);(intro A4 n4 c4 w4 HO4 HG4 HC4;(have HP:=lh (HJ3.out.app_ent (by first |exact (Below.drew br).alloc nl _ |exact Below.drew bl) HO4.out HG4.out HC4.out));(have e47:w4.cell? ⟨w.heap.size+3,7,none⟩=some (.slice A n c):=(by rw [cell_of_row w4 _ 7 _ _ _ HP.out.1];rfl));(have f47:w4.frozen? ⟨w.heap.size+3,7,none⟩=false:=frozen_of_row w4 _ _ _ _ HP.out.1))))
     all_goals
      have hJ5:=HP.out.2.1;rw [HHS.out,←HSN.out] at hJ5;have HJ5:=lh hJ5;clear hJ5
      go_wp2_with fail
      go_meet
      case rel=>exact ⟨_,_,_,_,(yb5 (n:=W3.heap.size) (HC4.out.imp id (fun ⟨g,g1,g2⟩=>⟨g,g1,Nat.le_trans sI g2⟩)) HJ3.out.ent.2 (lt_of_block HX3.out)).trans HLX.out,HP.out.2.2.2 _ HB3.out,Nat.le_trans HS3.out HP.out.2.2.1.le,(HP.out.2.2.1.same _ (lt_of_block HX3.out) (by rw [HLX.out];simp)).trans HX3.out,HJ5.out⟩
    case rest=>
     clear HJ3 HX3 HB3 HS3 HI0 HI1 HI2 HI3 HK1 HK2 HHS hj7 y0 y1 y2 y3 y4 y5 hfl hz3;obtain ⟨lab2,A2,n2,c2,hlx2,hb6,hs6,hx6,hj6⟩:=hcut;have HLX2:=lh hlx2;clear hlx2;have HB6:=lh hb6;have HS6:=lh hs6;have HX6:=lh hx6;have HJ6:=lh hj6;have y0:=cell_of_row wc _ 0 _ _ _ hx6;have y1:=cell_of_row wc _ 1 _ _ _ hx6;have y2:=cell_of_row wc _ 2 _ _ _ hx6;have y3:=cell_of_row wc _ 3 _ _ _ hx6;have y4:=cell_of_row wc _ 4 _ _ _ hx6;have y5:=cell_of_row wc _ 5 _ _ _ hx6;simp at y0 y1 y2 y3 y4 y5;have hmem:(⟨dv,sq,ek,dy,bd,pr,bs⟩:EnR)∈es:=List.mem_of_getElem? HG.out;clear hb6 hs6 hx6 hj6
     by_cases h7:ek=7
     ·subst h7
      obtain ⟨hq0,hqd,hqq⟩:=HA.out _ hmem rfl;have HQ:=lh hq0;have HQD:=lh hqd;have HQQ:=lh hqq;clear hq0 hqd hqq hmem;have HP9:Hid (mtsE mt (frE (es.take (k+1)))=mtsE mt (frE (es.take k))):=by show _=_;rw [HSN.out];exact mtsE_same mt (fun g=>by have:=g.1;simp at this)
      obtain ⟨a,ha⟩:∃a:AqX,aq ⟨dv,sq,7,dy,bd,pr,bs⟩=a:=⟨_,rfl⟩
      rw [ha] at HQ HQD HQQ;have HAE:=lh ha;clear ha
      by_cases h0:a.er=0
      ·
       have hk0:(a.er==0)=true:=by simp [h0]
       have HN1:Hid (pcsE aq (frE (es.take (k+1))) a.d a.q dv=pcsE aq (frE (es.take k)) a.d a.q dv++[a.x]):=by
        show _=_
        have:=pcsE_put aq (l:=frE (es.take k)) (e:=⟨dv,sq,7,dy,bd,pr,bs⟩) rfl (by rw [HAE.out];exact h0)
        rw [HAE.out] at this;rw [HSN.out];exact this
       have HN2:Hid (∀d' q' y',¬(d'=a.d∧q'=a.q∧y'=dv)→pcsE aq (frE (es.take (k+1))) d' q' y'=pcsE aq (frE (es.take k)) d' q' y'):=fun d' q' y' hne=>by
        rw [HSN.out];exact pcsE_far aq (e:=⟨dv,sq,7,dy,bd,pr,bs⟩) (by rw [HAE.out];exact hne)
       obtain ⟨i1,hi0,hi1,hi2,hi3⟩:=info_parts Tryz.infoPc;have HI0:=lh hi0;have HI1:=lh hi1;have HI2:=lh hi2;have HI3:=lh hi3;have hfl:(frE (es.take k)).length≤k:=ydk es k;have hml:(pcsE aq (frE (es.take k)) a.d a.q dv).length≤(frE (es.take k)).length:=List.length_filterMap_le _ _;clear h0 hi0 hi1 hi2 hi3
       go_upto_region 15 with (go_at_call 103;(with_reducible refine (HQ.out _ HB6.out).mono ?_);rintro e w7 ⟨hd,hq,rfl,⟨s1,f1⟩,⟨s2,f2⟩,hcc,b7⟩;(have y0a:∀o,(w7.alloc o).cell? ⟨wr.heap.size,0,none⟩=some (.int .i64 dv):=fun o=>((b7.alloc b7.size o).cell (by have:=HS6.out;simp;omega)).trans y0);(have HB7:=lh b7);(have HS1:=lh s1);(have HS2:=lh s2);(have HF0:=lh f1);(have HF2:=lh f2);(have HCC:=lh hcc);clear s1 f1 s2 f2 hcc b7)
       obtain ⟨W8,hW⟩:∃W8:World,W8=(w7.alloc (.cells #[.string a.x.st,.int .i64 a.x.ix,.slice hd.a hd.n hd.c,.slice hq.a hq.n hq.c] 42)).alloc (.cells #[.int .i64 a.d,.int .i64 a.q,.int .i64 dv] 173):=⟨_,rfl⟩
       have hb8:Below w7.heap.size w7 W8:=by rw [hW];exact bl.alloc sI _
       have hc8:W8.heap[w7.heap.size]? =some (.cells #[.string a.x.st,.int .i64 a.x.ix,.slice hd.a hd.n hd.c,.slice hq.a hq.n hq.c] 42 (0,0))∧W8.heap[w7.heap.size+1]? =some (.cells #[.int .i64 a.d,.int .i64 a.q,.int .i64 dv] 173 (0,0)):=by
        rw [hW];refine ⟨(Below.heap_alloc _ _ _ sI).trans (heap_alloc_new w7 _),?_⟩
        have:=heap_alloc_new (w7.alloc (.cells #[.string a.x.st,.int .i64 a.x.ix,.slice hd.a hd.n hd.c,.slice hq.a hq.n hq.c] 42)) (.cells #[.int .i64 a.d,.int .i64 a.q,.int .i64 dv] 173)
        simpa using this
       rw [←hW];have HC8:=lh hc8;have HB8:Hid (Below wc.heap.size wc W8):=HB7.out.trans (hb8.mono HB7.out.size);have HJ8:=lh (HJ6.out.on HB8.out);have HMK:Hid (PcK W8 lab2 ⟨a.x,hd,hq⟩):=PcK.fr (P:=fun _=>False) ⟨⟨HS1.out,HJ6.out.fresh _ HF0.out⟩,⟨HS2.out,HJ6.out.fresh _ HF2.out⟩,HCC.out⟩ (FrP.below hb8) (fun h=>h);have HLD:Hid (lab2 w7.heap.size= .dat∧lab2 (w7.heap.size+1)= .dat):=⟨HJ6.out.hi.2 _ HB7.out.size,HJ6.out.hi.2 _ (Nat.le_succ_of_le HB7.out.size)⟩;obtain ⟨ps,hms1,hms2,hms3,hms4⟩:=HJ8.out.shr a.d a.q dv HQD.out HQQ.out HD6.out;have hml2:ps.length=(pcsE aq (frE (es.take k)) a.d a.q dv).length:=by rw [←hms1];simp
       have HK1:Hid ((ps.length+[(⟨a.x,hd,hq⟩:PcR)].length)*72≤140737488355328):=by show _≤_;simp;omega
       have HK2:Hid (ps.length+[(⟨a.x,hd,hq⟩:PcR)].length≤maxLen):=by show _≤_;unfold maxLen;simp;omega
       have HO8:=lh hms2;have HMS:=lh hms1;have HML:=lh hms3;have HMA:=lh hms4;have hz8:w.heap.size+5≤W8.heap.size:=HJ8.out.hi.1;have hz7:w.heap.size+5≤w7.heap.size:=Nat.le_trans HJ6.out.hi.1 HB7.out.size;clear hW hb8 hc8 y0 y1 y2 y3 y4 y5 y0a hms1 hms2 hms3 hms4;refine wp_region_held_drew (S:=(fun w'=>w'.heap[w.heap.size+3]? =some (.cells (cJ X A2 n2 c2 (w.heap.size+1) (w.heap.size+2)) 168 (0,0))∧w'.heap[w7.heap.size]? =some (.cells #[.string a.x.st,.int .i64 a.x.ix,.slice hd.a hd.n hd.c,.slice hq.a hq.n hq.c] 42 (0,0))∧w'.heap[w7.heap.size+1]? =some (.cells #[.int .i64 a.d,.int .i64 a.q,.int .i64 dv] 173 (0,0)))) yaV (by exact ⟨HJ8.out.jd,HC8.out.1,HC8.out.2⟩) (fun hHeld=>?_);refine tkY 0 ?_;refine tkY 1 ?_;refine tkY 2 ?_;refine tkH (i:=3) (v:=?p4v) (y:=(Or.inl ⟨by rfl,?p4y⟩)) (h:=?p4r)
       case p4y=>(intro w hSw;(try dsimp only at hSw);have hq:=cj8 hSw.1;go_simp;try (with_reducible rfl))
       try simp only [pt]
       refine tkH (i:=4) (v:=?p5v) (y:=(Or.inl ⟨by rfl,?p5y⟩)) (h:=?p5r)
       case p5y=>(intro w hSw;(try dsimp only at hSw);obtain ⟨q0,q1,q2⟩:=c3rows hSw.2.2;go_simp;try (with_reducible rfl))
       try simp only [pt]
       refine tkH (i:=5) (v:=?p6v) (y:=(Or.inl ⟨by rfl,?p6y⟩)) (h:=?p6r)
       case p6y=>(intro w hSw;(try dsimp only at hSw);obtain ⟨q0,q1,q2,q3⟩:=c4rows hSw.2.1;go_simp;try (with_reducible rfl))
       try simp only [pt]
       refine rd1 6 (fun K hK=>?_)
       go_simp
       refine hK.out _ _ (by exact ⟨(Below.heap_alloc _ _ _ (lt_of_block HJ8.out.jd)).trans HJ8.out.jd,(Below.heap_alloc _ _ _ (lt_of_block HC8.out.1)).trans HC8.out.1,(Below.heap_alloc _ _ _ (lt_of_block HC8.out.2)).trans HC8.out.2⟩) (fun hHeldp7=>?_);clear hK K hHeld
       try simp only [pt]
       refine rd1 7 (fun K hK=>?_)
       ((refine step_mapEntry rfl (.tmp 71) (.tmp 72) rfl rfl (pR a.d a.q dv) rfl (HJ8.out.shm.block (by first |rfl |exact Below.heap_alloc _ _ _ (by show _ < W8.heap.size;omega))) Rep.law Tryz.underlying165 Rep.zero yaS (kR_of HQD.out HQQ.out HD6.out) ?_);(intro st w9 HPE2 HGE);(have HF1:Hid (FrP lab2 (fun r=>r= .fix 1) W8 w9):=(FrP.below ((Below.refl W8.heap.size W8).drew.alloc nl (.cells #[.string a.x.st,.int .i64 a.x.ix,.slice hd.a hd.n hd.c,.slice hq.a hq.n hq.c] 42))).trans (FrP.blk HGE.out (HJ8.out.fix 1 om)));(have HBs:Hid (Below w.heap.size W8 w9):=(Below.mono ((Below.refl W8.heap.size W8).drew.alloc nl (.cells #[.string a.x.st,.int .i64 a.x.ix,.slice hd.a hd.n hd.c,.slice hq.a hq.n hq.c] 42)) om).trans (yaY HGE.out (fun j hj=>by injection hj with hj;omega) yaW));(have HNB:Hid (SlN fPc 4 w9 (W8.heap.size+1) (some ⟨W8.heap.size,0,none⟩) 1 [⟨a.x,hd,hq⟩]):=SlN.oneJ (f:=fPc) (y:=⟨a.x,hd,hq⟩) ((HGE.out.block _ sI (fun e=>by injection e with e;have e2:W8.heap.size=w.heap.size+1:=e;omega)).trans (heap_alloc_new W8.drew _)) (Nat.lt_succ_self _));(have HOW:Hid (OwnN fPc 4 42 w9 (w.heap.size+5) (mS (kR a.d a.q dv)) ps):=OwnN.kept (HO8.out.drew.alloc _) HGE.out (.inr (fun e1=>by have:=(World.ownsRow.lt HO8.out _ e1).1;omega)));(have HSZ:Hid (w.heap.size+5≤w9.heap.size):=by have h1:=HGE.out.size;simp at h1;show _≤_;omega))
       refine hK.out _ _ (by exact ⟨(HF1.out.same _ (lt_of_block HJ8.out.jd) (by rw [HJ8.out.fix 3 om];simp)).trans HJ8.out.jd,(HF1.out.same _ (lt_of_block HC8.out.1) (by rw [HLD.out.1];simp)).trans HC8.out.1,(HF1.out.same _ (lt_of_block HC8.out.2) (by rw [HLD.out.2];simp)).trans HC8.out.2⟩) (fun hHeldp8=>?_);clear hK K hHeldp7
       try simp only [pt]
       refine tkY 8 ?_;refine tkY 10 ?_;refine rd1 9 (fun K hK=>?_)
       ((refine yda fPc_len om rfl (.tmp 73) (.tmp 75) 83 rfl 42 i1 _ 72 Tryz.underlying83 HI0.out HI1.out HI2.out HI3.out Tryz.zsPc (mS (kR a.d a.q dv)) rfl ps (w.heap.size+5) HOW.out [⟨a.x,hd,hq⟩] ⟨_,_,1,1,rfl,HNB.out⟩ fPc_one HK1.out HK2.out HSZ.out ?_);(intro A4 n4 c4 w4 HO4 HG4 HC4);(have HP:=lh (HJ8.out.app_pc HQD.out HQQ.out HD6.out HF1.out HBs.out HPE2.out HMS.out HMA.out HML.out HO8.out HMK.out HO4.out HG4.out HC4.out HN1.out HN2.out));(have HW4:Hid (w4.heap[w.heap.size+3]? =some (.cells (cJ X A2 n2 c2 (w.heap.size+1) (w.heap.size+2)) 168 (0,0))∧w4.heap[w7.heap.size]? =some (.cells #[.string a.x.st,.int .i64 a.x.ix,.slice hd.a hd.n hd.c,.slice hq.a hq.n hq.c] 42 (0,0))∧w4.heap[w7.heap.size+1]? =some (.cells #[.int .i64 a.d,.int .i64 a.q,.int .i64 dv] 173 (0,0))):=⟨(HP.out.2.1.same _ (lt_of_block HJ8.out.jd) (by rw [HJ8.out.fix 3 om];simp)).trans HJ8.out.jd,(HP.out.2.1.same _ (lt_of_block HC8.out.1) (by rw [HLD.out.1];simp)).trans HC8.out.1,(HP.out.2.1.same _ (lt_of_block HC8.out.2) (by rw [HLD.out.2];simp)).trans HC8.out.2⟩))
       refine hK.out _ _ (by exact HW4.out) (fun hHeldp11=>?_);clear hK K hHeldp8
       try simp only [pt]
       refine rd1 11 (fun K hK=>?_)
       ((refine step_entryStore rfl (.tmp 71) (.tmp 78) (.tmp 77) rfl rfl rfl (.slice A4 n4 c4) rfl HP.out.1 ?_);(intro w5 HM5 HG5);(have HF:=lh (HP.out.2.2 w5 HG5.out HM5.out)))
       refine hK.out _ _ (by exact ⟨HF.out.1.jd,(HG5.out.block _ (lt_of_block HW4.out.2.1) (fun e=>by injection e with e;omega)).trans HW4.out.2.1,(HG5.out.block _ (lt_of_block HW4.out.2.2) (fun e=>by injection e with e;omega)).trans HW4.out.2.2⟩) (fun hHeldp12=>?_);clear hK K hHeldp11
       try simp only [pt]
       refine wpAnyH_done yaV ?_ _
       go_wp2_with fail
       go_roundw
       case rel=>exact ⟨k+1,by omega,by go_num,HF.out.2 _ (HB6.out.trans (HB8.out.mono HB6.out.size)),by rw [HP9.out];exact ⟨_,_,_,_,_,_,_,HF.out.1.more nl nl (Nat.le_succ k)⟩⟩
       case measure=>simp [intOf];omega
      ·have hk0:(a.er==0)=false:=by simp [h0]
       have HP7:Hid (pcsE aq (frE (es.take (k+1)))=pcsE aq (frE (es.take k))):=by show _=_;rw [HSN.out];exact pcsE_same aq (fun g=>h0 (by rw [←HAE.out];exact g.2))
       clear h0
       go_wp2_with (go_at_call 103;(with_reducible refine (HQ.out _ HB6.out).mono ?_);rintro e w7 ⟨hd,hq,rfl,⟨s1,f1⟩,⟨s2,f2⟩,hcc,b7⟩;(have HB7:Hid (∀o,Below wc.heap.size wc (w7.alloc o)):=fun o=>b7.alloc b7.size o);(have y2:w7.cell? ⟨wr.heap.size,2,none⟩=some (.int .i64 7):=(b7.cell (by have:=HS6.out;simp;omega)).trans y2);clear s1 f1 s2 f2 hcc b7)
       go_roundw
       case rel=>exact ⟨k+1,by omega,by go_num,HB6.out.trans ((HB7.out _).mono HB6.out.size),by rw [HP7.out,HP9.out];exact ⟨_,_,_,_,_,_,_,(HJ6.out.on (HB7.out _)).more nl (Nat.le_succ k) (Nat.le_succ k)⟩⟩
       case measure=>simp [intOf];omega
     ·have hP7:pcsE aq (frE (es.take (k+1)))=pcsE aq (frE (es.take k)):=by rw [HSN.out];exact pcsE_same aq (fun g=>h7 g.1)
      have HP7:=lh hP7;have hk7:(ek==7)=false:=by simp [h7]
      clear hP7
      by_cases h9:ek=9
      ·subst h9
       have HQ:=lh (HM.out _ hmem rfl);clear hmem;obtain ⟨a,ha⟩:∃a:MtX,mt ⟨dv,sq,9,dy,bd,pr,bs⟩=a:=⟨_,rfl⟩
       rw [ha] at HQ;have HAE:=lh ha;clear ha
       by_cases h0:a.er=0
       ·
        have hk0:(a.er==0)=true:=by simp [h0]
        have HN1:Hid (mtsE mt (frE (es.take (k+1))) dv=mtsE mt (frE (es.take k)) dv++[((⟨dv,sq,9,dy,bd,pr,bs⟩:EnR),a.v)]):=by
         show _=_
         have:=mtsE_put mt (l:=frE (es.take k)) (e:=⟨dv,sq,9,dy,bd,pr,bs⟩) rfl (by rw [HAE.out];exact h0)
         rw [HAE.out] at this;rw [HSN.out];exact this
        have HN2:Hid (∀y',y'≠dv→mtsE mt (frE (es.take (k+1))) y'=mtsE mt (frE (es.take k)) y'):=fun y' hne=>by rw [HSN.out];exact mtsE_far mt hne
        obtain ⟨i1,hi0,hi1,hi2,hi3⟩:=info_parts Tryz.infoMt;have HI0:=lh hi0;have HI1:=lh hi1;have HI2:=lh hi2;have HI3:=lh hi3;have hfl:(frE (es.take k)).length≤k:=ydk es k;have hml:(mtsE mt (frE (es.take k)) dv).length≤(frE (es.take k)).length:=List.length_filterMap_le _ _;clear h0 hi0 hi1 hi2 hi3
        go_upto_region 19 with (go_at_call 35;(with_reducible refine (HQ.out _ HB6.out).mono ?_);rintro e w7 ⟨hv,rfl,⟨s1,f1⟩,b7⟩;(have HB7:=lh b7);(have HJ7:=lh (HJ6.out.on b7));(have HMK:Hid (MtK w7 lab2 ⟨⟨dv,sq,9,dy,bd,pr,bs⟩,hv,a.v⟩):=⟨s1,HJ6.out.fresh _ f1⟩);(have HX7:Hid (w7.heap[wr.heap.size]? =some (.cells #[.int .i64 dv,.int .i64 sq,.int .i64 9,.int .i64 dy,.slice bd.a bd.n bd.c,.string pr] 55 (0,0))):=(b7.block _ (lt_of_block HX6.out)).trans HX6.out);clear s1 f1 b7)
        obtain ⟨ms,hms1,hms2,hms3,hms4⟩:=HJ7.out.mtr dv HD6.out;have hml2:ms.length=(mtsE mt (frE (es.take k)) dv).length:=by rw [←hms1];simp
        have HK1:Hid ((ms.length+[(⟨⟨dv,sq,9,dy,bd,pr,bs⟩,hv,a.v⟩:MtR)].length)*96≤140737488355328):=by show _≤_;simp;omega
        have HK2:Hid (ms.length+[(⟨⟨dv,sq,9,dy,bd,pr,bs⟩,hv,a.v⟩:MtR)].length≤maxLen):=by show _≤_;unfold maxLen;simp;omega
        have HO7:=lh hms2;have HMS:=lh hms1;have HML:=lh hms3;have HMA:=lh hms4;have hz7:w.heap.size+5≤w7.heap.size:=HJ7.out.hi.1;clear y0 y1 y2 y3 y4 y5 hms1 hms2 hms3 hms4;refine wp_region_held_drew (S:=(fun w'=>w'.heap[w.heap.size+3]? =some (.cells (cJ X A2 n2 c2 (w.heap.size+1) (w.heap.size+2)) 168 (0,0))∧w'.heap[wr.heap.size]? =some (.cells #[.int .i64 dv,.int .i64 sq,.int .i64 9,.int .i64 dy,.slice bd.a bd.n bd.c,.string pr] 55 (0,0)))) yaV yan (fun hHeld=>?_);refine tkY 0 ?_;refine tkY 1 ?_;refine tkY 2 ?_;refine tkH (i:=3) (v:=?m4v) (y:=(Or.inl ⟨by rfl,?m4y⟩)) (h:=?m4r)
        case m4y=>(intro w hSw;(try dsimp only at hSw);have hq:=cj9 hSw.1;go_simp;try (with_reducible rfl))
        try simp only [pt]
        refine tkY 4 ?_;refine tkH (i:=5) (v:=?m6v) (y:=(Or.inl ⟨by rfl,?m6y⟩)) (h:=?m6r)
        case m6y=>(intro w hSw;(try dsimp only at hSw);have hq:=(cen hSw.2).1;go_simp;try (with_reducible rfl))
        try simp only [pt]
        refine tkY 6 ?_;refine tkY 7 ?_;refine tkY 8 ?_;refine tkH (i:=9) (v:=?m10v) (y:=(Or.inl ⟨by rfl,?m10y⟩)) (h:=?m10r)
        case m10y=>(intro w hSw;(try dsimp only at hSw);have hq:=cj9 hSw.1;go_simp;try (with_reducible rfl))
        try simp only [pt]
        refine tkY 10 ?_;refine tkH (i:=11) (v:=?m12v) (y:=(Or.inl ⟨by rfl,?m12y⟩)) (h:=?m12r)
        case m12y=>(intro w hSw;(try dsimp only at hSw);have hq:=(cen hSw.2).1;go_simp;try (with_reducible rfl))
        try simp only [pt]
        refine tkH (i:=13) (v:=?m13v) (y:=(Or.inl ⟨by rfl,?m13y⟩)) (h:=?m13r)
        case m13y=>(intro w hSw;(try dsimp only at hSw);obtain ⟨q0,q1,q2,q3,q4,q5⟩:=cen hSw.2;go_simp;try (with_reducible rfl))
        try simp only [pt]
        refine tkY 14 ?_;refine tkY 15 ?_;refine rd2 12 16 (fun K hK=>?_) (fun K hK=>?_)
        ·refine step_look rfl (.tmp 98) (.tmp 100) rfl rfl (.int .i64 dv) rfl (HJ7.out.mtm.block (by first |rfl |exact Below.heap_alloc _ _ _ (by show _ < w7.heap.size;omega))) (Maps.int_keyed Tryz.underlying3) Tryz.underlying166 (Mee.zero _) (kI_of HD6.out) ?_
         refine hK.out _ _ yan (fun hHeldm17=>?_);clear hK K hHeld
         try simp only [pt]
         refine rd1 16 (fun K hK=>?_)
         go_simp
         refine hK.out _ _ yan (fun hHeldm18=>?_);clear hK K hHeldm17
         try simp only [pt]
         refine rd1 17 (fun K hK=>?_)
         ((refine yda fMt_len om rfl (.tmp 101) (.tmp 105) 174 rfl 176 i1 _ 96 Tryz.underlying174 HI0.out HI1.out HI2.out HI3.out Tryz.zsMt (mM (.int .i64 dv)) rfl ms (w.heap.size+5) (HO7.out.drew.alloc _) [⟨⟨dv,sq,9,dy,bd,pr,bs⟩,hv,a.v⟩] ⟨_,_,1,1,rfl,SlN.oneJ (f:=fMt) (y:=⟨⟨dv,sq,9,dy,bd,pr,bs⟩,hv,a.v⟩) (heap_alloc_new _ _) (Nat.lt_succ_self _)⟩ fMt_one HK1.out HK2.out yaW ?_);(intro A4 n4 c4 w4 HO4 HG4 HC4);(have HP:=lh (HJ7.out.app_mt HD6.out ((Below.drew br).alloc nl _) HMS.out HMA.out HML.out HO7.out HMK.out HO4.out HG4.out HC4.out HN1.out HN2.out));(have HW4:Hid (w4.heap[w.heap.size+3]? =some (.cells (cJ X A2 n2 c2 (w.heap.size+1) (w.heap.size+2)) 168 (0,0))∧w4.heap[wr.heap.size]? =some (.cells #[.int .i64 dv,.int .i64 sq,.int .i64 9,.int .i64 dy,.slice bd.a bd.n bd.c,.string pr] 55 (0,0))):=⟨(HP.out.2.1.same _ (lt_of_block HJ7.out.jd) (by rw [HJ7.out.fix 3 om];simp)).trans HJ7.out.jd,(HP.out.2.1.same _ (lt_of_block HX7.out) (by rw [HLX2.out];simp)).trans HX7.out⟩))
         refine hK.out _ _ (by exact HW4.out) (fun hHeldm19=>?_);clear hK K hHeldm18
         try simp only [pt]
         refine rd1 18 (fun K hK=>?_)
         ((refine step_mupd rfl (.tmp 92) (.tmp 94) (.tmp 106) rfl rfl (.int .i64 dv) (.slice A4 n4 c4) rfl rfl HP.out.1 (Maps.int_keyed Tryz.underlying3) Tryz.underlying166 yaS (kI_of HD6.out) ?_);(intro w5 HM5 HG5);(have HF:=lh (HP.out.2.2 w5 HG5.out HM5.out)))
         refine hK.out _ _ yas (fun hHeldm20=>?_);clear hK K hHeldm19
         try simp only [pt]
         refine wpAnyH_done yaV ?_ _
         go_wp2_with fail
         go_roundw
         case rel=>exact ⟨k+1,by omega,by go_num,HF.out.2 _ (HB6.out.trans (HB7.out.mono HB6.out.size)),by rw [HP7.out];exact ⟨_,_,_,_,_,_,_,HF.out.1.more nl (Nat.le_succ k) nl⟩⟩
         case measure=>simp [intOf];omega
        ·go_simp
         refine hK.out _ _ yan (fun hHeldm21=>?_);clear hK K hHeld
         try simp only [pt]
         refine rd1 12 (fun K hK=>?_);refine step_look rfl (.tmp 98) (.tmp 100) rfl rfl (.int .i64 dv) rfl (HJ7.out.mtm.block (by first |rfl |exact Below.heap_alloc _ _ _ (by show _ < w7.heap.size;omega))) (Maps.int_keyed Tryz.underlying3) Tryz.underlying166 (Mee.zero _) (kI_of HD6.out) ?_;refine hK.out _ _ yan (fun hHeldm22=>?_);clear hK K hHeldm21
         try simp only [pt]
         refine rd1 17 (fun K hK=>?_)
         ((refine yda fMt_len om rfl (.tmp 101) (.tmp 105) 174 rfl 176 i1 _ 96 Tryz.underlying174 HI0.out HI1.out HI2.out HI3.out Tryz.zsMt (mM (.int .i64 dv)) rfl ms (w.heap.size+5) (HO7.out.drew.alloc _) [⟨⟨dv,sq,9,dy,bd,pr,bs⟩,hv,a.v⟩] ⟨_,_,1,1,rfl,SlN.oneJ (f:=fMt) (y:=⟨⟨dv,sq,9,dy,bd,pr,bs⟩,hv,a.v⟩) (heap_alloc_new _ _) (Nat.lt_succ_self _)⟩ fMt_one HK1.out HK2.out yaW ?_);(intro A4 n4 c4 w4 HO4 HG4 HC4);(have HP:=lh (HJ7.out.app_mt HD6.out ((Below.drew br).alloc nl _) HMS.out HMA.out HML.out HO7.out HMK.out HO4.out HG4.out HC4.out HN1.out HN2.out));(have HW4:Hid (w4.heap[w.heap.size+3]? =some (.cells (cJ X A2 n2 c2 (w.heap.size+1) (w.heap.size+2)) 168 (0,0))∧w4.heap[wr.heap.size]? =some (.cells #[.int .i64 dv,.int .i64 sq,.int .i64 9,.int .i64 dy,.slice bd.a bd.n bd.c,.string pr] 55 (0,0))):=⟨(HP.out.2.1.same _ (lt_of_block HJ7.out.jd) (by rw [HJ7.out.fix 3 om];simp)).trans HJ7.out.jd,(HP.out.2.1.same _ (lt_of_block HX7.out) (by rw [HLX2.out];simp)).trans HX7.out⟩))
         refine hK.out _ _ (by exact HW4.out) (fun hHeldm23=>?_);clear hK K hHeldm22
         try simp only [pt]
         refine rd1 18 (fun K hK=>?_)
         ((refine step_mupd rfl (.tmp 92) (.tmp 94) (.tmp 106) rfl rfl (.int .i64 dv) (.slice A4 n4 c4) rfl rfl HP.out.1 (Maps.int_keyed Tryz.underlying3) Tryz.underlying166 yaS (kI_of HD6.out) ?_);(intro w5 HM5 HG5);(have HF:=lh (HP.out.2.2 w5 HG5.out HM5.out)))
         refine hK.out _ _ yas (fun hHeldm24=>?_);clear hK K hHeldm23
         try simp only [pt]
         refine wpAnyH_done yaV ?_ _
         go_wp2_with fail
         go_roundw
         case rel=>exact ⟨k+1,by omega,by go_num,HF.out.2 _ (HB6.out.trans (HB7.out.mono HB6.out.size)),by rw [HP7.out];exact ⟨_,_,_,_,_,_,_,HF.out.1.more nl (Nat.le_succ k) nl⟩⟩
         case measure=>simp [intOf];omega
       ·have hk0:(a.er==0)=false:=by simp [h0]
        have HP9:Hid (mtsE mt (frE (es.take (k+1)))=mtsE mt (frE (es.take k))):=by show _=_;rw [HSN.out];exact mtsE_same mt (fun g=>h0 (by rw [←HAE.out];exact g.2))
        clear h0
        go_wp2_with (go_at_call 35;(with_reducible refine (HQ.out _ HB6.out).mono ?_);rintro e w7 ⟨hv,rfl,⟨s1,f1⟩,b7⟩;(have HB7:=lh b7);clear s1 f1 b7)
        go_roundw
        case rel=>exact ⟨k+1,by omega,by go_num,HB6.out.trans (HB7.out.mono HB6.out.size),by rw [HP7.out,HP9.out];exact ⟨_,_,_,_,_,_,_,(HJ6.out.on HB7.out).more nl (Nat.le_succ k) (Nat.le_succ k)⟩⟩
        case measure=>simp [intOf];omega
      ·have hP9:mtsE mt (frE (es.take (k+1)))=mtsE mt (frE (es.take k)):=by rw [HSN.out];exact mtsE_same mt (fun g=>h9 g.1)
       have HP9:=lh hP9;have hk9:(ek==9)=false:=by simp [h9]
       clear hP9;go_wp2
       go_roundw
       case rel=>exact ⟨k+1,by omega,by go_num,HB6.out,by rw [HP7.out,HP9.out];exact ⟨_,_,_,_,_,_,_,HJ6.out.more nl (Nat.le_succ k) (Nat.le_succ k)⟩⟩
       case measure=>simp [intOf];omega
  ·obtain rfl:k=En:=by omega
   obtain ⟨hbw,lab,A,n,c,mN,mS,mM,hJ⟩:=HR.out;rw [List.take_of_length_le (by rw [HEN.out];exact Nat.le_refl _),HXE.out] at hJ;have HJ:=lh hJ;have HBw:=lh hbw;clear hJ hbw HR;go_wp2;go_ret;exact ⟨rfl,HBw.out,_,_,_,_,_,_,_,_,_,_,HJ.out⟩
