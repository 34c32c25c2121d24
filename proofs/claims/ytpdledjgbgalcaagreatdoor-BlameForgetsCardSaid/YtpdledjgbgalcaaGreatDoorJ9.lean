/- judge.charges. -/
import Derived.Test.YtpdledjgbgalcaaGreatDoorPt
import Derived.Test.YtpdledjgbgalcaaGreatDoorPp
namespace Go.Proofs.YtpdledjgbgalcaaGreatDoor
set_option maxRecDepth 100000
set_option maxHeartbeats 16000000
open Go.RowKit Go.Lib
set_option linter.unusedVariables false
set_option linter.unusedSimpArgs false
abbrev nHd (l:List ByteArray):Hd:=⟨none,l.length,0⟩
def cnF (pubs:List ByteArray) (b h:Int) (vs:List VtR) (a:Ac):Bool:=cnB pubs b h vs a.d a.q (rHd a.R (nHd a.ps) (nHd a.qs) (nHd a.rs)) a.st a.ix a.no a.an a.ps a.qs a.rs
theorem cnB_hd (pubs:List ByteArray) (b h:Int) (vs:List VtR) (d q:Int) (R:Rcp) (st:ByteArray) (ix:Int) (no an:ByteArray) (ps qs rs:List ByteArray) {pa pb pc pa' pb' pc':Hd} (h1:pb.n=pb'.n) (h2:pc.n=pc'.n):
 cnB pubs b h vs d q (rHd R pa pb pc) st ix no an ps qs rs=cnB pubs b h vs d q (rHd R pa' pb' pc') st ix no an ps qs rs:=by
 obtain ⟨a1,n1,c1⟩:=pb;obtain ⟨a2,n2,c2⟩:=pb';obtain ⟨a3,n3,c3⟩:=pc;obtain ⟨a4,n4,c4⟩:=pc';dsimp only at h1 h2;subst h1;subst h2
 rfl
def opF (drs:List ByteArray) (pcs:Int→Int→Int→List PcX) (cn:Ac→Bool) (a:Ac):Bool:=opB drs (pcs a.d a.q a.R.hd) a.R (cn a)
def cgE (op:Ac→Bool) (e:EnR):Option (Ac × EnR):=if e.k=6∧(acX e).er=0∧op (acX e)=true then some (acX e,e) else none
def cgL (op:Ac→Bool) (l:List EnR):List (Ac × EnR):=l.filterMap (cgE op)
theorem ydP {op:Ac→Bool} {l:List EnR} {k:Nat} {e:EnR} (h:l[k]? =some e):cgL op (l.take (k+1))=cgL op (l.take k)++(cgE op e).toList:=by
 unfold cgL;rw [List.take_add_one,h,List.filterMap_append]
 cases h:cgE op e<;>simp [h]
theorem cgL_len (op:Ac→Bool) (l:List EnR):(cgL op l).length≤l.length:=List.length_filterMap_le _ _
theorem acF_int (k d q:Int) (bs:List Int):int64 (acF k d q bs).d∧int64 (acF k d q bs).q∧int64 (acF k d q bs).R.hd:=by
 have hz:int64 0:=⟨by decide,by decide⟩;unfold acF
 split
 ·split
  ·next h1=>
   split
   ·next h2=>
    simp only [numB,decide_eq_true_eq] at h1;unfold okT at h2;rw [Bool.and_eq_true] at h2;have h3:=h2.2;unfold okR at h3;rw [Bool.and_eq_true] at h3;have h4:=(ybD h3.2).1;refine ⟨⟨?_,?_⟩,⟨?_,?_⟩,?_,?_⟩
    ·show -9223372036854775808≤d;omega
    ·show d≤9223372036854775807;omega
    ·show -9223372036854775808≤q;omega
    ·show q≤9223372036854775807;omega
    ·exact Int.le_trans de h4.1
    ·exact Int.le_trans h4.2 de
   ·exact ⟨hz,hz,hz⟩
  ·exact ⟨hz,hz,hz⟩
 ·exact ⟨hz,hz,hz⟩
theorem aqX_ok {e:EnR} (h1:Byt e.bs) (h2:e.bs.length≤1000000):(aqX e).x.xs.length≤1000000∧(aqX e).x.ys.length≤1000000∧Byt (aqX e).x.xs:=by
 have h3:(dA4 e.bs).1.length≤e.bs.length:=rY_len;have h4:(dA6 e.bs).1.length=(dA5 e.bs).1.toNat:=yca _ _ _;have h5:(dA5 e.bs).1≤((16:Nat):Int):=rC_range.2;unfold aqX aqF
 split
 ·split
  ·refine ⟨by dsimp only;omega,by dsimp only;omega,?_⟩
   exact rY_rng h1
  ·exact ⟨by simp,by simp,fun _ h=>by cases h⟩
 ·exact ⟨by simp,by simp,fun _ h=>by cases h⟩
theorem pcsE_ok {l:List EnR} (hl:∀e∈l,Byt e.bs∧e.bs.length≤1000000) {d q y:Int}:∀p∈pcsE aqX l d q y,p.xs.length≤1000000∧p.ys.length≤1000000∧Byt p.xs:=fun p hp=>by
 obtain ⟨e,he,h⟩:=List.mem_filterMap.1 hp;unfold pcE at h
 split at h
 ·injection h with h
  subst h;exact aqX_ok (hl e he).1 (hl e he).2
 ·cases h
def CgR1 (op:Ac→Bool) (l:List EnR) (w wr:World) (v:Value):Prop:=
 Below w.heap.size w wr∧∃cs:List CgR,OwnN fCg 26 109 wr w.heap.size v cs∧(∀c∈cs,ArO wr w.heap.size c.r)∧cs.map (fun c=>(c.r.a,c.e))=cgL op l
def CgP (op:Ac→Bool) (l:List EnR) (w:World) (e:Ending) (w':World):Prop:=∃v,e= .returned v∧CgR1 op l w w' v
theorem CgR1.on {op:Ac→Bool} {l:List EnR} {w wr w':World} {v:Value} (h:CgR1 op l w wr v) (hb:Below wr.heap.size wr w'):CgR1 op l w w' v:=by
 obtain ⟨h1,cs,h2,h3,h4⟩:=h;exact ⟨h1.trans (hb.mono h1.size),cs,h2.on hb,fun c hc=>(h3 c hc).on hb,h4⟩
def cgP38:Array (Nat × Operand):=#[(0,.tmp 36),(1,.tmp 37)]
theorem cgB38 (a:Act) (c:CgR) (h0:a.eval (.tmp 36)= .agg (cAr c.r)) (h1:a.eval (.tmp 37)= .agg (fEn c.e).toArray):Tryz.prog.built 109 (cgP38.map fun (i,x)=>(i,a.eval x)).toList=some (fCg c).toArray:=by
 rw [Array.toList_map]
 show Tryz.prog.built 109 [(0,a.eval (.tmp 36)),(1,a.eval (.tmp 37))]=_
 rw [h0,h1]
 kernel_rfl
theorem charges_any (op:Ac→Bool) (lab:Nat→Rl) (s k kS kM:Nat) (x:Vw) (l:List EnR) (A:Option Addr) (n c:Nat) (mN mS mM:Lit→Value) (has:Int→Int→Bool) (pcs:Int→Int→Int→List PcX) (mts:Int→List (EnR × List Int)) (B:Nat) (w:World) (hJ:JSt w lab s k kS kM x l A n c mN mS mM has pcs mts) (hE:∀e∈l,EnOk w B e∧e.bd.n≤1000000) (hB:B≤w.heap.size) (hn:l.length≤1000)
 (hop:∀V,Below w.heap.size w V→∀e∈l,∀r:AcR,r.a=acX e→(∃b,ArO V b r)→Calls Tryz.prog 104 #[.pointer (some ⟨s+3,0,none⟩),.agg (cAr r)] V fun e w'=>e= .returned (.bool (op r.a))∧Below V.heap.size V w'):
 Calls Tryz.prog 51 #[.pointer (some ⟨s+3,0,none⟩)] w (CgP op l w):=by
 obtain ⟨A1,c1,hv1,hc1,hps,_⟩:=OwnN.shape yb6 hJ.ent.1;injection hv1 with g1 g2 g3;subst g1;subst g2;subst g3;have HPS:=lh hps;have v7:=cj7 hJ.jd;have HE:=lh hE;have HBB:=lh hB;have HOPN:=lh hop;have HB0:Hid (Below w.heap.size w w):=Below.refl _ _;obtain ⟨i0,z0,hi0,hi1,hi2,hi3,hi4⟩:=ybt Tryz.infoCg;have HI0:=lh hi0;have HI1:=lh hi1;have HI2:=lh hi2;have HI3:=lh hi3;have HI4:=lh hi4;clear hJ hE hB hop hc1 hps hi0 hi1 hi2 hi3 hi4;go_enter Tryz.func51,Tryz.ntmps51
 go_wp2_with fail
 clear v7
 go_loopw [3,16] (fun v i wr=>∃k:Nat,k≤l.length∧i= .int .i64 k∧Hid (CgR1 op (l.take k) w wr v)) (fun _ i _=>l.length - (intOf i).toNat)
 case atStart=>exact ⟨0,Nat.zero_le _,rfl,HB0.out,[],OwnN.nil,(fun _ h=>by cases h),rfl⟩
 case round=>
  clear HB0;obtain ⟨k,hk,rfl,HR⟩:=hrel;have HBr:Hid (Below w.heap.size w wr):=HR.out.1
  by_cases hlt:k < l.length
  ·obtain ⟨b,off,e,rfl,hbB,he,hat⟩:=(HPS.out.up HBr.out nl).at_ hlt
   have hkI:(k:Int) < (l.length:Int):=by omega
   obtain ⟨dv,sq,ek,dy,bd,pr,bs⟩:=e;have x0:wr.cell? ⟨b,off+k*6,none⟩=some (.int .i64 dv):=by rw [show off+k*6=off+(k*6+0) by omega];exact hat 0 _ rfl
   have x1:wr.cell? ⟨b,off+k*6+1,none⟩=some (.int .i64 sq):=by rw [show off+k*6+1=off+(k*6+1) by omega];exact hat 1 _ rfl
   have x2:wr.cell? ⟨b,off+k*6+2,none⟩=some (.int .i64 ek):=by rw [show off+k*6+2=off+(k*6+2) by omega];exact hat 2 _ rfl
   have x3:wr.cell? ⟨b,off+k*6+3,none⟩=some (.int .i64 dy):=by rw [show off+k*6+3=off+(k*6+3) by omega];exact hat 3 _ rfl
   have x4:wr.cell? ⟨b,off+k*6+4,none⟩=some (.slice bd.a bd.n bd.c):=by rw [show off+k*6+4=off+(k*6+4) by omega];exact hat 4 _ rfl
   have x5:wr.cell? ⟨b,off+k*6+5,none⟩=some (.string pr):=by rw [show off+k*6+5=off+(k*6+5) by omega];exact hat 5 _ rfl
   have HG:=lh he;have HM:Hid ((⟨dv,sq,ek,dy,bd,pr,bs⟩:EnR)∈l):=List.mem_of_getElem? he;have HEN:=lh (HE.out _ HM.out);clear hat he
   go_upto_region 6 with fail
   obtain ⟨W2,hW⟩:∃W2:World,W2=wr.alloc (.cells #[.int .i64 dv,.int .i64 sq,.int .i64 ek,.int .i64 dy,.slice bd.a bd.n bd.c,.string pr] 55):=⟨_,rfl⟩
   have hg2:W2.heap[wr.heap.size]? =some (.cells #[.int .i64 dv,.int .i64 sq,.int .i64 ek,.int .i64 dy,.slice bd.a bd.n bd.c,.string pr] 55 (0,0)):=by rw [hW];exact heap_alloc_new wr _
   have hb2:Below wr.heap.size wr W2:=by rw [hW];exact bl
   have HR2:=lh (HR.out.on hb2);have HG2:=lh hg2;have HS2:Hid (w.heap.size≤wr.heap.size):=HBr.out.size;rw [←hW];obtain ⟨y0,y1,y2,y3,y4,y5⟩:=cen hg2;clear hW hg2 hb2 x0 x1 x2 x3 x4 x5 HR HBr
   by_cases h6:ek=6
   ·subst h6
    obtain ⟨a,ha⟩:∃a:Ac,acX ⟨dv,sq,6,dy,bd,pr,bs⟩=a:=⟨_,rfl⟩
    have HDA:Hid (Calls Tryz.prog 105 #[.agg #[.int .i64 dv,.int .i64 sq,.int .i64 6,.int .i64 dy,.slice bd.a bd.n bd.c,.string pr]] W2 (AcP a W2)):=by
     have h:=ac_any ⟨dv,sq,6,dy,bd,pr,bs⟩ B W2 (HEN.out.1.up HR2.out.1 HBB.out) (Nat.le_trans HBB.out HR2.out.1.size) HEN.out.2;rw [ha] at h;exact h
    have HAE:=lh ha;clear ha
    by_cases h0:a.er=0
    ·
     obtain ⟨ob,hob⟩:∃t,op a=t:=⟨_,rfl⟩
     have HOB:=lh hob;have her:(Value.int .i64 a.er)= .int .i64 0:=by rw [h0]
     have HER:=lh h0;clear hob h0
     cases ob with
     |true=>
      have HCH:Hid (cgL op (l.take (k+1))=cgL op (l.take k)++[(a,⟨dv,sq,6,dy,bd,pr,bs⟩)]):=by
       show _=_
       rw [ydP HG.out];unfold cgE;rw [HAE.out,if_pos ⟨rfl,HER.out,HOB.out⟩]
       rfl
      go_upto_region 8 with (first |(go_at_call 105;(with_reducible refine HDA.out.mono ?_);rintro e W3 ⟨pa,pb,pc,rfl,ho,hb3⟩;(have HO3:Hid (ArO W3 W2.heap.size ⟨a,pa,pb,pc⟩):=ho);(have HB3:=lh hb3);(have HGN:Hid ((W3.alloc (.cells zA 39)).heap[W3.heap.size]? =some (.cells zA 39 (0,0))):=heap_alloc_new W3 _);clear ho hb3) |((with_reducible refine yaZ (o:=⟨none,_,_,_,_,_⟩) rfl 39 (.tmp 7) (.tmp 26) rfl W3.heap.size 39 _ _ rfl rfl HGN.out (ydj a.d a.q (rHd a.R pa pb pc) a.st a.ix a.no a.an) rfl (cA_one a.d a.q (rHd a.R pa pb pc) a.st a.ix a.no a.an) ?_);intro W4 HG4 HB4n;(have HB34:Hid (Below W3.heap.size W3 W4):=((Below.refl _ W3).alloc nl (.cells zA 39)).trans (HB4n.out.below sI (fun i hi=>by subst hi;omega)));(have HB4:Hid (Below W2.heap.size W2 W4):=HB3.out.trans (HB34.out.mono HB3.out.size))))
      have HO4:Hid (ArO W4 W2.heap.size ⟨a,pa,pb,pc⟩):=RcO.on HO3.out HB34.out;have HG4e:Hid (W4.heap[wr.heap.size]? =some (.cells #[.int .i64 dv,.int .i64 sq,.int .i64 6,.int .i64 dy,.slice bd.a bd.n bd.c,.string pr] 55 (0,0))):=(HB4.out.block _ (lt_of_block HG2.out)).trans HG2.out;have HR2b:Hid (wr.heap.size≤W2.heap.size):=Nat.le_of_lt (lt_of_block HG2.out);have HR8:=lh (rangeA HG4.out);have HOC:=HOPN.out W4 (HR2.out.1.trans (HB4.out.mono HR2.out.1.size)) _ HM.out ⟨a,pa,pb,pc⟩ HAE.out.symm ⟨_,HO4.out⟩;rw [show op (AcR.mk a pa pb pc).a=_ from HOB.out] at HOC;have HOC:=lh HOC
      go_upto_region 9 with (first |(with_reducible refine ybc (op:=⟨some 32,_,_,_,_,_⟩) yaV 39 (.tmp 7) rfl W3.heap.size 0 rfl (cA a.d a.q (rHd a.R pa pb pc) a.st a.ix a.no a.an).toList _ HR8.out Tryz.underlying39 rfl (sizeAL _ _ _ _ _ _ _) ?_) |(go_at_call 104;(with_reducible refine HOC.out.mono ?_);rintro e W5 ⟨rfl,hb5⟩;(have HB5:=lh hb5);(have HG5:Hid (W5.heap[W3.heap.size]? =some (.cells (cA a.d a.q (rHd a.R pa pb pc) a.st a.ix a.no a.an) 39 (0,0))∧W5.heap[wr.heap.size]? =some (.cells #[.int .i64 dv,.int .i64 sq,.int .i64 6,.int .i64 dy,.slice bd.a bd.n bd.c,.string pr] 55 (0,0))):=⟨(hb5.block _ (lt_of_block HG4.out)).trans HG4.out,(hb5.block _ (lt_of_block HG4e.out)).trans HG4e.out⟩);clear hb5))
      clear y0 y1 y2 y3 y4 y5;obtain ⟨y0,y1,y2,y3,y4,y5⟩:=cen HG5.out.2;have HR5:=lh (HR2.out.on (HB4.out.trans (HB5.out.mono HB4.out.size)));obtain ⟨hbw,cs,hcs1,hcs2,hcs3⟩:=HR5.out
      have hcl:cs.length≤k:=by
       have h1:cs.length=(cgL op (l.take k)).length:=by rw [←hcs3];simp
       have h2:=cgL_len op (l.take k);have h3:(l.take k).length≤k:=List.length_take_le _ _;omega
      have HK1:Hid ((cs.length+1)*320≤140737488355328):=by show _≤_;omega
      have HK2:Hid (cs.length+1≤maxLen):=by show _≤_;unfold maxLen;omega
      have HC1:=lh hcs1;have HC2:=lh hcs2;have HC3:=lh hcs3;have HBW:=lh hbw;have HRA:=lh (rangeA HG5.out.1);have HNW:Hid (ArO W5 w.heap.size ⟨a,pa,pb,pc⟩):=RcO.low (HO4.out.on HB5.out) (Nat.le_trans HS2.out HR2b.out);clear hcs1 hcs2 hcs3 hbw hcl
      go_wp2_with (first
       |(with_reducible refine wpList_load_mid rfl 39 (.tmp 7) rfl W3.heap.size 0 rfl (cA a.d a.q (rHd a.R pa pb pc) a.st a.ix a.no a.an).toList _ HRA.out Tryz.underlying39 rfl (sizeAL _ _ _ _ _ _ _) ?_)
       |(with_reducible refine ya6 (o:=⟨some 38,_,_,_,_,_⟩) rfl 109 cgP38 yaV (fCg ⟨⟨a,pa,pb,pc⟩,⟨dv,sq,6,dy,bd,pr,bs⟩⟩).toArray (cgB38 _ ⟨⟨a,pa,pb,pc⟩,⟨dv,sq,6,dy,bd,pr,bs⟩⟩ rfl rfl) ?_)
       |(with_reducible refine ybf (o:=⟨some 39,_,_,_,_,_⟩) rfl 104 (.tmp 38) rfl 109 i0 z0 26 Tryz.underlying104 HI0.out HI1.out HI2.out HI4.out om om (fCg ⟨⟨a,pa,pb,pc⟩,⟨dv,sq,6,dy,bd,pr,bs⟩⟩).toArray rfl rfl ?_)
       |((with_reducible refine ybP (o:=⟨some 40,_,_,_,_,_⟩) (f:=fCg) fCg_len om rfl (.tmp 35) (.tmp 39) 104 rfl 109 i0 z0 320 Tryz.underlying104 HI0.out HI1.out HI2.out HI3.out HI4.out u3 cs w.heap.size rfl HC1.out ⟨⟨a,pa,pb,pc⟩,⟨dv,sq,6,dy,bd,pr,bs⟩⟩ 1 rfl fCg_one HK1.out HK2.out HBW.out.size ?_);intro v6 W6 HO6 HG6 HV6))
      go_roundw
      case rel=>exact ⟨k+1,by omega,by go_num,OwnN.below HC1.out HBW.out nl HBW.out.size HG6.out,cs++[⟨⟨a,pa,pb,pc⟩,⟨dv,sq,6,dy,bd,pr,bs⟩⟩],HO6.out,(fun c hc=>by
       rcases List.mem_append.1 hc with h |h
       ·exact ArO.grown (HC2.out c h) HC1.out HG6.out de
       ·obtain rfl:c=⟨⟨a,pa,pb,pc⟩,⟨dv,sq,6,dy,bd,pr,bs⟩⟩:=by simpa using h
        exact ArO.grown HNW.out HC1.out HG6.out de),by rw [HCH.out,List.map_append,HC3.out];rfl⟩
      case measure=>simp [intOf];omega
     |false=>
      have HCH:Hid (cgL op (l.take (k+1))=cgL op (l.take k)):=by
       show _=_
       rw [ydP HG.out];unfold cgE;rw [HAE.out,if_neg (fun h=>by have:=h.2.2;rw [HOB.out] at this;cases this)];simp
      go_upto_region 8 with (first |(go_at_call 105;(with_reducible refine HDA.out.mono ?_);rintro e W3 ⟨pa,pb,pc,rfl,ho,hb3⟩;(have HO3:Hid (ArO W3 W2.heap.size ⟨a,pa,pb,pc⟩):=ho);(have HB3:=lh hb3);(have HGN:Hid ((W3.alloc (.cells zA 39)).heap[W3.heap.size]? =some (.cells zA 39 (0,0))):=heap_alloc_new W3 _);clear ho hb3) |((with_reducible refine yaZ (o:=⟨none,_,_,_,_,_⟩) rfl 39 (.tmp 7) (.tmp 26) rfl W3.heap.size 39 _ _ rfl rfl HGN.out (ydj a.d a.q (rHd a.R pa pb pc) a.st a.ix a.no a.an) rfl (cA_one a.d a.q (rHd a.R pa pb pc) a.st a.ix a.no a.an) ?_);intro W4 HG4 HB4n;(have HB34:Hid (Below W3.heap.size W3 W4):=((Below.refl _ W3).alloc nl (.cells zA 39)).trans (HB4n.out.below sI (fun i hi=>by subst hi;omega)));(have HB4:Hid (Below W2.heap.size W2 W4):=HB3.out.trans (HB34.out.mono HB3.out.size))))
      have HO4:Hid (ArO W4 W2.heap.size ⟨a,pa,pb,pc⟩):=RcO.on HO3.out HB34.out;have HG4e:Hid (W4.heap[wr.heap.size]? =some (.cells #[.int .i64 dv,.int .i64 sq,.int .i64 6,.int .i64 dy,.slice bd.a bd.n bd.c,.string pr] 55 (0,0))):=(HB4.out.block _ (lt_of_block HG2.out)).trans HG2.out;have HR2b:Hid (wr.heap.size≤W2.heap.size):=Nat.le_of_lt (lt_of_block HG2.out);have HR8:=lh (rangeA HG4.out);have HOC:=HOPN.out W4 (HR2.out.1.trans (HB4.out.mono HR2.out.1.size)) _ HM.out ⟨a,pa,pb,pc⟩ HAE.out.symm ⟨_,HO4.out⟩;rw [show op (AcR.mk a pa pb pc).a=_ from HOB.out] at HOC;have HOC:=lh HOC
      go_wp2_with (first |(with_reducible refine ybc (op:=⟨some 32,_,_,_,_,_⟩) yaV 39 (.tmp 7) rfl W3.heap.size 0 rfl (cA a.d a.q (rHd a.R pa pb pc) a.st a.ix a.no a.an).toList _ HR8.out Tryz.underlying39 rfl (sizeAL _ _ _ _ _ _ _) ?_) |(go_at_call 104;(with_reducible refine HOC.out.mono ?_);rintro e W5 ⟨rfl,hb5⟩;(have HB5:=lh hb5);(have HG5:Hid (W5.heap[W3.heap.size]? =some (.cells (cA a.d a.q (rHd a.R pa pb pc) a.st a.ix a.no a.an) 39 (0,0))∧W5.heap[wr.heap.size]? =some (.cells #[.int .i64 dv,.int .i64 sq,.int .i64 6,.int .i64 dy,.slice bd.a bd.n bd.c,.string pr] 55 (0,0))):=⟨(hb5.block _ (lt_of_block HG4.out)).trans HG4.out,(hb5.block _ (lt_of_block HG4e.out)).trans HG4e.out⟩);clear hb5))
      go_roundw
      case rel=>exact ⟨k+1,by omega,by go_num,by rw [show CgR1 op (l.take (k+1))=CgR1 op (l.take k) by funext w1 w2 v;unfold CgR1;rw [HCH.out]];exact HR2.out.on (HB4.out.trans (HB5.out.mono HB4.out.size))⟩
      case measure=>simp [intOf];omega
    ·
     have HCH:Hid (cgL op (l.take (k+1))=cgL op (l.take k)):=by
      show _=_
      rw [ydP HG.out];unfold cgE;rw [HAE.out,if_neg (fun h=>h0 h.2.1)];simp
     have hk0:(a.er==0)=false:=by simp [h0]
     clear h0
     go_wp2_with (first |(go_at_call 105;(with_reducible refine HDA.out.mono ?_);rintro e W3 ⟨pa,pb,pc,rfl,ho,hb3⟩;(have HO3:Hid (ArO W3 W2.heap.size ⟨a,pa,pb,pc⟩):=ho);(have HB3:=lh hb3);(have HGN:Hid ((W3.alloc (.cells zA 39)).heap[W3.heap.size]? =some (.cells zA 39 (0,0))):=heap_alloc_new W3 _);clear ho hb3) |((with_reducible refine yaZ (o:=⟨none,_,_,_,_,_⟩) rfl 39 (.tmp 7) (.tmp 26) rfl W3.heap.size 39 _ _ rfl rfl HGN.out (ydj a.d a.q (rHd a.R pa pb pc) a.st a.ix a.no a.an) rfl (cA_one a.d a.q (rHd a.R pa pb pc) a.st a.ix a.no a.an) ?_);intro W4 HG4 HB4n;(have HB34:Hid (Below W3.heap.size W3 W4):=((Below.refl _ W3).alloc nl (.cells zA 39)).trans (HB4n.out.below sI (fun i hi=>by subst hi;omega)));(have HB4:Hid (Below W2.heap.size W2 W4):=HB3.out.trans (HB34.out.mono HB3.out.size))))
     go_roundw
     case rel=>exact ⟨k+1,by omega,by go_num,by rw [show CgR1 op (l.take (k+1))=CgR1 op (l.take k) by funext w1 w2 v;unfold CgR1;rw [HCH.out]];exact HR2.out.on HB4.out⟩
     case measure=>simp [intOf];omega
   ·
    have HCH:Hid (cgL op (l.take (k+1))=cgL op (l.take k)):=by
     show _=_
     rw [ydP HG.out];unfold cgE;rw [if_neg (fun h=>h6 h.1)];simp
    have h6b:(ek != 6)=true:=by simp [h6]
    clear h6
    go_wp2_with fail
    go_roundw
    case rel=>exact ⟨k+1,by omega,by go_num,by rw [show CgR1 op (l.take (k+1))=CgR1 op (l.take k) by funext w1 w2 v;unfold CgR1;rw [HCH.out]];exact HR2.out⟩
    case measure=>simp [intOf];omega
  ·obtain rfl:k=l.length:=by omega
   rw [List.take_length] at HR
   go_wp2_with fail
   go_ret;exact ⟨_,rfl,HR.out⟩
