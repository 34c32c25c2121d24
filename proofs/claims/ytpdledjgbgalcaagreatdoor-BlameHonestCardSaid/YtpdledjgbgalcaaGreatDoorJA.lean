/- The charges of a judge; blame.Open. -/
import Derived.Test.YtpdledjgbgalcaaGreatDoorJ9
namespace Go.Proofs.YtpdledjgbgalcaaGreatDoor
set_option maxRecDepth 100000
set_option maxHeartbeats 16000000
open Go.RowKit Go.Lib
set_option linter.unusedVariables false
set_option linter.unusedSimpArgs false
theorem frE_mem {es:List EnR} {e:EnR} (h:e∈frE es):e∈es:=by
 have key:∀(l acc:List EnR),e∈l.foldl putE acc→e∈acc∨e∈l:=by
  intro l
  induction l with
  |nil=>intro acc h;exact .inl h
  |cons a t ih=>
   intro acc h
   rcases ih _ h with h |h
   ·rcases putE_mem h with h |h
    ·exact .inl h
    ·exact .inr (h▸List.mem_cons_self)
   ·exact .inr (List.mem_cons_of_mem _ h)
 rcases key es [] h with h |h
 ·cases h
 ·exact h
theorem frE_length (es:List EnR):(frE es).length≤es.length:=by
 have:=frE_len es es.length
 rwa [List.take_length] at this
theorem VwIn.more {w:World} {B B':Nat} {x:Vw} {es:List EnR} {vs:List VtR} {pubs drs:List ByteArray} {fks:List Int} (h:VwIn w B x es vs pubs drs fks) (hB:B≤B'):VwIn w B' x es vs pubs drs fks:=
 ⟨⟨h.E.1.more hB,fun e he=>⟨(h.E.2 e he).1.more' hB,(h.E.2 e he).2⟩⟩,⟨h.V.1.more hB,fun v hv=>⟨(h.V.2 v hv).1.more' hB,(h.V.2 v hv).2⟩⟩,h.P.more' hB,h.D.more' hB,h.F.more' hB,h.cs⟩
def VwOk (x:Vw) (es:List EnR):Prop:=x.E.n≤1000∧(x.V.n≤1000∧x.P.n≤1000∧x.D.n≤1000)∧∀e∈es,e.bd.n≤1000000
def opV (x:Vw) (es:List EnR) (vs:List VtR) (pubs drs:List ByteArray):Ac→Bool:=opF drs (pcsE aqX (frE es)) (cnF pubs x.b x.h vs)
theorem pcsE_len (l:List EnR) (d q y:Int):(pcsE aqX l d q y).length≤l.length:=List.length_filterMap_le _ _
theorem charges_of (lab:Nat→Rl) (s k kS kM:Nat) (x:Vw) (es:List EnR) (vs:List VtR) (pubs drs:List ByteArray) (fks:List Int) (A:Option Addr) (n c:Nat) (mN mS mM:Lit→Value) (mts:Int→List (EnR × List Int)) (B:Nat) (w:World) (hG:Glob w)
 (hJ:JSt w lab s k kS kM x (frE es) A n c mN mS mM (hasE (frE es)) (pcsE aqX (frE es)) mts) (hV:VwIn w B x es vs pubs drs fks) (hB:B≤w.heap.size) (hk:VwOk x es):
 Calls Tryz.prog 51 #[.pointer (some ⟨s+3,0,none⟩)] w (CgP (opV x es vs pubs drs) (frE es) w):=by
 have hel:es.length=x.E.n:=hV.E.1.1
 have hfl:=frE_length es
 refine charges_any (opV x es vs pubs drs) lab s k kS kM x (frE es) A n c mN mS mM (hasE (frE es)) (pcsE aqX (frE es)) mts B w hJ (fun e he=>⟨hV.E.2 e (frE_mem he),hk.2.2 e (frE_mem he)⟩) hB (by have:=hk.1;omega) (fun V hb e he r hr ho=>?_)
 obtain ⟨b,ho⟩:=ho
 have hi:=ho.rcIn
 obtain ⟨i1,i2,i3⟩:=acF_int e.k e.dv e.sq e.bs
 have hr2:r.a=acF e.k e.dv e.sq e.bs:=hr
 have h0:=jopen_any x es vs pubs drs fks lab s k kS kM (frE es) A n c mN mS mM (hasE (frE es)) (pcsE aqX (frE es)) mts r.a.d r.a.q r.R r.a.st r.a.ix r.a.no r.a.an r.a.ps r.a.qs r.a.rs V.heap.size V (hG.on hb) (hJ.on hb) ((hV.up hb hB).more (Nat.le_trans hB hb.size)) hi.1 (Nat.le_refl _) hk.2.1 hi.2 (by rw [hr2];exact i1) (by rw [hr2];exact i2) (by show int64 r.a.R.hd;rw [hr2];exact i3)
  (pcsE_ok (fun e he=>⟨(hV.E.2 e (frE_mem he)).2.1,by have h1:=(hV.E.2 e (frE_mem he)).1.1;have h2:=hk.2.2 e (frE_mem he);omega⟩)) (by have h1:=pcsE_len (frE es) r.a.d r.a.q r.R.hd;have h2:=hk.1;omega)
 have h5:cnF pubs x.b x.h vs r.a=cnB pubs x.b x.h vs r.a.d r.a.q r.R r.a.st r.a.ix r.a.no r.a.an r.a.ps r.a.qs r.a.rs:=cnB_hd _ _ _ _ _ _ _ _ _ _ _ _ _ _ hi.1.2.1.1 hi.1.2.2.1
 unfold opV opF
 rw [h5]
 exact h0
theorem judge_of (x:Vw) (es:List EnR) (vs:List VtR) (pubs drs:List ByteArray) (fks:List Int) (B:Nat) (w:World) (hV:VwIn w B x es vs pubs drs fks) (hB:B≤w.heap.size) (hk:VwOk x es):
 Calls Tryz.prog 50 #[.agg (cVw x)] w (JdP aqX mtX x es w):=
 judge_any aqX mtX x es B w hV.E hB hk.1 (fun e he _=>⟨fun V hb=>aq_any e B V ((hV.E.2 e he).up hb hB) (Nat.le_trans hB hb.size) (hk.2.2 e he),aqF_int e.k e.bs⟩)
  (fun e he _ V hb=>mt_any e B V ((hV.E.2 e he).up hb hB) (Nat.le_trans hB hb.size) (hk.2.2 e he))
def OpR1 (al:List Ac) (w:World) (b:Nat) (wr:World) (v:Value):Prop:=
 Below w.heap.size w wr∧∃rs:List AcR,OwnN fAr 20 39 wr w.heap.size v rs∧(∀r∈rs,ArO wr b r)∧rs.map (·.a)=al
def OpP (al:List Ac) (w:World) (e:Ending) (w':World):Prop:=∃v,e= .returned v∧OpR1 al w w.heap.size w' v
def opnV (x:Vw) (es:List EnR) (vs:List VtR) (pubs drs:List ByteArray):List Ac:=(cgL (opV x es vs pubs drs) (frE es)).map (·.1)
abbrev zCg:Array Value:=#[.int .i64 0,.int .i64 0,.int .i64 0,.int .i64 0,.string ⟨#[]⟩,.int .i64 0,.int .i64 0,.int .i64 0,.int .i64 0,.int .i64 0,.int .i64 0,.string ⟨#[]⟩,.slice none 0 0,.int .i64 0,.slice none 0 0,.slice none 0 0,.string ⟨#[]⟩,.int .i64 0,.string ⟨#[]⟩,.string ⟨#[]⟩,.int .i64 0,.int .i64 0,.int .i64 0,.int .i64 0,.slice none 0 0,.string ⟨#[]⟩]
theorem rangeCg {w:World} {b:Nat} {t:TypeId} {c:CgR} (h:w.heap[b]? =some (.cells (fCg c).toArray t (0,0))):w.rangeAt b 0 (fAr c.r):=fun j v hv=>by
 rw [Nat.zero_add,cell_of_row w b j _ _ _ h,List.getElem?_toArray,List.getElem?_append_left (List.getElem?_eq_some_iff.1 hv).1];exact hv
theorem fCg_all (c:CgR):((fCg c).toArray).all (·.oneCell')=true:=by
 rw [Array.all_eq_true']
 intro u hu
 exact fCg_one c u (by simpa using hu)
theorem sizeCg (c:CgR):(Tryz.prog.info? 109).map (·.size)=some (fCg c).toArray.size:=by kernel_rfl
theorem sizeCgL (c:CgR):(Tryz.prog.info? 109).map (·.size)=some (fCg c).length:=by kernel_rfl
theorem sizeArL (r:AcR):(Tryz.prog.info? 39).map (·.size)=some (fAr r).length:=by kernel_rfl
theorem open_any (x:Vw) (es:List EnR) (vs:List VtR) (pubs drs:List ByteArray) (fks:List Int) (B:Nat) (w:World) (hG:Glob w) (hV:VwIn w B x es vs pubs drs fks) (hB:B≤w.heap.size) (hk:VwOk x es):
 Calls Tryz.prog 17 #[.agg (cVw x)] w (OpP (opnV x es vs pubs drs) w):=by
 obtain ⟨W1,hW1⟩:∃W1:World,W1=w.alloc (.cells (cVw x) 29):=⟨_,rfl⟩
 have hb1:Below w.heap.size w W1:=by rw [hW1];exact (Below.refl _ _).alloc (Nat.le_refl _) _
 have hga:W1.heap[w.heap.size]? =some (.cells (cVw x) 29 (0,0)):=by rw [hW1];exact heap_alloc_new w _
 obtain ⟨v0,v1,v2,v3,v4,v5,v6⟩:=cellsV hga
 have HJU:=Lib.hid (judge_of x es vs pubs drs fks B W1 (hV.up hb1 hB) (Nat.le_trans hB hb1.size) hk)
 have HCH:Hid (∀V lab k kS kM A n c mN mS mM,Below W1.heap.size W1 V→JSt V lab W1.heap.size k kS kM x (frE es) A n c mN mS mM (hasE (frE es)) (pcsE aqX (frE es)) (mtsE mtX (frE es))→Calls Tryz.prog 51 #[.pointer (some ⟨W1.heap.size+3,0,none⟩)] V (CgP (opV x es vs pubs drs) (frE es) V)):=fun V lab k kS kM A n c mN mS mM hb hJ=>by
  have h1:Below w.heap.size w V:=hb1.trans (hb.mono hb1.size)
  exact charges_of lab _ k kS kM x es vs pubs drs fks A n c mN mS mM _ B V (hG.on h1) hJ (hV.up h1 hB) (Nat.le_trans hB h1.size) hk
 obtain ⟨i0,z0,hi0,hi1,hi2,hi3,hi4⟩:=info_partsN Tryz.infoAr
 have HI0:=Lib.hid hi0
 have HI1:=Lib.hid hi1
 have HI2:=Lib.hid hi2
 have HI3:=Lib.hid hi3
 have HI4:=Lib.hid hi4
 have HB1:=Lib.hid hb1
 have HWE:=Lib.hid hW1
 obtain ⟨cl,hcl⟩:∃l,cgL (opV x es vs pubs drs) (frE es)=l:=⟨_,rfl⟩
 have HLN:Hid (cl.length≤1000):=by
  show _≤_
  rw [←hcl]
  have h1:=cgL_len (opV x es vs pubs drs) (frE es)
  have h2:=frE_length es
  have h3:es.length=x.E.n:=hV.E.1.1
  have h4:=hk.1
  omega
 have HCE:=Lib.hid hcl
 unfold opnV
 rw [hcl]
 clear hG hV hB hk hb1 hga hi0 hi1 hi2 hi3 hi4 hW1 hcl
 go_enter Tryz.func17,Tryz.ntmps17
 go_upto_region 2 with fail
 rw [←HWE.out]
 go_wp2_with (first
  |(go_at_call 50;(with_reducible refine HJU.out.mono ?_);rintro e V2 ⟨rfl,hb2,lab,k,kS,kM,A,n,c,mN,mS,mM,hJ⟩;(have HC2:=Lib.hid (HCH.out V2 lab k kS kM A n c mN mS mM hb2 hJ));(have HB2:=Lib.hid hb2);clear hb2 hJ)
  |(go_at_call 51;(with_reducible refine HC2.out.mono ?_);rintro e V3 ⟨v,rfl,hb3,cs,ho,hr,hm⟩;(obtain ⟨CA,cc,hv,hc,hps,hlo⟩:=OwnN.shape fCg_len ho);subst hv;(have HPS:=Lib.hid hps);(have HRR:=Lib.hid hr);(have HMM:Hid (cs.map (fun c=>(c.r.a,c.e))=cl):=hm.trans HCE.out);(have HB3:Hid (Below W1.heap.size W1 V3):=HB2.out.trans (hb3.mono HB2.out.size));(have HS2:Hid (W1.heap.size≤V2.heap.size):=HB2.out.size);(have HCL:Hid (cs.length=cl.length):=by (show _=_;rw [←HMM.out];simp));clear hb3 ho hr hm hc hps hlo))
 clear v0 v1 v2 v3 v4 v5 v6
 have HB0:Hid (Below w.heap.size w V3):=HB1.out.trans (HB3.out.mono HB1.out.size)
 have HR0:Hid (Below V3.heap.size V3 V3):=Below.refl _ _
 have hlen:cs.length≤1000:=by have h1:=HLN.out;have h2:=HCL.out;omega
 have HS3:Hid (w.heap.size≤V2.heap.size):=Nat.le_trans HB1.out.size HS2.out
 go_loopw [3,10] (fun v i wr=>∃k:Nat,k≤cs.length∧i= .int .i64 k∧Hid (OpR1 ((cl.take k).map (·.1)) V3 w.heap.size wr v)) (fun _ i _=>cs.length - (intOf i).toNat)
 case atStart=>exact ⟨0,Nat.zero_le _,rfl,HR0.out,[],OwnN.nil,(fun _ h=>by cases h),rfl⟩
 case round=>
  clear HR0
  obtain ⟨k,hk,rfl,HR⟩:=hrel
  have HBr:Hid (Below V3.heap.size V3 wr):=HR.out.1
  by_cases hlt:k < cs.length
  ·obtain ⟨b,off,c1,rfl,hbB,hc1,hat⟩:=(HPS.out.up HBr.out (Nat.le_refl _)).at_ hlt
   have hkI:(k:Int) < (cs.length:Int):=by omega
   have HG:=Lib.hid hc1
   have HRA:Hid (wr.rangeAt b (off+k*26) (fCg c1)):=fun j v hv=>by rw [Nat.add_assoc];exact hat j v hv
   have HNO:Hid (ArO wr w.heap.size c1.r):=RcO.low ((HRR.out c1 (List.mem_of_getElem? hc1)).on HBr.out) HS3.out
   have HGN:Hid ((wr.alloc (.cells zCg 109)).heap[wr.heap.size]? =some (.cells zCg 109 (0,0))):=heap_alloc_new wr _
   obtain ⟨hbw,rs,hr1,hr2,hr3⟩:=HR.out
   have hrl:rs.length≤k:=by
    have h1:rs.length=((cl.take k).map (·.1)).length:=by rw [←hr3];simp
    simp at h1
    omega
   have HK1:Hid ((rs.length+1)*248≤140737488355328):=by show _≤_;omega
   have HK2:Hid (rs.length+1≤maxLen):=by show _≤_;unfold maxLen;omega
   have HR1:=Lib.hid hr1
   have HR2:=Lib.hid hr2
   have HR3:=Lib.hid hr3
   have HBW:=Lib.hid hbw
   clear hat hc1 hr1 hr2 hr3 hbw hrl HR
   go_upto_region 5 with (first
    |(with_reducible refine wpList_load_mid rfl 109 (.tmp 12) rfl b (off+k*26) rfl (fCg c1) _ HRA.out Tryz.underlying109 rfl (sizeCgL c1) ?_)
    |((with_reducible refine wpList_store_but (o:=⟨none,_,_,_,_,_⟩) rfl 109 (.tmp 5) (.tmp 13) rfl wr.heap.size 109 _ _ rfl rfl HGN.out (sizeCg c1) rfl (fCg_all c1) ?_);intro W4 HG4 HB4n;(have HB4:Hid (Below wr.heap.size wr W4):=((Below.refl _ wr).alloc (Nat.le_refl _) (.cells zCg 109)).trans (HB4n.out.below (by simp) (fun i hi=>by subst hi;omega)))))
   have HRC:=Lib.hid (rangeCg HG4.out)
   have HR1b:=Lib.hid (HR1.out.on HB4.out)
   have HNO4:=Lib.hid (HNO.out.on HB4.out)
   have HBW4:=Lib.hid (HBW.out.trans (HB4.out.mono HBW.out.size))
   go_wp2_with (first
    |(with_reducible refine wpList_load_mid rfl 39 (.tmp 15) rfl wr.heap.size 0 rfl (fAr c1.r) _ HRC.out Tryz.underlying39 rfl (sizeArL c1.r) ?_)
    |(with_reducible refine wpList_buildSlice1 (o:=⟨some 17,_,_,_,_,_⟩) rfl 56 (.tmp 16) rfl 39 i0 z0 20 Tryz.underlying56 HI0.out HI1.out HI2.out HI4.out (by omega) (by omega) (fAr c1.r).toArray rfl rfl ?_)
    |((with_reducible refine wpList_appN1 (o:=⟨some 18,_,_,_,_,_⟩) (f:=fAr) fAr_len (by omega) rfl (.tmp 14) (.tmp 17) 56 rfl 39 i0 z0 248 Tryz.underlying56 HI0.out HI1.out HI2.out HI3.out HI4.out u3 rs V3.heap.size rfl HR1b.out c1.r 1 rfl fAr_one HK1.out HK2.out HBW4.out.size ?_);intro v6 W6 HO6 HG6 HV6))
   go_roundw
   case rel=>exact ⟨k+1,by omega,by go_num,OwnN.below HR1b.out HBW4.out (Nat.le_refl _) HBW4.out.size HG6.out,rs++[c1.r],HO6.out,(fun r hr=>by
    rcases List.mem_append.1 hr with h |h
    ·exact ArO.grown ((HR2.out r h).on HB4.out) HR1b.out HG6.out (by decide)
    ·obtain rfl:r=c1.r:=by simpa using h
     exact ArO.grown HNO4.out HR1b.out HG6.out (by decide)),by
    have h1:cl[k]? =some (c1.r.a,c1.e):=by rw [←HMM.out,List.getElem?_map,HG.out];rfl
    rw [List.take_add_one,h1,List.map_append,List.map_append,HR3.out]
    rfl⟩
   case measure=>simp [intOf];omega
  ·obtain rfl:k=cs.length:=by omega
   rw [List.take_of_length_le (by have:=HCL.out;omega)] at HR
   go_wp2_with fail
   go_ret
   obtain ⟨hbw,rs,hr1,hr2,hr3⟩:=HR.out
   exact ⟨_,rfl,HB0.out.trans (hbw.mono HB0.out.size),rs,World.ownsRow.mono hr1 HB0.out.size,hr2,hr3⟩
