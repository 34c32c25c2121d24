/- blame.Named. -/
import Derived.Test.YtpdledjgbgalcaaGreatDoorPv
namespace Go.Proofs.YtpdledjgbgalcaaGreatDoor
set_option maxRecDepth 100000
set_option maxHeartbeats 16000000
open Go.RowKit Go.Lib
set_option linter.unusedVariables false
set_option linter.unusedSimpArgs false
theorem decV_valid {bs v:List Int} (h:decV bs=some v):validB v=true:=by
 unfold decV at h
 split at h
 ·next g=>
  injection h with h
  rw [←h]
  exact g.2.2.1
 ·cases h
theorem mtX_len (e:EnR):(mtX e).v.length≤12:=by
 unfold mtX mtD
 split
 ·split
  ·next q v h=>
   unfold dmV at h
   split at h
   ·obtain ⟨v',h1,h2⟩:=Option.map_eq_some_iff.1 h
    injection h2 with h3 h4
    subst h4
    have:=decV_valid h1
    simp [validB] at this
    exact this.2
   ·cases h
  ·exact Nat.zero_le _
 ·exact Nat.zero_le _
theorem mtsE_ok {l:List EnR} {y:Int}:(∀m∈mtsE mtX l y,m.2.length≤1000000∧m.1∈l)∧(mtsE mtX l y).length≤l.length:=by
 refine ⟨fun m hm=>?_,List.length_filterMap_le _ _⟩
 obtain ⟨e,he,h⟩:=List.mem_filterMap.1 hm
 unfold mtE at h
 split at h
 ·injection h with h
  subst h
  exact ⟨Nat.le_trans (mtX_len e) (by decide),he⟩
 ·cases h
def fkB (fks:List Int) (d:Int):Bool:=fks.any fun f=>decide (f=d)&&devB f
def apB (ml:Int→List (EnR × List Int)) (al:List Ac) (d:Int):Bool:=al.any fun a=>decide (a.R.hd=d)&&(akF (ml a.R.hd) a.d a.q).isSome
def nmB (fks:List Int) (ml:Int→List (EnR × List Int)) (al:List Ac) (d:Int):Bool:=fkB fks d||apB ml al d
theorem fkB_hd {fks:List Int} {d:Int} (h:fkB fks d=true):0≤d∧d≤11:=by
 obtain ⟨f,_,h1⟩:=List.any_eq_true.1 h
 simp [devB] at h1
 omega
theorem nmB_step {fks:List Int} {ml:Int→List (EnR × List Int)} {cl:List (Ac × EnR)} {j:Nat} {p:Ac × EnR} (h:cl[j]? =some p) (d:Int):
 nmB fks ml ((cl.take (j+1)).map (·.1)) d=(nmB fks ml ((cl.take j).map (·.1)) d||(decide (p.1.R.hd=d)&&(akF (ml p.1.R.hd) p.1.d p.1.q).isSome)):=by
 unfold nmB apB
 rw [List.take_add_one,h,List.map_append,List.any_append]
 simp [Bool.or_assoc]
theorem nmB_hd {fks:List Int} {ml:Int→List (EnR × List Int)} {al:List Ac} (h:∀a∈al,0≤a.R.hd∧a.R.hd≤11) (d:Int) (hd:nmB fks ml al d=true):0≤d∧d≤11:=by
 unfold nmB at hd
 rcases Bool.or_eq_true _ _▸hd with h1 |h1
 ·exact fkB_hd h1
 ·obtain ⟨a,ha,h2⟩:=List.any_eq_true.1 h1
  rw [Bool.and_eq_true] at h2
  rw [←of_decide_eq_true h2.1]
  exact h a ha
theorem ackE_any (lab:Nat→Rl) (s k kS kM:Nat) (x:Vw) (es:List EnR) (A:Option Addr) (n c:Nat) (mN mS mM:Lit→Value) (hel:es.length≤1000) (r:AcR) (w:World)
 (hJ:JSt w lab s k kS kM x (frE es) A n c mN mS mM (hasE (frE es)) (pcsE aqX (frE es)) (mtsE mtX (frE es))) (hh:int64 r.a.R.hd):
 Calls Tryz.prog 60 #[.pointer (some ⟨s+3,0,none⟩),.agg (cAr r)] w fun e w'=>e= .returned (.tuple #[.agg (akC (akF (mtsE mtX (frE es) r.a.R.hd) r.a.d r.a.q)),.bool (akF (mtsE mtX (frE es) r.a.R.hd) r.a.d r.a.q).isSome])∧Below w.heap.size w w':=
 ack_any lab s k kS kM x (frE es) A n c mN mS mM _ _ _ r.a.d r.a.q r.R r.a.st r.a.ix r.a.no r.a.an w hJ hh (by have h1:=(mtsE_ok (l:=frE es) (y:=r.a.R.hd)).2;have h2:=frE_length es;show (mtsE mtX (frE es) r.a.R.hd).length≤1000;omega) (fun m hm=>(mtsE_ok.1 m hm).1)
theorem sizeAk (o:Option EnR):(Tryz.prog.info? 55).map (·.size)=some (akC o).size:=by cases o<;>kernel_rfl
theorem sizeAk6 (o:Option EnR):zEn.size=(akC o).size:=by cases o<;>rfl
theorem akC_all (o:Option EnR):(akC o).all (·.oneCell')=true:=by
 cases o with
 |none=>exact zEn_all
 |some e=>exact all_oneCell_toArray (fEn_one e)
theorem named_any (x:Vw) (es:List EnR) (vs:List VtR) (pubs drs:List ByteArray) (fks:List Int) (B:Nat) (w:World) (hG:Glob w) (hV:VwIn w B x es vs pubs drs fks) (hB:B≤w.heap.size) (hk:VwOk x es) (hfn:x.F.n≤500) (hen:x.E.n≤400):
 Calls Tryz.prog 24 #[.agg (cVw x)] w (NwI (hdL (nmB fks (mtsE mtX (frE es)) (opnV x es vs pubs drs))) w w.heap.size w):=by
 obtain ⟨W1,hW1⟩:∃W1:World,W1=(w.alloc (.cells (cVw x) 29)).alloc (.map #[] 0):=⟨_,rfl⟩
 have hb1:Below w.heap.size w W1:=by rw [hW1];exact ((Below.refl _ _).alloc (Nat.le_refl _) _).alloc (by simp) _
 have hga:W1.heap[w.heap.size]? =some (.cells (cVw x) 29 (0,0)):=by rw [hW1];exact (Below.heap_alloc _ _ _ (by simp)).trans (heap_alloc_new w _)
 have hm1:MapS W1 (w.heap.size+1) 0 (fun _=>false):=by
  have:=MapS.made (w.alloc (.cells (cVw x) 29))
  rw [hW1]
  simpa using this
 have HJU:Hid (∀V,Below w.heap.size w V→Calls Tryz.prog 50 #[.agg (cVw x)] V (JdP aqX mtX x es V)):=fun V hb=>judge_of x es vs pubs drs fks B V (hV.up hb hB) (Nat.le_trans hB hb.size) hk
 have HCH:Hid (∀V lab s k kS kM A n c mN mS mM,Below w.heap.size w V→JSt V lab s k kS kM x (frE es) A n c mN mS mM (hasE (frE es)) (pcsE aqX (frE es)) (mtsE mtX (frE es))→Calls Tryz.prog 51 #[.pointer (some ⟨s+3,0,none⟩)] V (CgP (opV x es vs pubs drs) (frE es) V)):=fun V lab s k kS kM A n c mN mS mM h1 hJ=>
  charges_of lab _ k kS kM x es vs pubs drs fks A n c mN mS mM _ B V (hG.on h1) hJ (hV.up h1 hB) (Nat.le_trans hB h1.size) hk
 have hel:es.length=x.E.n:=hV.E.1.1
 have HCVW:Hid (∀V,Below W1.heap.size W1 V∨But (fun i=>i=w.heap.size+1) W1 V→V.heap[w.heap.size]? =some (.cells (cVw x) 29 (0,0))):=fun V hb=>by
  have hlt:=lt_of_block hga
  rcases hb with hb |hb
  ·exact (hb.block _ hlt).trans hga
  ·exact (hb.block _ hlt (by omega)).trans hga
 have HFL:Hid (fks.length=x.F.n):=hV.F.1
 have hFS:SL I W1 B x.F.a fks:=(hV.up hb1 hB).F.2
 have HFS:=Lib.hid hFS
 have HBB:Hid (B≤w.heap.size):=hB
 have HEL:Hid (es.length≤400):=by show _≤_;omega
 have HACK:Hid (∀V lab s k kS kM A n c mN mS mM,JSt V lab s k kS kM x (frE es) A n c mN mS mM (hasE (frE es)) (pcsE aqX (frE es)) (mtsE mtX (frE es))→∀r:AcR,int64 r.a.R.hd→Calls Tryz.prog 60 #[.pointer (some ⟨s+3,0,none⟩),.agg (cAr r)] V fun e w'=>e= .returned (.tuple #[.agg (akC (akF (mtsE mtX (frE es) r.a.R.hd) r.a.d r.a.q)),.bool (akF (mtsE mtX (frE es) r.a.R.hd) r.a.d r.a.q).isSome])∧Below V.heap.size V w'):=fun V lab s k kS kM A n c mN mS mM hJ r hh=>
  ackE_any lab s k kS kM x es A n c mN mS mM (by omega) r V hJ hh
 obtain ⟨cl,hcl⟩:∃l,cgL (opV x es vs pubs drs) (frE es)=l:=⟨_,rfl⟩
 have HHD:Hid (∀p∈cl,0≤p.1.R.hd∧p.1.R.hd≤11):=fun p hp=>(cgL_ok p (by rw [hcl];exact hp)).1.1
 have HLN:Hid (cl.length≤400):=by
  show _≤_
  rw [←hcl]
  have h1:=cgL_len (opV x es vs pubs drs) (frE es)
  have h2:=frE_length es
  omega
 have HCE:=Lib.hid hcl
 unfold opnV
 rw [hcl]
 have HB1:=Lib.hid hb1
 have HWE:=Lib.hid hW1
 have HM1:=Lib.hid hm1
 have hmm:= @run_makeMap Tryz.prog
 obtain ⟨v0,v1,v2,v3,v4,v5,v6⟩:=cellsV hga
 obtain ⟨fn,hfe⟩:∃n,x.F.n=n:=⟨_,rfl⟩
 obtain ⟨FA,hfa⟩:∃A,x.F.a=A:=⟨_,rfl⟩
 rw [hfe] at HFL v6 hfn
 rw [hfa] at HFS v6
 clear hG hV hB hk hen hb1 hga hW1 hcl hm1 hel hFS hfe hfa
 go_enter Tryz.func24,Tryz.ntmps24
 go_upto_region 2 with fail
 clear hmm
 rw [←HWE.out]
 have HR0:Hid (But (fun i=>i=w.heap.size+1) W1 W1):=But.refl _ _
 go_upto_region 3 with fail
 clear v0 v1 v2 v3 v4 v5 v6
 go_loopw [15] (fun i wr=>∃k:Nat,k≤fn∧i= .int .i64 k∧Hid (But (fun i=>i=w.heap.size+1) W1 wr)∧Hid (MapS wr (w.heap.size+1) k (fkB (fks.take k)))) (fun i _=>fn - (intOf i).toNat)
 case atStart=>exact ⟨0,Nat.zero_le _,rfl,HR0,HM1⟩
 case round=>
  clear HM1 HR0
  obtain ⟨k,hk,rfl,HB,HR⟩:=hrel
  by_cases hlt:k < fn
  ·obtain ⟨f,hf⟩:∃f,fks[k]? =some f:=⟨_,List.getElem?_eq_getElem (by rw [HFL.out];exact hlt)⟩
   have hkI:(k:Int) < (fn:Int):=by omega
   obtain ⟨b,off,rfl,hlb,hat⟩:=HFS.out (by rw [HFL.out];omega)
   have hbl:wr.heap[b]? =W1.heap[b]? :=HB.out.block b (by have h1:=HBB.out;have h2:=HB1.out.size;omega) (by have h1:=HBB.out;omega)
   have hcell:wr.cell? ⟨b,off+k,none⟩=some (.int .i64 f):=(World.cell?_of_block hbl).trans (hat k f hf)
   have HFK:Hid (∀d,fkB (fks.take (k+1)) d=(fkB (fks.take k) d||(decide (f=d)&&devB f))):=fun d=>by
    unfold fkB
    rw [List.take_add_one,hf,List.any_append]
    simp
   clear hat hbl hf
   by_cases hd:0≤f∧f≤11
   ·have hdv:devB f=true:=by simp [devB];omega
    have HSE:Hid ((fun d=>fkB (fks.take k) d||decide (d=f))=fkB (fks.take (k+1))):=by
     show _=_
     funext d
     rw [HFK.out d,hdv,Bool.and_true]
     simp only [eq_comm]
    have HFI:Hid (int64 f):=⟨Int.le_trans (by decide) hd.1,Int.le_trans hd.2 (by decide)⟩
    have hdd:decide (0≤f∧f≤11)=true:=decide_eq_true hd
    clear hd hdv
    obtain ⟨W5,r5,hm5,hg5⟩:=HR.out.store (by unfold maxLen;omega) HFI.out (.bool true)
    have HM5:=Lib.hid hm5
    have HG5:=Lib.hid hg5
    clear hm5 hg5
    go_wp2_with (go_at_call 42;(with_reducible refine (within_any f 0 11 _).mono ?_);rintro e w' ⟨rfl,rfl⟩)
    go_roundw
    case rel=>exact ⟨k+1,by omega,by go_num,HB.out.trans (q:=fun i=>i=w.heap.size+1) ⟨HG5.out.os,HG5.out.tape,HG5.out.output,HG5.out.size,fun i hi hne=>HG5.out.block i hi (fun e=>hne (by injection e))⟩ (fun i hi=> .inl hi),by have h:=HM5.out;rw [HSE.out] at h;exact h⟩
    case measure=>simp [intOf];omega
   ·have hdv:devB f=false:=by simp [devB];omega
    have HSE:Hid (fkB (fks.take k)=fkB (fks.take (k+1))):=by
     show _=_
     funext d
     rw [HFK.out d,hdv,Bool.and_false,Bool.or_false]
    have hdd:decide (0≤f∧f≤11)=false:=decide_eq_false hd
    clear hd hdv
    go_wp2_with (go_at_call 42;(with_reducible refine (within_any f 0 11 _).mono ?_);rintro e w' ⟨rfl,rfl⟩)
    go_roundw
    case rel=>exact ⟨k+1,by omega,by go_num,HB.out,by have h:=HR.out.mono (Nat.le_succ k);rw [HSE.out] at h;exact h⟩
    case measure=>simp [intOf];omega
  ·obtain rfl:k=fn:=by omega
   obtain ⟨W0,hW0⟩:∃W0,W0=wr:=⟨_,rfl⟩
   subst hW0
   rw [List.take_of_length_le (by rw [HFL.out];exact Nat.le_refl _)] at HR
   have HBw:Hid (Below w.heap.size w W0):=HB1.out.trans (HB.out.below HB1.out.size (fun i hi=>by subst hi;omega))
   have HJU1:=Lib.hid (HJU.out W0 HBw.out)
   obtain ⟨v0,v1,v2,v3,v4,v5,v6⟩:=cellsV (HCVW.out W0 (.inr HB.out))
   clear HFS HJU HFL HCVW hlt
   go_upto_region 10 with (first
    |(go_at_call 50;(with_reducible refine HJU1.out.mono ?_);rintro e V2 ⟨rfl,hb2,lab,jk,kS,kM,A,n,c,mN,mS,mM,hJ⟩;(have HC2:=Lib.hid (HCH.out V2 lab W0.heap.size jk kS kM A n c mN mS mM (HBw.out.trans (hb2.mono HBw.out.size)) hJ));(have HB2:=Lib.hid hb2);(have HJ2:=Lib.hid hJ);clear hb2 hJ)
    |(go_at_call 51;(with_reducible refine HC2.out.mono ?_);rintro e V3 ⟨v,rfl,hb3,cs,ho,hr,hm⟩;(obtain ⟨CA,cc,hv,hc,hps,hlo⟩:=OwnN.shape fCg_len ho);subst hv;(have HPS:=Lib.hid hps);(have HLO:=Lib.hid hlo);(have HMM:Hid (cs.map (fun c=>(c.r.a,c.e))=cl):=hm.trans HCE.out);(have HJ3:=Lib.hid (HJ2.out.on hb3));(have HM3:=Lib.hid (((HR.out.on HB2.out).on hb3)));(have HB3:Hid (Below w.heap.size w V3):=HBw.out.trans ((HB2.out.trans (hb3.mono HB2.out.size)).mono HBw.out.size));(have HS2:Hid (W0.heap.size≤V2.heap.size):=HB2.out.size);(have HCL:Hid (cs.length=cl.length):=by (show _=_;rw [←HMM.out];simp));clear hb3 ho hr hm hc hps hlo))
   clear v0 v1 v2 v3 v4 v5 v6
   have HSM:Hid (w.heap.size+1 < W0.heap.size):=HR.out.lt
   have HR0:Hid (But (fun i=>i=w.heap.size+1) V3 V3):=But.refl _ _
   have hlen:cs.length≤400:=by have h1:=HLN.out;have h2:=HCL.out;omega
   have HM30:Hid (MapS V3 (w.heap.size+1) (k+0) (nmB fks (mtsE mtX (frE es)) ((cl.take 0).map (·.1)))):=by
    have h:=HM3.out
    have e:nmB fks (mtsE mtX (frE es)) ((cl.take 0).map (·.1))=fkB fks:=by funext d;simp [nmB,apB]
    rw [e]
    exact h
   clear HJU1 HC2 HJ2 HCH HB2 HM3 HR HB
   go_loopw [29] (fun i wr=>∃j:Nat,j≤cs.length∧i= .int .i64 j∧Hid (But (fun i=>i=w.heap.size+1) V3 wr)∧Hid (MapS wr (w.heap.size+1) (k+j) (nmB fks (mtsE mtX (frE es)) ((cl.take j).map (·.1))))) (fun i _=>cs.length - (intOf i).toNat)
   case atStart=>exact ⟨0,Nat.zero_le _,rfl,HR0,HM30⟩
   case round=>
    clear HM30 HR0
    obtain ⟨j,hj,rfl,HBr,HR⟩:=hrel
    by_cases hlt:j < cs.length
    ·obtain ⟨b,off,c1,rfl,hbB,hc1,hat⟩:=HPS.out.at_ hlt
     have hjI:(j:Int) < (cs.length:Int):=by omega
     have hcl1:cl[j]? =some (c1.r.a,c1.e):=by rw [←HMM.out,List.getElem?_map,hc1];rfl
     have HNS:=Lib.hid (nmB_step (fks:=fks) (ml:=mtsE mtX (frE es)) hcl1)
     have hblk:wr.heap[b]? =V3.heap[b]? :=HBr.out.block b hbB (by have h1:=HLO.out b rfl;have h2:=HSM.out;have h3:=HS2.out;omega)
     have HRA:Hid (wr.rangeAt b (off+j*26) (fCg c1)):=fun i v hv=>by rw [Nat.add_assoc];exact (World.cell?_of_block hblk).trans (hat i v hv)
     have HGN:Hid ((wr.alloc (.cells zCg 109)).heap[wr.heap.size]? =some (.cells zCg 109 (0,0))):=heap_alloc_new wr _
     have HJq:=Lib.hid (HJ3.out.under (HBr.out.mono (fun i hi=> .inl (by have h2:=HSM.out;omega))))
     have HHR:Hid (int64 c1.r.a.R.hd):=by
      have h1:=HHD.out _ (List.mem_of_getElem? hcl1)
      exact ⟨Int.le_trans (by decide) h1.1,Int.le_trans h1.2 (by decide)⟩
     clear hat hc1 hblk hcl1
     go_upto_region 12 with (first
      |(with_reducible refine wpList_load_mid rfl 109 (.tmp 31) rfl b (off+j*26) rfl (fCg c1) _ HRA.out Tryz.underlying109 rfl (sizeCgL c1) ?_)
      |((with_reducible refine wpList_store_but (o:=⟨none,_,_,_,_,_⟩) rfl 109 (.tmp 8) (.tmp 32) rfl wr.heap.size 109 _ _ rfl rfl HGN.out (sizeCg c1) rfl (fCg_all c1) ?_);intro W4 HG4 HB4n;(have HB4:Hid (Below wr.heap.size wr W4):=((Below.refl _ wr).alloc (Nat.le_refl _) (.cells zCg 109)).trans (HB4n.out.below (by simp) (fun i hi=>by subst hi;exact Nat.le_refl _)))))
     have HRC:=Lib.hid (rangeCg HG4.out)
     have HAK:=Lib.hid (HACK.out W4 lab W0.heap.size jk kS kM A n c mN mS mM (HJq.out.on HB4.out) c1.r HHR.out)
     obtain ⟨o,ho⟩:∃o,akF (mtsE mtX (frE es) c1.r.a.R.hd) c1.r.a.d c1.r.a.q=o:=⟨_,rfl⟩
     have HNS2:Hid (∀d,nmB fks (mtsE mtX (frE es)) ((cl.take (j+1)).map (·.1)) d=(nmB fks (mtsE mtX (frE es)) ((cl.take j).map (·.1)) d||(decide (c1.r.a.R.hd=d)&&o.isSome))):=fun d=>by rw [HNS.out d,ho]
     rw [ho] at HAK
     obtain ⟨fb,hfb⟩:∃b,o.isSome=b:=⟨_,rfl⟩
     rw [hfb] at HAK HNS2
     clear HJq HNS ho hfb
     go_upto_region 13 with (first
      |(with_reducible refine wpList_load_mid rfl 39 (.tmp 35) rfl wr.heap.size 0 rfl (fAr c1.r) _ HRC.out Tryz.underlying39 rfl (sizeArL c1.r) ?_)
      |(go_at_call 60;(with_reducible refine HAK.out.mono ?_);rintro e W5 ⟨rfl,hb5⟩;(have HB5:=Lib.hid hb5);(have HGE:Hid ((W5.alloc (.cells zEn 55)).heap[W5.heap.size]? =some (.cells zEn 55 (0,0))):=heap_alloc_new W5 _);clear hb5)
      |((with_reducible refine wpList_store_but (o:=⟨none,_,_,_,_,_⟩) rfl 55 (.tmp 9) (.tmp 38) rfl W5.heap.size 55 _ _ rfl rfl HGE.out (sizeAk o) (sizeAk6 o) (akC_all o) ?_);intro W6 HG6 HB6n;(have HB6:Hid (Below W5.heap.size W5 W6):=((Below.refl _ W5).alloc (Nat.le_refl _) (.cells zEn 55)).trans (HB6n.out.below (by simp) (fun i hi=>by subst hi;exact Nat.le_refl _)))))
     have HB46:Hid (Below W4.heap.size W4 W6):=HB5.out.trans (HB6.out.mono HB5.out.size)
     have HBq6:Hid (Below wr.heap.size wr W6):=HB4.out.trans (HB46.out.mono HB4.out.size)
     have hhd:W6.cell? ⟨wr.heap.size,2,none⟩=some (.int .i64 c1.r.a.R.hd):=by rw [World.cell?_of_block (HB46.out.block _ (lt_of_block HG4.out)),cell_of_row W4 _ _ _ _ _ HG4.out];rfl
     cases fb with
     |true=>
      obtain ⟨W7,r7,hm7,hg7⟩:=(HR.out.on HBq6.out).store (by have h1:=hlen;unfold maxLen;omega) HHR.out (.bool true)
      have HM7:=Lib.hid hm7
      have HG7:=Lib.hid hg7
      clear hm7 hg7
      go_wp2_with fail
      go_roundw
      case rel=>exact ⟨j+1,by omega,by go_num,(HBr.out.trans (But.of_below (p:=fun _=>False) HBq6.out) (fun i hi=>hi.elim)).trans (q:=fun i=>i=w.heap.size+1) ⟨HG7.out.os,HG7.out.tape,HG7.out.output,HG7.out.size,fun i hi hne=>HG7.out.block i hi (fun e=>hne (by injection e))⟩ (fun i hi=> .inl hi),by
       have h:=HM7.out
       have e:(fun d=>nmB fks (mtsE mtX (frE es)) ((cl.take j).map (·.1)) d||decide (d=c1.r.a.R.hd))=nmB fks (mtsE mtX (frE es)) ((cl.take (j+1)).map (·.1)):=by
        funext d
        rw [HNS2.out d,Bool.and_true]
        simp only [eq_comm]
       rw [e] at h
       exact h⟩
      case measure=>simp [intOf];omega
     |false=>
      go_wp2_with fail
      go_roundw
      case rel=>exact ⟨j+1,by omega,by go_num,HBr.out.trans (But.of_below (p:=fun _=>False) HBq6.out) (fun i hi=>hi.elim),by
       have h:=(HR.out.on HBq6.out).mono (Nat.le_succ _)
       have e:nmB fks (mtsE mtX (frE es)) ((cl.take j).map (·.1))=nmB fks (mtsE mtX (frE es)) ((cl.take (j+1)).map (·.1)):=by
        funext d
        rw [HNS2.out d,Bool.and_false,Bool.or_false]
       rw [e] at h
       exact h⟩
      case measure=>simp [intOf];omega
    ·obtain rfl:j=cs.length:=by omega
     rw [List.take_of_length_le (by have:=HCL.out;omega)] at HR
     have HSO:=Lib.hid (sorted_any (w.heap.size+1) (k+cs.length) (nmB fks (mtsE mtX (frE es)) (cl.map (·.1))) (hdL (nmB fks (mtsE mtX (frE es)) (cl.map (·.1)))) wr HR.out (by omega) (hdL_sorted _) (hdL_mem (nmB_hd (fun a ha=>by obtain ⟨p,hp,rfl⟩:=List.mem_map.1 ha;exact HHD.out p hp))))
     have HBw2:Hid (Below w.heap.size w wr):=HB3.out.trans (HBr.out.below HB3.out.size (fun i hi=>by subst hi;omega))
     go_wp2_with (first
      |(go_at_call 54;(with_reducible refine (keys_any _ _).mono ?_);rintro e w5 ⟨rfl,rfl⟩)
      |(go_at_call 53;(with_reducible refine HSO.out.mono ?_);rintro e w6 ⟨v,rfl,hv,hb6⟩;(have HV:=Lib.hid hv);(have HB6:=Lib.hid hb6);clear hv hb6))
     go_ret
     exact ⟨v,rfl,World.ownsRow.mono HV.out HBw2.out.size,HBw2.out.trans (HB6.out.mono HBw2.out.size)⟩
