/- The law of honest devices, walked. -/
import Derived.Test.YtpdledjgbgalcaaGreatDoorPw
import Derived.Test.YtpdledjgbgalcaaGreatDoorPu
namespace Go.Proofs.YtpdledjgbgalcaaGreatDoor
set_option maxRecDepth 100000
set_option maxHeartbeats 8000000
open Go.RowKit Go.Lib
set_option linter.unusedVariables false
set_option linter.unusedSimpArgs false
theorem sizeVwL (y:Vw):(Tryz.prog.info? 29).map (·.size)=some (cVw y).toList.length:=by kernel_rfl
theorem rangeVw {w:World} {b:Nat} {t:TypeId} {y:Vw} (h:w.heap[b]? =some (.cells (cVw y) t (0,0))):w.rangeAt b 0 (cVw y).toList:=fun j v hv=>by
 rw [Nat.zero_add,cell_of_row w b j _ _ _ h]
 rw [←Array.getElem?_toList]
 exact hv
theorem Tryz.sizePcL (p:PcR):(Tryz.prog.info? 42).map (·.size)=some (fPc p).length:=by kernel_rfl
theorem lawHonest_any (x:Vw) (es:List EnR) (vs:List VtR) (pubs drs:List ByteArray) (fks:List Int) (PA:Option Addr) (pn pc:Nat) (prs:List PcR) (dev:Int) (B:Nat) (w:World) (hG:Glob w) (hV:VwIn w B x es vs pubs drs fks) (hP:PsIn w B PA pn prs) (hpc:pn≤pc) (hdv:int64 dev) (hB:B≤w.heap.size) (hsm:smB es):
 Calls Tryz.prog 8 #[.agg (cVw x),.slice PA pn pc,.int .i64 dev] w fun e w'=>e= .returned (.bool true)∧Below w.heap.size w w':=by
 obtain ⟨W1,hW1⟩:∃W1:World,W1=w.alloc (.cells (cVw x) 29):=⟨_,rfl⟩
 have hg1:W1.heap[w.heap.size]? =some (.cells (cVw x) 29 (0,0)):=by rw [hW1];exact heap_alloc_new w _
 have HB:Hid (Below w.heap.size w W1):=by
  show Below ..
  rw [hW1]
  exact (Below.refl _ _).alloc (Nat.le_refl _) _
 have HX:Hid (∀V,Below w.heap.size w V→(VwIn V B x es vs pubs drs fks∧PsIn V B PA pn prs)∧B≤V.heap.size∧Glob V):=fun V hv=>⟨⟨hV.up hv hB,hP.up hv hB⟩,Nat.le_trans hB hv.size,hG.on hv⟩
 have HWE:=Lib.hid hW1
 have HG1:=Lib.hid hg1
 have HFW:Hid (Calls Tryz.prog 9 #[.agg (cVw x)] W1 (FewP x es W1)):=few_any x es B W1 (HX.out W1 HB.out).1.1.E (HX.out W1 HB.out).2.1 hV.cs.1
 have HAW:Hid (∀V,Below w.heap.size w V→Calls Tryz.prog 11 #[] V fun e w'=>e= .returned (.bool true)∧Below V.heap.size V w'):=fun V hv=>awake_any V (HX.out V hv).2.2
 have HSM:=Lib.hid hsm
 have HPC:=Lib.hid hpc
 have HDV:=Lib.hid hdv
 have HBW:=Lib.hid hB
 have hpl:prs.length=pn:=hP.1.1
 obtain ⟨v0,v1,v2,v3,v4,v5,v6⟩:=cellsV hg1
 clear hG hV hP hB hW1 hg1 hsm hpc hdv
 go_enter Tryz.func8,Tryz.ntmps8
 go_upto_region 1 with fail
 rw [←HWE.out]
 go_wp2_with fail
 refine HFW.out.mono ?_
 rintro e w4 ⟨t,rfl,ht,hb4⟩
 have HB4:Hid (Below W1.heap.size W1 w4):=hb4
 clear hb4 v0 v1 v2 v3 v4 v5 v6
 have HBw4:Hid (Below w.heap.size w w4):=HB.out.trans (HB4.out.mono HB.out.size)
 cases t with
 |false=>
  clear ht hpl
  go_wp2_with (go_at_call 11;(with_reducible refine (HAW.out _ HBw4.out).mono ?_);rintro e w9 ⟨rfl,hb9⟩;(have HB9:Hid (Below w.heap.size w w9):=HBw4.out.trans (Below.mono hb9 HBw4.out.size));clear hb9)
  go_ret
  exact ⟨rfl,HB9.out⟩
 |true=>
  have HFB:=Lib.hid (ht rfl)
  clear ht
  have HG4:Hid (w4.heap[w.heap.size]? =some (.cells (cVw x) 29 (0,0))):=(HB4.out.block _ (lt_of_block HG1.out)).trans HG1.out
  by_cases hn:pn≤6
  ·have hnI:¬(6:Int) < (pn:Int):=by omega
   have hok0:VwOk x es:=⟨by have:=HFB.out.1;omega,by have:=HFB.out.2.1;have:=HFB.out.2.2.1;have:=HFB.out.2.2.2.1;omega,fun e he=>Nat.le_trans (mem_sumB he) (Nat.le_trans (HFB.out.2.2.2.2.2 HSM.out) (by decide))⟩
   have HOKX:=Lib.hid hok0
   obtain ⟨al,hal⟩:∃al,al=(opnV x es vs pubs drs).filter (fun a=>decide (a.R.hd=dev)):=⟨_,rfl⟩
   have HAL:=Lib.hid hal
   have HAG:Hid (Calls Tryz.prog 22 #[.agg (cVw x),.int .i64 dev] w4 (OpP al w4)):=by
    show Calls ..
    rw [hal]
    have h1:=HX.out w4 HBw4.out
    exact against_any x es vs pubs drs fks dev B w4 h1.2.2 h1.1.1 h1.2.1 hok0
   have HLE:Hid (al.length≤12):=by
    show _≤_
    rw [hal]
    have h1:=opnV_len x es vs pubs drs
    have h2:=List.length_filter_le (fun a=>decide (a.R.hd=dev)) (opnV x es vs pubs drs)
    have h3:=(HX.out _ HB.out).1.1.E.1.1
    have h4:=HFB.out.1
    omega
   have HNB:Hid (∀a∈al,numB a.d a.q=true):=fun a ha=>by
    rw [hal] at ha
    exact (opnV_mem (List.mem_filter.1 ha).1).2
   clear hal hok0
   obtain ⟨v0,v1,v2,v3,v4,v5,v6⟩:=cellsV HG4.out
   go_upto_region 6 with (first
    |(go_at_call 22;(with_reducible refine HAG.out.mono ?_);rintro e w5 ⟨v,rfl,hb,ra,ho,hr,hm⟩;(obtain ⟨CA,cA1,hv,hc,hps,hlo⟩:=OwnN.shape fAr_len ho);subst hv;(have HPA:=Lib.hid hps);(have HRA:=Lib.hid hr);(have HMA:=Lib.hid hm);(have HV5:Hid (Below w4.heap.size w4 w5):=hb);(have HG5:Hid (w5.heap[w.heap.size]? =some (.cells (cVw x) 29 (0,0))):=(hb.block _ (lt_of_block HG4.out)).trans HG4.out);clear v0 v1 v2 v3 v4 v5 v6 ho hr hm hc hps hlo hb;(obtain ⟨v0,v1,v2,v3,v4,v5,v6⟩:=cellsV HG5.out);(have HZ5:Hid ((w5.alloc (.cells zVw 29)).heap[w5.heap.size]? =some (.cells zVw 29 (0,0))):=heap_alloc_new w5 _))
    |((with_reducible refine wpList_store_but (o:=⟨none,_,_,_,_,_⟩) rfl 29 (.tmp 9) (.tmp 28) rfl w5.heap.size 29 _ _ rfl rfl HZ5.out (sizeVw _) rfl (cVw_all _) ?_);intro W6 HG6 HB6))
   have HBw5:Hid (Below w.heap.size w w5):=HBw4.out.trans (HV5.out.mono HBw4.out.size)
   have hb50:Below w5.heap.size w5 (w5.alloc (.cells zVw 29)):=(Below.refl _ _).alloc (Nat.le_refl _) _
   have HW6:Hid (Below w5.heap.size w5 W6):=hb50.trans (HB6.out.below hb50.size (fun i hi=>by subst hi;exact Nat.le_refl _))
   have HBw6:Hid (Below w.heap.size w W6):=HBw5.out.trans (HW6.out.mono HBw5.out.size)
   have HH0:Hid (Hon w5.heap.size 29 x es al dev W6 0 0):=Hon.start (EnB.new (HX.out _ HBw6.out).1.1.E (Nat.le_trans HBW.out HBw5.out.size) (HX.out _ HBw6.out).2.1) (HX.out _ HBw6.out).1.1.cs.2.1 HG6.out
   have HLA:Hid (ra.length=al.length):=by show _=_;rw [←HMA.out];simp
   have hla:ra.length≤12:=by have h1:=HLA.out;have h2:=HLE.out;omega
   have HGX:Hid (∀V,Below w5.heap.size w5 V→V.heap[w.heap.size]? =some (.cells (cVw x) 29 (0,0))):=fun V hv=>(hv.block _ (lt_of_block HG5.out)).trans HG5.out
   clear v0 v1 v2 v3 v4 v5 v6 hb50 HZ5 HG6 HB6 HG1 HG4 HAG HFW
   go_wp2_with fail
   go_loopw [10,8] (fun i u wr=>∃k:Nat,k≤ra.length∧i= .int .i64 k∧(∃j:Nat,u= .int .i64 j∧j≤k∧Hid (Hon w5.heap.size 29 x es al dev wr k j))∧Hid (Below w.heap.size w wr)∧Hid (Below w5.heap.size w5 wr)) (fun i _ _=>ra.length - (intOf i).toNat)
   case atStart=>exact ⟨0,Nat.zero_le _,rfl,⟨0,rfl,Nat.le_refl _,HH0⟩,HBw6,HW6⟩
   case round=>
    obtain ⟨k,hk,rfl,⟨j,rfl,hjk,HH⟩,HVr,HV5r⟩:=hrel
    clear HH0 HBw6 HW6
    by_cases hlt:k < ra.length
    ·
     obtain ⟨b1,o1,r1,rfl,hb1B,hr1,hat1⟩:=(HPA.out.up HV5r.out (Nat.le_refl _)).at_ hlt
     have hkI:(k:Int) < (ra.length:Int):=by omega
     have HK1:Hid (al[k]? =some r1.a):=by show _=_;rw [←HMA.out,List.getElem?_map,hr1];rfl
     have HAT1:=Lib.hid hat1
     clear hat1 hr1
     go_wp2_with fail
     obtain ⟨W0,hW0⟩:∃W0:World,W0=wr:=⟨_,rfl⟩
     subst hW0
     have HI0:Hid (Below W0.heap.size W0 W0):=Below.refl _ _
     go_loopw [11,8] (fun i u wr=>∃m:Nat,m≤prs.length∧i= .int .i64 m∧u= .int .i64 j∧Hid (Below W0.heap.size W0 wr)) (fun i _ _=>prs.length - (intOf i).toNat)
     case atStart=>exact ⟨0,Nat.zero_le _,rfl,rfl,HI0⟩
     case round=>
      obtain ⟨m,hm,rfl,rfl,HIr⟩:=hrel
      clear HI0
      have HVm:Hid (Below w.heap.size w wr):=HVr.out.trans (HIr.out.mono HVr.out.size)
      have HV5m:Hid (Below w5.heap.size w5 wr):=HV5r.out.trans (HIr.out.mono HV5r.out.size)
      by_cases hltm:m < prs.length
      ·
       have hpsm:=(HX.out _ HVm.out).1.2
       obtain ⟨b3,o3,p,rfl,hb3B,hp3,hat3⟩:=hpsm.1.at_ (by omega:m < pn)
       have hmI:(m:Int) < (pn:Int):=by omega
       have hpk:=hpsm.2 p (List.mem_of_getElem? hp3)
       have y2:wr.cell? ⟨b3,o3+m*4+2,none⟩=some (.slice p.d.a p.d.n p.d.c):=by rw [Nat.add_assoc];exact hat3 2 _ rfl
       have y3:wr.cell? ⟨b3,o3+m*4+3,none⟩=some (.slice p.q.a p.q.n p.q.c):=by rw [Nat.add_assoc];exact hat3 3 _ rfl
       have HPK:=Lib.hid hpk
       have HAT3:=Lib.hid hat3
       clear hpsm hp3 hpk hat3
       by_cases h20:p.d.n≤2000
       ·have h20I:¬(2000:Int) < (p.d.n:Int):=by omega
        by_cases h21:p.q.n≤20
        ·have h21I:¬(20:Int) < (p.q.n:Int):=by omega
         obtain ⟨ab,hab⟩:∃t,aqB r1.a.R p.x.st p.x.ix p.x.xs p.x.ys=t:=⟨_,rfl⟩
         have HAB:=Lib.hid hab
         have HAC:Hid (∀V,Below wr.heap.size wr V→Calls Tryz.prog 15 #[.agg (cAr r1),.agg #[.string p.x.st,.int .i64 p.x.ix,.slice p.d.a p.d.n p.d.c,.slice p.q.a p.q.n p.q.c]] V fun e w'=>e= .returned (.bool ab)∧Below V.heap.size V w'):=fun V hv=>by
          have hv2:=HVm.out.trans (hv.mono HVm.out.size)
          have h1:=(HPK.out.1.up hv (HX.out _ HVm.out).2.1)
          have h2:=HFB.out
          rw [←hab,←aqB_hd r1.a.R r1.pa r1.pb r1.pc]
          exact acquits_any r1.a.d r1.a.q r1.R r1.a.st r1.a.ix r1.a.no r1.a.an p.x.st p.x.ix p.d.a p.q.a p.d.n p.d.c p.q.n p.q.c B p.x.xs p.x.ys V (HX.out _ hv2).2.2 h1.2.2.1 h1.2.2.2 h1.1 h1.2.1 (HX.out _ hv2).2.1 (by omega) (by omega) HPK.out.2
         have HRG:Hid (∀V,Below wr.heap.size wr V→V.rangeAt b1 (o1+k*20) (fAr r1)∧V.rangeAt b3 (o3+m*4) (fPc p)):=fun V hb=>by
          have hb1r:=HIr.out.trans (hb.mono HIr.out.size)
          exact ⟨fun i v hv=>by rw [Nat.add_assoc];exact (World.cell?_of_block (hb1r.block b1 (Nat.lt_of_lt_of_le hb1B HV5r.out.size))).trans (HAT1.out i v hv),fun i v hv=>by rw [Nat.add_assoc];exact (World.cell?_of_block (hb.block b3 (Nat.lt_of_lt_of_le hb3B (HX.out _ HVm.out).2.1))).trans (HAT3.out i v hv)⟩
         clear hab HAT3
         go_upto_region 14 with fail
         clear y2 y3
         refine wp_region_held_drew (S:=(fun w'=>w'.rangeAt b1 (o1+k*20) (fAr r1)∧w'.rangeAt b3 (o3+m*4) (fPc p))) (by kernel_rfl) (by exact HRG.out _ (Below.refl _ wr).drew) (fun hHeld=>?_)
         refine tkY (i:=0) ?_
         try simp only [pt]
         refine tkY (i:=1) ?_
         try simp only [pt]
         refine tkY (i:=2) ?_
         try simp only [pt]
         refine tkH (i:=3) (v:=_) (y:=(yieldsIf_load_mid (by rfl) 39 (.tmp 60) rfl b1 (o1+k*20) (by rfl) (fAr r1) _ (fun _ h=>h.1) Tryz.underlying39 rfl (sizeArL r1))) (h:=?_)
         try simp only [pt]
         refine tkY (i:=4) ?_
         try simp only [pt]
         refine tkY (i:=5) ?_
         try simp only [pt]
         refine tkY (i:=6) ?_
         try simp only [pt]
         refine tkH (i:=7) (v:=_) (y:=(yieldsIf_load_mid (by rfl) 42 (.tmp 64) rfl b3 (o3+m*4) (by rfl) (fPc p) _ (fun _ h=>h.2) Tryz.underlying42 rfl (Tryz.sizePcL p))) (h:=?_)
         try simp only [pt]
         refine wpAnyH_ready (rs:=[8]) (by kernel_rfl) (by simp) ?_
         refine AllReadyH.cons (by simp only [List.getElem?_toArray,List.getElem?_cons_succ,List.getElem?_cons_zero];rfl) (fun K hK=>?_) (AllReadyH.nil)
         (go_simp;go_at_call 15;(with_reducible refine (HAC.out _ (Below.refl _ wr).drew).mono ?_);rintro e w13 ⟨rfl,hb13⟩;(have HB13:Hid (Below wr.heap.size wr w13):=(Below.refl _ wr).drew.trans hb13);clear hb13;go_wp2_with fail)
         refine hK.out _ _ (by exact HRG.out _ HB13.out) (fun hHeldp9=>?_)
         clear hK K hHeld
         try simp only [pt]
         refine wpAnyH_done (by kernel_rfl) ?_ _
         cases ab with
         |false=>
          go_wp2_with fail
          go_roundw
          case rel=>exact ⟨m+1,by omega,by go_num,rfl,HIr.out.trans (HB13.out.mono HIr.out.size)⟩
          case measure=>simp [intOf];omega
         |true=>
          have HVn:Hid (Below w.heap.size w w13):=HVm.out.trans (HB13.out.mono HVm.out.size)
          have HEA:Hid (∀V,Below wr.heap.size wr V→Calls Tryz.prog 32 #[.agg (cAr r1),.agg #[.string p.x.st,.int .i64 p.x.ix,.slice p.d.a p.d.n p.d.c,.slice p.q.a p.q.n p.q.c]] V fun e w'=>∃A3 n3 c3,e= .returned (.tuple #[.slice A3 n3 c3,.int .i64 0])∧n3≤c3∧Sl fB w' w'.heap.size A3 n3 (encA r1.a.d.toNat r1.a.q.toNat p.x.st p.x.ix.toNat p.x.xs p.x.ys)∧Below V.heap.size V w'):=fun V hv=>by
           have h1:=HPK.out.1.up hv (HX.out _ HVm.out).2.1
           have h2:=HX.out _ (HVm.out.trans (hv.mono HVm.out.size))
           refine (eacqA_any r1.a.d r1.a.q r1.R r1.a.st r1.a.ix r1.a.no r1.a.an p.pc p.x.xs p.x.ys B V h1 h2.2.1).mono ?_
           rintro e w' (⟨_,h⟩ |⟨h,_⟩)
           ·exact h
           ·rw [HNB.out _ (List.mem_of_getElem? HK1.out),shB_of HAB.out h1.1.1 h1.2.1.1] at h
            cases h
          go_upto_region 15 with fail
          refine wp_region_held_drew (S:=(fun w'=>w'.rangeAt b1 (o1+k*20) (fAr r1)∧w'.rangeAt b3 (o3+m*4) (fPc p))) (by kernel_rfl) (by exact HRG.out _ HB13.out.drew) (fun hHeld=>?_)
          refine tkY (i:=0) ?_
          try simp only [pt]
          refine tkY (i:=1) ?_
          try simp only [pt]
          refine tkY (i:=2) ?_
          try simp only [pt]
          refine tkH (i:=3) (v:=_) (y:=(yieldsIf_load_mid (by rfl) 39 (.tmp 70) rfl b1 (o1+k*20) (by rfl) (fAr r1) _ (fun _ h=>h.1) Tryz.underlying39 rfl (sizeArL r1))) (h:=?_)
          try simp only [pt]
          refine tkY (i:=4) ?_
          try simp only [pt]
          refine tkY (i:=5) ?_
          try simp only [pt]
          refine tkY (i:=6) ?_
          try simp only [pt]
          refine tkH (i:=7) (v:=_) (y:=(yieldsIf_load_mid (by rfl) 42 (.tmp 74) rfl b3 (o3+m*4) (by rfl) (fPc p) _ (fun _ h=>h.2) Tryz.underlying42 rfl (Tryz.sizePcL p))) (h:=?_)
          try simp only [pt]
          refine wpAnyH_ready (rs:=[8]) (by kernel_rfl) (by simp) ?_
          refine AllReadyH.cons (by simp only [List.getElem?_toArray,List.getElem?_cons_succ,List.getElem?_cons_zero];rfl) (fun K hK=>?_) (AllReadyH.nil)
          (go_simp;go_at_call 32;(with_reducible refine (HEA.out _ HB13.out.drew).mono ?_);rintro e w15 ⟨A3,n3,c3,rfl,hc3,hs3,hb15⟩;(have HC3:=Lib.hid hc3);(have HS3:=Lib.hid hs3);(have HB15:Hid (Below wr.heap.size wr w15):=HB13.out.drew.trans (hb15.mono HB13.out.size));clear hc3 hs3 hb15;go_wp2_with fail)
          refine hK.out _ _ (by exact HRG.out _ HB15.out) (fun hHeldq9=>?_)
          clear hK K hHeld
          try simp only [pt]
          refine tkY (i:=9) ?_
          try simp only [pt]
          refine tkY (i:=10) ?_
          try simp only [pt]
          refine tkY (i:=11) ?_
          try simp only [pt]
          refine tkY (i:=12) ?_
          try simp only [pt]
          refine tkY (i:=13) ?_
          try simp only [pt]
          refine wpAnyH_done (by kernel_rfl) ?_ _
          have HI15:Hid (Below W0.heap.size W0 w15):=HIr.out.trans (HB15.out.mono HIr.out.size)
          have HV15:Hid (Below w.heap.size w w15):=HVm.out.trans (HB15.out.mono HVm.out.size)
          have HV515:Hid (Below w5.heap.size w5 w15):=HV5m.out.trans (HB15.out.mono HV5m.out.size)
          obtain ⟨ms,AE,nE,cE,hm1,hm2,hm3,hm4,hm5,hm6⟩:=Hon.on HH.out HI15.out
          have hel:=(HX.out _ HV15.out).1.1.E.1.1
          have hml:(acqs ms).length≤12:=by omega
          have hE15:EnIn w15 w15.heap.size AE nE (es++acqs ms):=hm5 w15 (But.refl _ _)
          have HM1:=Lib.hid hm1
          have HM2:=Lib.hid hm2
          have HM4:=Lib.hid hm4
          have HM5:=Lib.hid hm5
          have HM6:=Lib.hid hm6
          have HWI:=Lib.hid (with_any (x.setE AE nE cE) (es++acqs ms) dev (1000+(k:Int)) 7 ⟨A3,n3,c3⟩ (encA r1.a.d.toNat r1.a.q.toNat p.x.st p.x.ix.toNat p.x.xs p.x.ys) w15.heap.size w15 hE15.1 (Nat.le_refl _) (by rw [List.length_append];have:=HFB.out.1;omega))
          clear hel hml hE15 hm1 hm2 hm3 hm4 hm5 hm6 HAC HEA HRG
          go_upto_region 19 with (first
           |(with_reducible refine wpList_load_row (o:=⟨some 81,_,_,_,_,_⟩) rfl 29 (.tmp 9) rfl w5.heap.size rfl 29 (cVw (x.setE AE nE cE)) _ _ HM6.out Tryz.underlying29 rfl (sizeVw _) ?_)
           |(go_at_call 33;(with_reducible refine HWI.out.mono ?_);rintro e w16 ⟨A4,n4,c4,rfl,ho4,hb16⟩;(have HO4:=Lib.hid ho4);(have HB16:=Lib.hid hb16);(have HG16:Hid (w16.heap[w5.heap.size]? =some (.cells (cVw (x.setE AE nE cE)) 29 (0,0))):=(hb16.block _ (lt_of_block HM6.out)).trans HM6.out);clear ho4 hb16)
           |((with_reducible refine wpList_store_but (o:=⟨none,_,_,_,_,_⟩) rfl 29 (.tmp 9) (.tmp 86) rfl w5.heap.size 29 _ (cVw ((x.setE AE nE cE).setE A4 n4 c4)) rfl rfl HG16.out (sizeVw _) rfl (cVw_all _) ?_);intro w17 HG17 HB17))
          have hgb:w5.heap.size < w15.heap.size:=lt_of_block HM6.out
          have hbb:Below w5.heap.size w16 w17:=HB17.out.below (Nat.le_trans (Nat.le_of_lt hgb) HB16.out.size) (fun i hi=>by subst hi;exact Nat.le_refl _)
          have hn3:(encA r1.a.d.toNat r1.a.q.toNat p.x.st p.x.ix.toNat p.x.xs p.x.ys).length=n3:=HS3.out.1
          have haf:=aqB_facts HAB.out
          have HH17:Hid (Hon w5.heap.size 29 x es al dev w17 (k+1) (j+1)):=Hon.more (e:=⟨dev,1000+(k:Int),7,0,⟨A3,n3,c3⟩,⟨#[]⟩,(encA r1.a.d.toNat r1.a.q.toNat p.x.st p.x.ix.toNat p.x.xs p.x.ys)⟩) HM1.out HM2.out HM4.out HM5.out HK1.out
           (aqFor_enc (HNB.out _ (List.mem_of_getElem? HK1.out)) HAB.out) (by show n3≤_;rw [←hn3];exact encA_len haf.1 haf.2.2.2.2.2 haf.2.1.2 haf.2.2.1) (Below.refl _ _)
           (fun V hv=>HS3.out.offV HM6.out hv) ⟨encA_byt HPK.out.2,HC3.out,HDV.out,by show int64 (1000+(k:Int));unfold int64;omega⟩ HB16.out HO4.out hgb HB17.out HG17.out
          have HV517:Hid (Below w5.heap.size w5 w17):=(HV515.out.trans (HB16.out.mono HV515.out.size)).trans hbb
          have HV17:Hid (Below w.heap.size w w17):=(HV15.out.trans (HB16.out.mono HV15.out.size)).trans (hbb.mono HBw5.out.size)
          clear hgb hbb hn3 haf
          go_wp2_with fail
          go_roundw
          case rel=>exact ⟨k+1,by omega,by go_num,⟨j+1,by go_num,by omega,HH17⟩,HV17,HV517⟩
          case measure=>simp [intOf];omega
        ·have h21I:(20:Int) < (p.q.n:Int):=by omega
         clear HAT3 HPK
         go_wp2_with (go_at_call 11;(with_reducible refine (HAW.out _ HVm.out).mono ?_);rintro e w9 ⟨rfl,hb9⟩;(have HB9:Hid (Below w.heap.size w w9):=HVm.out.trans (Below.mono hb9 HVm.out.size));clear hb9)
         go_ret
         exact ⟨rfl,HB9.out⟩
       ·have h20I:(2000:Int) < (p.d.n:Int):=by omega
        clear HAT3 HPK
        go_wp2_with (go_at_call 11;(with_reducible refine (HAW.out _ HVm.out).mono ?_);rintro e w9 ⟨rfl,hb9⟩;(have HB9:Hid (Below w.heap.size w w9):=HVm.out.trans (Below.mono hb9 HVm.out.size));clear hb9)
        go_ret
        exact ⟨rfl,HB9.out⟩
      ·
       obtain rfl:m=prs.length:=by omega
       have hmI:¬((prs.length:Nat):Int) < (pn:Int):=by omega
       go_wp2_with fail
       go_roundw
       case rel=>exact ⟨k+1,by omega,by go_num,⟨j,rfl,by omega,Hon.skip HH.out HK1.out HIr.out⟩,HVm,HV5m⟩
       case measure=>simp [intOf];omega
    ·
     obtain rfl:k=ra.length:=by omega
     go_wp2_with fail
     have hel:=(HX.out _ HVr.out).1.1.E.1.1
     have hes:es.length≤12:=by have:=HFB.out.1;omega
     have HHr:=HH
     have HNO:Hid (∀e∈es.take 0,¬(e.dv=dev∧1000≤e.sq)):=fun e he=>by cases he
     have HGr:=HGX.out _ HV5r.out
     obtain ⟨v0,v1,v2,v3,v4,v5,v6⟩:=cellsV HGr
     have HGR:=Lib.hid HGr
     clear HGr HH
     go_loop [14] (fun i=>∃q:Nat,q≤es.length∧i= .int .i64 q∧Hid (∀e∈es.take q,¬(e.dv=dev∧1000≤e.sq))) (fun i=>es.length - (intOf i).toNat)
     case atStart=>exact ⟨0,Nat.zero_le _,rfl,HNO⟩
     case round=>
      obtain ⟨q,hq,rfl,HQ⟩:=hrel
      clear HNO
      by_cases hlq:q < es.length
      ·obtain ⟨b4,o4,en,hEa,hb4B,he4,hat4⟩:=(HX.out _ HVr.out).1.1.E.1.at_ (by omega:q < x.E.n)
       have hqI:(q:Int) < (x.E.n:Int):=by omega
       have z0:wr.cell? ⟨b4,o4+q*6,none⟩=some (.int .i64 en.dv):=hat4 0 _ rfl
       have z1:wr.cell? ⟨b4,o4+q*6+1,none⟩=some (.int .i64 en.sq):=by rw [Nat.add_assoc];exact hat4 1 _ rfl
       rw [hEa] at v0
       have hQs:¬(en.dv=dev∧1000≤en.sq)→Hid (∀e∈es.take (q+1),¬(e.dv=dev∧1000≤e.sq)):=fun hne e he=>by
        rw [List.take_add_one,he4] at he
        rcases List.mem_append.1 he with he |he
        ·exact HQ.out e he
        ·obtain rfl:e=en:=by simpa using he
         exact hne
       clear hat4 hEa
       by_cases hd:en.dv=dev
       ·by_cases hs:1000≤en.sq
        ·clear hQs he4
         go_wp2_with (go_at_call 11;(with_reducible refine (HAW.out _ HVr.out).mono ?_);rintro e w9 ⟨rfl,hb9⟩;(have HB9:Hid (Below w.heap.size w w9):=HVr.out.trans (Below.mono hb9 HVr.out.size));clear hb9)
         go_ret
         exact ⟨rfl,HB9.out⟩
        ·have HQ1:=hQs (fun h=>hs h.2)
         clear hQs he4
         go_wp2_with fail
         go_round
         case rel=>exact ⟨q+1,by omega,by go_num,HQ1⟩
         case measure=>simp [intOf];omega
       ·have HQ1:=hQs (fun h=>hd h.1)
        clear hQs he4
        go_wp2_with fail
        go_round
        case rel=>exact ⟨q+1,by omega,by go_num,HQ1⟩
        case measure=>simp [intOf];omega
      ·obtain rfl:q=es.length:=by omega
       have hqI:¬((es.length:Nat):Int) < (x.E.n:Int):=by omega
       go_upto_region 25 with fail
       have hno:∀e∈es,¬(e.dv=dev∧1000≤e.sq):=by have:=HQ.out;rwa [List.take_length] at this
       obtain ⟨ms,AE,nE,cE,hm1,hm2,hm3,hm4,hm5,hm6⟩:=HHr.out
       have hlk:al.take ra.length=al:=List.take_of_length_le (by have:=HLA.out;omega)
       rw [hlk] at hm1
       have hE:EnIn wr wr.heap.size AE nE (es++acqs ms):=hm5 wr (But.refl _ _)
       obtain ⟨y,hy⟩:∃y,y=x.setE AE nE cE:=⟨_,rfl⟩
       have hXr:=HX.out _ HVr.out
       have hmore:=hXr.1.1.more hXr.2.1
       have hnE:(es++acqs ms).length=nE:=hE.1.1
       have hnE2:nE≤24:=by rw [←hnE,List.length_append];have:=HFB.out.1;omega
       have hVy:VwIn wr wr.heap.size y (es++acqs ms) vs pubs drs fks:=by
        rw [hy]
        have h1:=hmore.cs
        exact ⟨hE,hmore.V,hmore.P,hmore.D,hmore.F,by show nE≤_;omega,hm3,h1.2.2.1,h1.2.2.2.1,h1.2.2.2.2.1,h1.2.2.2.2.2⟩
       have hoky:VwOk y (es++acqs ms):=by
        rw [hy]
        refine ⟨by show nE≤1000;omega,HOKX.out.2.1,fun e he=>?_⟩
        rcases List.mem_append.1 he with h |h
        ·exact HOKX.out.2.2 e h
        ·exact hm4 e h
       have hleft:=honest_left (x:=x) (y:=y) (es:=es) (vs:=vs) (pubs:=pubs) (drs:=drs) (dev:=dev) (ms:=ms) (by rw [hy];exact ⟨rfl,rfl⟩) (by rw [←HAL.out];exact hm1) hno
       rw [←HAL.out,hm2] at hleft
       have HGY:Hid (wr.heap[w5.heap.size]? =some (.cells (cVw y) 29 (0,0))):=by rw [hy];exact hm6
       have hFn:y.F=x.F∧y.E.n=nE:=by rw [hy];exact ⟨rfl,rfl⟩
       obtain ⟨oy,hoy⟩:∃l,opnV y (es++acqs ms) vs pubs drs=l:=⟨_,rfl⟩
       have hAG2:Calls Tryz.prog 22 #[.agg (cVw y),.int .i64 dev] wr (OpP ((opnV y (es++acqs ms) vs pubs drs).filter (fun a=>decide (a.R.hd=dev))) wr):=against_any y (es++acqs ms) vs pubs drs fks dev wr.heap.size wr hXr.2.2 hVy (Nat.le_refl _) hoky
       have hAC2:∀V,Below wr.heap.size wr V→Calls Tryz.prog 19 #[.agg (cVw y)] V (NwI (hdL (hdB (opnV y (es++acqs ms) vs pubs drs))) V V.heap.size V):=fun V hv=>accused_any y (es++acqs ms) vs pubs drs fks wr.heap.size V (HX.out _ (HVr.out.trans (hv.mono HVr.out.size))).2.2 (hVy.up hv (Nat.le_refl _)) hv.size hoky
       have hNA2:∀V,Below wr.heap.size wr V→Calls Tryz.prog 24 #[.agg (cVw y)] V (NwI (hdL (nmB fks (mtsE mtX (frE (es++acqs ms))) (opnV y (es++acqs ms) vs pubs drs))) V V.heap.size V):=fun V hv=>named_any y (es++acqs ms) vs pubs drs fks wr.heap.size V (HX.out _ (HVr.out.trans (hv.mono HVr.out.size))).2.2 (hVy.up hv (Nat.le_refl _)) hv.size hoky (by rw [hFn.1];have:=HFB.out.2.2.2.2.1;omega) (by rw [hFn.2];omega)
       rw [hoy] at hleft hAG2 hAC2 hNA2
       obtain ⟨ml,hml⟩:∃ml,mtsE mtX (frE (es++acqs ms))=ml:=⟨_,rfl⟩
       rw [hml] at hNA2
       obtain ⟨ll,hll⟩:∃l,oy.filter (fun a=>decide (a.R.hd=dev))=l:=⟨_,rfl⟩
       have hfree:ll=[]→hdB oy dev=false∧nmB fks ml oy dev=fkB fks dev:=fun h=>by
        have h1:=honest_free (al:=oy) (dev:=dev) (hll.trans h)
        exact ⟨h1.1,h1.2 fks ml⟩
       rw [hll] at hleft hAG2
       have HFREE:=Lib.hid hfree
       have HAG2:=Lib.hid hAG2
       have HAC2:=Lib.hid hAC2
       have HNA2:=Lib.hid hNA2
       have HFX:Hid (∀V,Below wr.heap.size wr V→Sl I V B x.F.a x.F.n fks):=fun V hv=>(HX.out _ (HVr.out.trans (hv.mono HVr.out.size))).1.1.F
       have HWX:Hid (∀V,Below wr.heap.size wr V→Below w.heap.size w V):=fun V hv=>HVr.out.trans (hv.mono HVr.out.size)
       have HGA:Hid (∀V,Below wr.heap.size wr V→V.heap[w.heap.size]? =some (.cells (cVw x) 29 (0,0))∧V.heap[w5.heap.size]? =some (.cells (cVw y) 29 (0,0))):=fun V hv=>⟨(hv.block _ (lt_of_block HGR.out)).trans HGR.out,(hv.block _ (lt_of_block HGY.out)).trans HGY.out⟩
       have hxF:x.F.n≤10:=HFB.out.2.2.2.2.1
       have hll12:ll.length≤12:=by have:=HLE.out;omega
       have HLF:=Lib.hid hleft
       clear hm1 hm2 hm3 hm4 hm5 hm6 hlk hE hy hXr hmore hnE hnE2 hVy hoky hAG2 hAC2 hNA2 hfree hml hoy hll hleft hno hFn HHr HQ v0 v1 v2 v3 v4 v5 v6 hqI
       go_upto_region 28 with (first
        |(with_reducible refine wpList_load_row (o:=⟨some 114,_,_,_,_,_⟩) rfl 29 (.tmp 9) rfl w5.heap.size rfl 29 (cVw y) _ _ HGY.out Tryz.underlying29 rfl (sizeVw _) ?_)
        |(go_at_call 22;(with_reducible refine HAG2.out.mono ?_);rintro e w20 ⟨v,rfl,hb,rb,ho,hr,hm⟩;(obtain ⟨CB,cB1,hv,hc,hps,hlo⟩:=OwnN.shape fAr_len ho);subst hv;(have HMB:=Lib.hid hm);(have HB20:=Lib.hid hb);clear ho hr hm hc hps hlo hb;(have HRL:Hid (rb.length=ll.length):=by show _=_;rw [←HMB.out];simp);(have hsub:(ra.length:Int) - (j:Int)=(rb.length:Int):=by have h1:=HLF.out;have h2:=HLA.out;have h3:=HRL.out;omega)))
       have HGA20:=HGA.out _ HB20.out
       obtain ⟨nb,hnb⟩:∃n,rb.length=n:=⟨_,rfl⟩
       have hrl:=HRL.out
       rw [hnb] at hrl
       clear hsub HRL
       simp only [hnb]
       by_cases hz:nb=0
       ·
        subst hz
        clear hll12
        have hlnil:ll=[]:=List.length_eq_zero_iff.1 hrl.symm
        obtain ⟨hf1,hf2⟩:=HFREE.out hlnil
        have HI1:Hid ((hdL (hdB oy)).contains dev=false):=hdL_sub hf1
        obtain ⟨l1,hl1⟩:∃l,hdL (hdB oy)=l:=⟨_,rfl⟩
        obtain ⟨l2,hl2⟩:∃l,hdL (nmB fks ml oy)=l:=⟨_,rfl⟩
        have hln1:l1.length≤12:=by rw [←hl1];exact hdL_len _
        have hln2:l2.length≤12:=by rw [←hl2];exact hdL_len _
        have HI2:Hid (fks.contains dev=false→l2.contains dev=false):=fun h=>by
         rw [←hl2]
         exact hdL_sub (hf2.trans (fkB_in h))
        rw [hl1] at HI1 HAC2
        rw [hl2] at HNA2
        have HJ1:Hid (∀(A:Option Addr) (c:Nat) (V:World),SL I V V.heap.size A l1→Calls Tryz.prog 20 #[.slice A l1.length c,.int .i64 dev] V fun e w'=>e= .returned (.bool false)∧V=w'):=fun A c V h=>by
         have h1:=inJ_any A l1.length c _ l1 dev V ⟨rfl,h⟩ (by omega)
         rw [HI1.out] at h1
         exact h1
        obtain ⟨fb,hfb⟩:∃t,fks.contains dev=t:=⟨_,rfl⟩
        have HJ2:Hid (∀V,Below wr.heap.size wr V→Calls Tryz.prog 20 #[.slice x.F.a x.F.n x.F.c,.int .i64 dev] V fun e w'=>e= .returned (.bool fb)∧V=w'):=fun V hv=>by
         have h1:=inJ_any x.F.a x.F.n x.F.c _ fks dev V (HFX.out V hv) (by omega)
         rw [hfb] at h1
         exact h1
        have HFB2:=Lib.hid hfb
        clear hf1 hf2 hl1 hl2 hlnil hfb hrl
        cases fb with
        |true=>
         go_wp2_with (first
          |(go_at_call 11;(with_reducible refine (HAW.out _ (HWX.out _ HB20.out)).mono ?_);rintro e w21 ⟨rfl,hb21⟩;(have HB21:Hid (Below wr.heap.size wr w21):=HB20.out.trans (hb21.mono HB20.out.size));clear hb21;(have HG21:=Lib.hid (rangeVw (HGA.out _ HB21.out).2)))
          |(with_reducible refine wpList_load_midJ (op:=⟨some 130,_,_,_,_,_⟩) (by kernel_rfl) 29 (.tmp 9) rfl w5.heap.size 0 rfl (cVw y).toList _ HG21.out Tryz.underlying29 rfl (sizeVwL y) ?_)
          |(go_at_call 19;(with_reducible refine (HAC2.out _ HB21.out).mono ?_);rintro e w22 ⟨v,rfl,ho,hb⟩;(obtain ⟨C1,c1,hv,hc,hps,_⟩:=ho.shape);subst hv;(have HPN:=Lib.hid hps);(have HB22:Hid (Below wr.heap.size wr w22):=HB21.out.trans (hb.mono HB21.out.size));clear ho hc hps hb;(obtain ⟨v0,v1,v2,v3,v4,v5,v6⟩:=cellsV (HGA.out _ HB22.out).1))
          |(go_at_call 20;(with_reducible refine (HJ1.out _ _ _ HPN.out).mono ?_);rintro e w23 ⟨rfl,rfl⟩)
          |(go_at_call 20;(with_reducible refine (HJ2.out _ HB22.out).mono ?_);rintro e w24 ⟨rfl,rfl⟩))
         go_ret
         exact ⟨rfl,HWX.out _ HB22.out⟩
        |false=>
         have HI3:=HI2.out HFB2.out
         have HJ3:Hid (∀(A:Option Addr) (c:Nat) (V:World),SL I V V.heap.size A l2→Calls Tryz.prog 20 #[.slice A l2.length c,.int .i64 dev] V fun e w'=>e= .returned (.bool false)∧V=w'):=fun A c V h=>by
          have h1:=inJ_any A l2.length c _ l2 dev V ⟨rfl,h⟩ (by omega)
          rw [HI3] at h1
          exact h1
         go_wp2_with (first
          |(go_at_call 11;(with_reducible refine (HAW.out _ (HWX.out _ HB20.out)).mono ?_);rintro e w21 ⟨rfl,hb21⟩;(have HB21:Hid (Below wr.heap.size wr w21):=HB20.out.trans (hb21.mono HB20.out.size));clear hb21;(have HG21:=Lib.hid (rangeVw (HGA.out _ HB21.out).2)))
          |(with_reducible refine wpList_load_midJ (op:=⟨some 130,_,_,_,_,_⟩) (by kernel_rfl) 29 (.tmp 9) rfl w5.heap.size 0 rfl (cVw y).toList _ HG21.out Tryz.underlying29 rfl (sizeVwL y) ?_)
          |(go_at_call 19;(with_reducible refine (HAC2.out _ HB21.out).mono ?_);rintro e w22 ⟨v,rfl,ho,hb⟩;(obtain ⟨C1,c1,hv,hc,hps,_⟩:=ho.shape);subst hv;(have HPN:=Lib.hid hps);(have HB22:Hid (Below wr.heap.size wr w22):=HB21.out.trans (hb.mono HB21.out.size));clear ho hc hps hb;(have HG22:=Lib.hid (rangeVw (HGA.out _ HB22.out).2));(obtain ⟨v0,v1,v2,v3,v4,v5,v6⟩:=cellsV (HGA.out _ HB22.out).1))
          |(with_reducible refine wpList_load_midJ (op:=⟨some 141,_,_,_,_,_⟩) (by kernel_rfl) 29 (.tmp 9) rfl w5.heap.size 0 rfl (cVw y).toList _ HG22.out Tryz.underlying29 rfl (sizeVwL y) ?_)
          |(go_at_call 20;(with_reducible refine (HJ1.out _ _ _ HPN.out).mono ?_);rintro e w23 ⟨rfl,rfl⟩)
          |(go_at_call 20;(with_reducible refine (HJ2.out _ HB22.out).mono ?_);rintro e w24 ⟨rfl,rfl⟩)
          |(go_at_call 24;(with_reducible refine (HNA2.out _ HB22.out).mono ?_);rintro e w25 ⟨v,rfl,ho,hb⟩;(obtain ⟨C2,c2,hv,hc,hps,_⟩:=ho.shape);subst hv;(have HPM:=Lib.hid hps);(have HB25:Hid (Below wr.heap.size wr w25):=HB22.out.trans (hb.mono HB22.out.size));clear ho hc hps hb)
          |(go_at_call 20;(with_reducible refine (HJ3.out _ _ _ HPM.out).mono ?_);rintro e w26 ⟨rfl,rfl⟩))
         go_ret
         exact ⟨rfl,HWX.out _ HB25.out⟩
       ·
        have hz0:(0:Int) < (nb:Int):=by omega
        have hz1:0 < nb:=by omega
        clear hrl
        go_wp2_with (go_at_call 11;(with_reducible refine (HAW.out _ (HWX.out _ HB20.out)).mono ?_);rintro e w21 ⟨rfl,hb21⟩;(have HB21:Hid (Below wr.heap.size wr w21):=HB20.out.trans (hb21.mono HB20.out.size));clear hb21)
        go_ret
        exact ⟨rfl,HWX.out _ HB21.out⟩
  ·have hnI:(6:Int) < (pn:Int):=by omega
   clear hpl
   go_wp2_with (go_at_call 11;(with_reducible refine (HAW.out _ HBw4.out).mono ?_);rintro e w9 ⟨rfl,hb9⟩;(have HB9:Hid (Below w.heap.size w w9):=HBw4.out.trans (Below.mono hb9 HBw4.out.size));clear hb9)
   go_ret
   exact ⟨rfl,HB9.out⟩
