/- Plainly: what a further acquittal and a further dropped stripe leave open. Slice literals at a step of a region that draws its order. kinkeeplaw45.with: a further entry. The reference: Same of receipts, of accusations, at equal ones. Equal accusations are the same; those with other numbers are not. EncodeAccusation. An acquittal's body, read back. The reference's Token; the law's short; an accusation's body read back. The reference's Counts. Small views; a view as the reference's. The law of acquittals and dropped stripes, walked. The law of what counts, walked. -/
import Derived.Test.YtpdledjgbgalcaaGreatDoorPt
import Derived.Test.YtpdledjgbgalcaaGreatDoorPs
import Derived.Test.YtpdledjgbgalcaaGreatDoorJN
import Derived.Test.YtpdledjgbgalcaaGreatDoorS4
import Derived.Test.YtpdledjgbgalcaaGreatDoorPo
import Derived.Test.YtpdledjgbgalcaaGreatDoorPh
import Derived.Test.YtpdledjgbgalcaaGreatDoorMc
import Derived.Test.YtpdledjgbgalcaaGreatDoorQ5
import Derived.Test.YtpdledjgbgalcaaGreatDoorNP
import Derived.Test.YtpdledjgbgalcaaGreatDoorPi
import Derived.Test.YtpdledjgbgalcaaGreatDoorZf
import Derived.Test.YtpdledjgbgalcaaGreatDoorPl
namespace Go.Proofs.YtpdledjgbgalcaaGreatDoor
set_option maxRecDepth 100000
set_option maxHeartbeats 8000000
open Go.RowKit Go.Lib
set_option linter.unusedVariables false
set_option linter.unusedSimpArgs false
def UnE (l:List EnR):Prop:=l.Pairwise fun a b=>¬(a.dv=b.dv∧a.sq=b.sq)
theorem hasE_false {l:List EnR} {d q:Int} (h:hasE l d q=false):∀e∈l,¬(e.dv=d∧e.sq=q):=fun e he g=>by
 have h1:hasE l d q=true:=List.any_eq_true.2 ⟨e,he,by simp [g.1,g.2]⟩
 rw [h] at h1
 cases h1
theorem UnE.put {l:List EnR} {e:EnR} (h:UnE l):UnE (putE l e):=by
 cases hs:hasE l e.dv e.sq with
 |true=>rw [putE_yes hs];exact h
 |false=>
  rw [putE_no hs]
  exact List.pairwise_append.2 ⟨h,List.pairwise_singleton _ _,fun a ha b hb=>by
   obtain rfl:b=e:=by simpa using hb
   exact hasE_false hs a ha⟩
theorem frE_un (es:List EnR):UnE (frE es):=by
 have key:∀(l acc:List EnR),UnE acc→UnE (l.foldl putE acc):=by
  intro l
  induction l with
  |nil=>exact fun _ h=>h
  |cons a t ih=>exact fun acc h=>ih _ h.put
 exact key es [] List.Pairwise.nil
theorem acF_key {k d q:Int} {bs:List Int} (h6:k=6) (h0:(acF k d q bs).er=0):(acF k d q bs).d=d∧(acF k d q bs).q=q:=by
 unfold acF at h0 ⊢
 rw [if_pos h6] at h0 ⊢
 split at h0
 ·next h1=>
  split at h0
  ·next h2=>rw [if_pos h1,if_pos h2];exact ⟨rfl,rfl⟩
  ·exact absurd h0 (by decide)
 ·exact absurd h0 (by decide)
theorem cgE_some {op:Ac→Bool} {e:EnR} {p:Ac × EnR} (h:cgE op e=some p):e.k=6∧(acX e).er=0∧op (acX e)=true∧p=(acX e,e):=by
 unfold cgE at h
 split at h
 ·next g=>injection h with h;exact ⟨g.1,g.2.1,g.2.2,h.symm⟩
 ·cases h
theorem cgL_un {op:Ac→Bool} {l:List EnR} (h:UnE l):((cgL op l).map (·.1)).Pairwise fun a b=>¬(a.d=b.d∧a.q=b.q):=by
 rw [List.pairwise_map]
 refine List.Pairwise.filterMap _ ?_ h
 intro a b hab p hp q hq
 obtain ⟨h1,h2,_,rfl⟩:=cgE_some hp
 obtain ⟨g1,g2,_,rfl⟩:=cgE_some hq
 obtain ⟨k1,k2⟩:=acF_key h1 h2
 obtain ⟨k3,k4⟩:=acF_key g1 g2
 intro hc
 exact hab ⟨k1.symm.trans (hc.1.trans k3),k2.symm.trans (hc.2.trans k4)⟩
theorem cgL_filter {op op':Ac→Bool} (h:∀a,op' a=true→op a=true) (l:List EnR):(cgL op' l).map (·.1)=((cgL op l).map (·.1)).filter op':=by
 unfold cgL
 induction l with
 |nil=>rfl
 |cons e t ih=>
  rw [List.filterMap_cons,List.filterMap_cons]
  by_cases h1:e.k=6∧(acX e).er=0
  ·cases h2:op' (acX e) with
   |true=>
    have e1:cgE op' e=some (acX e,e):=by unfold cgE;rw [if_pos ⟨h1.1,h1.2,h2⟩]
    have e2:cgE op e=some (acX e,e):=by unfold cgE;rw [if_pos ⟨h1.1,h1.2,h _ h2⟩]
    rw [e1,e2]
    simp only [List.map_cons]
    rw [List.filter_cons_of_pos h2,ih]
   |false=>
    have e1:cgE op' e=none:=by unfold cgE;rw [if_neg (fun g=>by rw [h2] at g;exact absurd g.2.2 (by decide))]
    rw [e1]
    cases h3:op (acX e) with
    |true=>
     have e2:cgE op e=some (acX e,e):=by unfold cgE;rw [if_pos ⟨h1.1,h1.2,h3⟩]
     rw [e2]
     simp only [List.map_cons]
     rw [List.filter_cons_of_neg (by rw [h2];decide),ih]
    |false=>
     have e2:cgE op e=none:=by unfold cgE;rw [if_neg (fun g=>by rw [h3] at g;exact absurd g.2.2 (by decide))]
     rw [e2,ih]
  ·have e1:cgE op' e=none:=by unfold cgE;rw [if_neg (fun g=>h1 ⟨g.1,g.2.1⟩)]
   have e2:cgE op e=none:=by unfold cgE;rw [if_neg (fun g=>h1 ⟨g.1,g.2.1⟩)]
   rw [e1,e2,ih]
section
variable (x y:Vw) (es:List EnR) (vs:List VtR) (pubs drs:List ByteArray) (d:ByteArray) (e:EnR)
end
theorem run_buildSlice0 {P:Program} {t e:TypeId} {i:TypeInfo} (ht:P.underlying t=some (.slice e)) (hi:P.info? e=some i) (w:World):
 (Instr.buildSlice t 0 #[]).run P w= .ok (.slice (some ⟨w.heap.size,0,none⟩) 0 0) (w.alloc (.cells #[] e)):=by
 have h0:Array.range 0=#[]:=by simp
 simp [Instr.buildSlice,run_underlying ht,sizeOf,typeInfo,hi,Instr.fill,newRow,h0]
theorem Tryz.infoEn:(Tryz.prog.info? 55).map (fun i=>(i.zero.map (·.cells.size),i.size,i.bytes))=some (some 6,6,72):=by kernel_rfl
theorem wpList_lit0 {P:Program} {w:World} {ops:Array Oper} {rest:List Oper} {o:Oper} {a:Act} {Q:Exit→Act→World→Prop} (hgd:o.guard=none) (t e:TypeId) (ho:o.op= .buildSlice t 0 #[]) (i:TypeInfo) (ht:P.underlying t=some (.slice e)) (hi:P.info? e=some i)
 (h:wpList P ops Q rest (a.put o.dst (.slice (some ⟨w.heap.size,0,none⟩) 0 0)) (w.alloc (.cells #[] e))):wpList P ops Q (o::rest) a w:=by
 refine wpList_plain hgd fun K hK=>?_
 have hrun:=run_buildSlice0 (P:=P) ht hi w
 unfold Oper.wp
 simp [execOp,ho,hrun,Result.andThen]
 exact hK _ _ h
def wiP19:Array (Nat × Operand):=#[(0,.tmp 15),(1,.tmp 16),(2,.tmp 17),(4,.tmp 18)]
theorem wiB19 (a:Act) (dv sq k:Int) (bd:Hd) (h0:a.eval (.tmp 15)= .int .i64 dv) (h1:a.eval (.tmp 16)= .int .i64 sq) (h2:a.eval (.tmp 17)= .int .i64 k) (h3:a.eval (.tmp 18)= .slice bd.a bd.n bd.c) (bs:List Int):Tryz.prog.built 55 (wiP19.map fun (i,x)=>(i,a.eval x)).toList=some (fEn ⟨dv,sq,k,0,bd,⟨#[]⟩,bs⟩).toArray:=by
 rw [Array.toList_map]
 show Tryz.prog.built 55 [(0,a.eval (.tmp 15)),(1,a.eval (.tmp 16)),(2,a.eval (.tmp 17)),(4,a.eval (.tmp 18))]=_
 rw [h0,h1,h2,h3]
 kernel_rfl
abbrev zVw:Array Value:=#[.slice none 0 0,.slice none 0 0,.slice none 0 0,.int .i64 0,.int .i64 0,.slice none 0 0,.slice none 0 0]
theorem sizeVw (x:Vw):(Tryz.prog.info? 29).map (·.size)=some (cVw x).size:=by kernel_rfl
theorem cVw_all (x:Vw):(cVw x).all (·.oneCell')=true:=by kernel_rfl
abbrev Vw.setE (x:Vw) (A:Option Addr) (n c:Nat):Vw:=⟨⟨A,n,c⟩,x.V,x.P,x.b,x.h,x.D,x.F⟩
theorem with_any (x:Vw) (es:List EnR) (dv sq k:Int) (bd:Hd) (bs:List Int) (B:Nat) (w:World) (hE:SlN fEn 6 w B x.E.a x.E.n es) (hB:B≤w.heap.size) (hn:es.length≤1000):
 Calls Tryz.prog 33 #[.agg (cVw x),.int .i64 dv,.int .i64 sq,.int .i64 k,.slice bd.a bd.n bd.c] w fun e w'=>∃A n c,e= .returned (.agg (cVw (x.setE A n c)))∧OwnN fEn 6 55 w' w.heap.size (.slice A n c) (es++[⟨dv,sq,k,0,bd,⟨#[]⟩,bs⟩])∧Below w.heap.size w w':=by
 obtain ⟨W1,hW1⟩:∃W1:World,W1=(w.alloc (.cells (cVw x) 29)).alloc (.cells zVw 29):=⟨_,rfl⟩
 have hb1:Below w.heap.size w W1:=by rw [hW1];exact ((Below.refl _ _).alloc (Nat.le_refl _) _).alloc (by simp) _
 have hs1:W1.heap.size=w.heap.size+2:=by rw [hW1];simp
 have hga:W1.heap[w.heap.size]? =some (.cells (cVw x) 29 (0,0)):=by rw [hW1];exact (Below.heap_alloc _ _ _ (by simp)).trans (heap_alloc_new w _)
 have hgz:W1.heap[w.heap.size+1]? =some (.cells zVw 29 (0,0)):=by rw [hW1];have:=heap_alloc_new (w.alloc (.cells (cVw x) 29)) (.cells zVw 29);simpa using this
 obtain ⟨W2,hW2⟩:∃W2:World,W2=W1.alloc (.cells #[] 55):=⟨_,rfl⟩
 have hb2:Below W1.heap.size W1 W2:=by rw [hW2];exact (Below.refl _ _).alloc (Nat.le_refl _) _
 have hb02:Below w.heap.size w W2:=hb1.trans (hb2.mono hb1.size)
 have hs2:W2.heap.size=W1.heap.size+1:=by rw [hW2];simp
 have ho2:OwnN fEn 6 55 W2 W1.heap.size (.slice (some ⟨W1.heap.size,0,none⟩) 0 0) []:=by rw [hW2];exact World.ownsRow_made W1 #[] 0 (Nat.le_refl _) (Nat.zero_le _) (by simp)
 have hE2:=hE.up hb02 hB
 obtain ⟨i0,z0,hi0,hi1,hi2,hi3,hi4⟩:=info_partsN Tryz.infoEn
 have HI0:=Lib.hid hi0
 have HI1:=Lib.hid hi1
 have HI2:=Lib.hid hi2
 have HI3:=Lib.hid hi3
 have HI4:=Lib.hid hi4
 have HB1:=Lib.hid hb1
 have HB2:=Lib.hid hb2
 have HW1:=Lib.hid hW1
 have HW2:=Lib.hid hW2
 have HS1:=Lib.hid hs1
 have HS2:=Lib.hid hs2
 have HO2:=Lib.hid ho2
 have HE2:=Lib.hid hE2
 have hxn:es.length=x.E.n:=hE.1
 have HK0:Hid ((([]:List EnR).length+x.E.n)*72≤140737488355328):=by show _≤_;simp;omega
 have HK9:Hid (([]:List EnR).length+x.E.n≤maxLen):=by show _≤_;unfold maxLen;simp;omega
 have HK1:Hid ((es.length+1)*72≤140737488355328):=by show _≤_;omega
 have HK2:Hid (es.length+1≤maxLen):=by show _≤_;unfold maxLen;omega
 have hgv:W2.heap[w.heap.size]? =some (.cells (cVw x) 29 (0,0)):=(hb2.block _ (lt_of_block hga)).trans hga
 have hgw:W2.heap[w.heap.size+1]? =some (.cells zVw 29 (0,0)):=(hb2.block _ (lt_of_block hgz)).trans hgz
 obtain ⟨v0,v1,v2,v3,v4,v5,v6⟩:=cellsV hgv
 have HGV:=Lib.hid hgv
 have HGW:=Lib.hid hgw
 have HSB:Hid (W1.heap.size≤W2.heap.size):=hb2.size
 have HEW:Hid ((w.alloc (.cells (cVw x) 29)).alloc (.cells zVw 29)=W1):=hW1.symm
 have HEV:Hid (W1.alloc (.cells #[] 55)=W2):=hW2.symm
 have hLB:Below w.heap.size w W2:=hb02
 have HLB:=Lib.hid hLB
 clear hE hB hn hb1 hs1 hga hgz hb2 hb02 hs2 ho2 hE2 hi0 hi1 hi2 hi3 hi4 hxn hgv hgw hW1 hW2 hLB
 go_enter Tryz.func33,Tryz.ntmps33
 go_upto_region 1 with fail
 rw [HEW.out]
 go_upto_region 2 with (first
  |((with_reducible refine wpList_lit0 (o:=⟨some 11,_,_,_,_,_⟩) rfl 22 55 rfl i0 Tryz.underlying22 HI0.out ?_);rw [HEV.out])
  |(with_reducible refine wpList_built (o:=⟨some 19,_,_,_,_,_⟩) rfl 55 wiP19 (by kernel_rfl) (fEn ⟨dv,sq,k,0,bd,⟨#[]⟩,bs⟩).toArray (wiB19 _ dv sq k bd rfl rfl rfl rfl bs) ?_)
  |((with_reducible refine wpList_appN (o:=⟨some 14,_,_,_,_,_⟩) (f:=fEn) fEn_len (by omega) rfl (.tmp 11) (.tmp 13) 22 rfl 55 i0 z0 72 Tryz.underlying22 HI0.out HI1.out HI2.out HI3.out HI4.out (.slice (some ⟨W1.heap.size,0,none⟩) 0 0) [] W1.heap.size rfl HO2.out x.E.a x.E.n x.E.c B es rfl HE2.out fEn_one HK0.out HK9.out HSB.out ?_);intro v3 W3 HO3 HG3 HV3;(have HB3:Hid (Below W1.heap.size W1 W3):=OwnN.below HO2.out HB2.out (Nat.le_refl _) HB2.out.size HG3.out))
  |(with_reducible refine wpList_buildSlice1 (o:=⟨some 20,_,_,_,_,_⟩) rfl 22 (.tmp 19) rfl 55 i0 z0 6 Tryz.underlying22 HI0.out HI1.out HI2.out HI4.out (by omega) (by omega) (fEn ⟨dv,sq,k,0,bd,⟨#[]⟩,bs⟩).toArray rfl rfl ?_)
  |((with_reducible refine wpList_appN1 (o:=⟨some 21,_,_,_,_,_⟩) (f:=fEn) fEn_len (by omega) rfl (.tmp 14) (.tmp 20) 22 rfl 55 i0 z0 72 Tryz.underlying22 HI0.out HI1.out HI2.out HI3.out HI4.out v3 es W1.heap.size rfl HO3.out ⟨dv,sq,k,0,bd,⟨#[]⟩,bs⟩ 1 rfl fEn_one HK1.out HK2.out HB3.out.size ?_);intro v4 W4 HO4 HG4 HV4;(have HB4:Hid (Below W1.heap.size W1 W4):=OwnN.below HO3.out HB3.out (Nat.le_refl _) HB3.out.size HG4.out);(obtain ⟨A4,c4,hv4,hc4,hs4,_⟩:=OwnN.shape fEn_len HO4.out);subst hv4;(have HCC:=Lib.hid hc4);clear hc4 hs4;(have hg4:W4.heap[w.heap.size]? =some (.cells (cVw x) 29 (0,0)):=(HB4.out.block _ (by have:=HS1.out;omega)).trans ((HB2.out.block _ (by have:=HS1.out;omega)).symm.trans HGV.out));(have g4f:=frozen_of_row W4 _ 0 _ _ hg4);(obtain ⟨y0,y1,y2,y3,y4,y5,y6⟩:=cellsV hg4))
  |fail)
 have HO4:=HO4
 rw [show (es++[(⟨dv,sq,k,0,bd,⟨#[]⟩,bs⟩:EnR)]).length=es.length+1 by simp] at HO4
 obtain ⟨W5,hW5⟩:∃W5:World,W5=W4.setCell ⟨w.heap.size,0,none⟩ (.slice A4 (es.length+1) c4):=⟨_,rfl⟩
 have HG5:Hid (W5.heap[w.heap.size]? =some (.cells (cVw (x.setE A4 (es.length+1) c4)) 29 (0,0))):=by rw [hW5];exact heap_setCell_same W4 _ 0 _ _ _ hg4
 have hb45:But (fun i=>i=w.heap.size) W4 W5:=by rw [hW5];exact But.setCell (p:=fun i=>i=w.heap.size) (x:=⟨w.heap.size,0,none⟩) (But.refl _ _) (.inl rfl) _
 have HO5:Hid (OwnN fEn 6 55 W5 W1.heap.size (.slice A4 (es.length+1) c4) (es++[⟨dv,sq,k,0,bd,⟨#[]⟩,bs⟩])):=by rw [hW5];exact OwnN.setJ HO4.out (by have:=HS1.out;show w.heap.size < _;omega)
 have HZ5:Hid (W5.heap[w.heap.size+1]? =some (.cells zVw 29 (0,0))):=(hb45.block _ (by have:=HB4.out.size;have:=HS1.out;omega) (by omega)).trans ((HB4.out.block _ (by have:=HS1.out;omega)).trans ((HB2.out.block _ (by have:=HS1.out;omega)).symm.trans HGW.out))
 have HB5:Hid (Below w.heap.size w W5):=(HB1.out.trans (HB4.out.mono HB1.out.size)).trans (hb45.below (Nat.le_trans HB1.out.size HB4.out.size) (fun i hi=>Nat.le_of_eq hi.symm))
 rw [←hW5]
 obtain ⟨n5,hn5⟩:∃n,(es.length+1)=n:=⟨_,rfl⟩
 rw [hn5] at HG5 HO5 ⊢
 clear hW5 hb45 hg4 g4f y0 y1 y2 y3 y4 y5 y6 hn5
 go_wp2_with (first
  |(with_reducible refine wpList_load_row (o:=⟨some 23,_,_,_,_,_⟩) rfl 29 (.tmp 5) rfl w.heap.size rfl 29 (cVw (x.setE A4 n5 c4)) _ _ HG5.out Tryz.underlying29 rfl (sizeVw _) ?_)
  |((with_reducible refine wpList_store_but (o:=⟨none,_,_,_,_,_⟩) rfl 29 (.tmp 10) (.tmp 23) rfl (w.heap.size+1) 29 _ _ rfl rfl HZ5.out (sizeVw _) rfl (cVw_all _) ?_);intro W6 HG6 HB6n))
 refine bodyPost_ret (results_cell_row rfl _ _ _ _ _ _ _ rfl HG6.out Tryz.underlying29 rfl (sizeVw _)) rfl ⟨A4,n5,c4,rfl,?_,HB5.out.trans (HB6n.out.below HB5.out.size (fun i hi=>by subst hi;exact Nat.le_succ _))⟩
 exact World.ownsRow.mono (World.ownsRow.kept HO5.out HB6n.out.grownBy (.inr (fun e=>by have h1:=(World.ownsRow.lt HO5.out _ e).1;have h2:=HS1.out;omega))) HB1.out.size
open Go.RowKit
theorem rN_rt {bs:List Int} {a m p n:Nat} (h:AtL bs p (enc n)) (ha:a≤n) (hm:n≤m) (hn:n < 18446744073709551616):rN a m bs (p,0)=((n:Int),p+(enc n).length,0):=by
 unfold rN
 rw [rU_rt h hn]
 simp only [and_self,if_true]
 rw [if_pos (by omega)]
theorem rY_rt {bs:List Int} {p m:Nat} {xs:List Int} (h:AtL bs p (enc xs.length++xs)) (h0:0 < xs.length) (hm:xs.length≤m) (hm2:m≤1000000):rY bs m (p,0)=(xs,p+(enc xs.length++xs).length,0):=by
 have h1:=lim_rt h.left hm hm2
 have h2:=h.right.fits h0
 have h3:=h.right.cut
 apply rV_go
 unfold blkL
 simp only
 rw [h1]
 simp only [if_true,Int.toNat_natCast]
 unfold tkL
 rw [if_neg (by omega),h3,List.length_append]
 congr 2
 omega
theorem rId_rt {bs:List Int} {p ix:Nat} {s:ByteArray} (h:AtL bs p (sB s++enc ix)) (hs:s.size=32) (hi:ix≤15):rId bs (p,0)=((s,(ix:Int)),p+(sB s++enc ix).length,0):=by
 unfold rId
 rw [rS_rt h.left hs]
 simp only
 rw [rN_rt h.right (Nat.zero_le _) hi (by omega),List.length_append,Nat.add_assoc]
theorem rSums_rt {bs:List Int} {p:Nat} {ys:List ByteArray} (h:AtL bs p (ys.flatMap sB)) (hs:∀s∈ys,s.size=32):∀k,k≤ys.length→rSums bs k (p,0)=(ys.take k,p+32*k,0)
 |0,_=>by simp [rSums]
 |k+1,hk=>by
  have ih:=rSums_rt h hs k (by omega)
  have hk1:ys[k]? =some ys[k]:=List.getElem?_eq_getElem (by omega)
  have hy:=hs _ (List.mem_of_getElem? hk1)
  have hcut:ys.flatMap sB=(ys.take k).flatMap sB++(sB ys[k]++(ys.drop (k+1)).flatMap sB):=by
   rw [←List.append_assoc,←flat_snoc hk1,←List.flatMap_append,List.take_append_drop]
  rw [hcut] at h
  have h1:=h.right.left
  rw [flat_len32 (fun s hs'=>hs s (List.mem_of_mem_take hs')),List.length_take,Nat.min_eq_left (by omega)] at h1
  rw [rSums,ih]
  simp only
  rw [rS_rt h1 hy,take_snoc hk1,sB_len,hy,Nat.mul_succ,Nat.add_assoc]
theorem encA_read {d q ix:Nat} {s:ByteArray} {xs:List Int} {ys:List ByteArray} (hd:d≤11) (hq1:1≤q) (hq:q≤1099511627776) (hs:s.size=32) (hi:ix≤15) (hx1:1≤xs.length) (hx2:xs.length≤65536) (hy1:1≤ys.length) (hy2:ys.length≤16) (hys:∀z∈ys,z.size=32):
 okA (encA d q s ix xs ys)=true∧(dA1 (encA d q s ix xs ys)).1=d∧(dA2 (encA d q s ix xs ys)).1=q∧(dA3 (encA d q s ix xs ys)).1=(s,(ix:Int))∧(dA4 (encA d q s ix xs ys)).1=xs∧(dA6 (encA d q s ix xs ys)).1=ys:=by
 have hlen:(encA d q s ix xs ys).length=(enc d).length+(enc q).length+(sB s++enc ix).length+(enc xs.length++xs).length+(enc ys.length).length+32*ys.length:=by
  unfold encA
  simp only [List.length_append,flat_len32 hys]
  omega
 obtain ⟨bs,hbs⟩:∃bs,bs=encA d q s ix xs ys:=⟨_,rfl⟩
 rw [←hbs] at hlen ⊢
 have h0:AtL bs 0 (enc d++(enc q++((sB s++enc ix)++((enc xs.length++xs)++(enc ys.length++ys.flatMap sB))))):=by
  have:=AtL.self bs
  rw [hbs] at this ⊢
  unfold encA at this ⊢
  simp only [List.append_assoc] at this ⊢
  exact this
 have e1:dA1 bs=((d:Int),0+(enc d).length,0):=rN_rt h0.left (Nat.zero_le _) hd (by omega)
 have e2:dA2 bs=((q:Int),0+(enc d).length+(enc q).length,0):=by unfold dA2;rw [e1];exact rN_rt h0.right.left hq1 hq (by omega)
 have e3:dA3 bs=((s,(ix:Int)),0+(enc d).length+(enc q).length+(sB s++enc ix).length,0):=by unfold dA3;rw [e2];exact rId_rt h0.right.right.left hs hi
 have e4:dA4 bs=(xs,0+(enc d).length+(enc q).length+(sB s++enc ix).length+(enc xs.length++xs).length,0):=by unfold dA4;rw [e3];exact rY_rt h0.right.right.right.left (by omega) hx2 (by decide)
 have e5:dA5 bs=((ys.length:Int),0+(enc d).length+(enc q).length+(sB s++enc ix).length+(enc xs.length++xs).length+(enc ys.length).length,0):=by unfold dA5;rw [e4];exact rC_rt h0.right.right.right.right.left hy2 (by decide)
 have e6:dA6 bs=(ys,0+(enc d).length+(enc q).length+(sB s++enc ix).length+(enc xs.length++xs).length+(enc ys.length).length+32*ys.length,0):=by
  unfold dA6
  rw [e5]
  simp only [Int.toNat_natCast]
  rw [rSums_rt h0.right.right.right.right.right hys _ (Nat.le_refl _),List.take_of_length_le (Nat.le_refl _)]
 refine ⟨?_,by rw [e1],by rw [e2],by rw [e3],by rw [e4],by rw [e6]⟩
 unfold okA
 rw [e3,e4,e6]
 simp only
 rw [Bool.and_eq_true]
 refine ⟨decide_eq_true ⟨trivial,by omega⟩,?_⟩
 unfold shL
 exact decide_eq_true ⟨⟨hs,by omega,by omega⟩,⟨hx1,hx2⟩,⟨hy1,hy2⟩,sumsB_iff.2 hys⟩
def sumB:List EnR→Nat
 | []=>0
 |e::t=>e.bd.n+sumB t
theorem sumB_snoc:∀(es:List EnR) (e:EnR),sumB (es++[e])=sumB es+e.bd.n
 | [],e=>by simp [sumB]
 |a::t,e=>by
  rw [List.cons_append,sumB,sumB_snoc t e,sumB]
  omega
def smB (es:List EnR):Prop:=∀e∈es,e.bd.n≤140737488355328
theorem sumB_le:∀(es:List EnR),smB es→sumB es≤es.length*140737488355328
 | [],_=>by simp [sumB]
 |e::t,h=>by
  have h1:=h e List.mem_cons_self
  have h2:=sumB_le t (fun x hx=>h x (List.mem_cons_of_mem _ hx))
  rw [sumB,List.length_cons,Nat.succ_mul]
  omega
theorem smB_take {es:List EnR} (h:smB es) (k:Nat):smB (es.take k):=fun e he=>h e (List.mem_of_mem_take he)
def FewB (x:Vw) (es:List EnR):Prop:=x.E.n≤12∧x.V.n≤4∧x.P.n≤14∧x.D.n≤10∧x.F.n≤10∧(smB es→sumB es≤30000)
def FewP (x:Vw) (es:List EnR) (w:World) (e:Ending) (w':World):Prop:=∃t:Bool,e= .returned (.bool t)∧(t=true→FewB x es)∧Below w.heap.size w w'
theorem few_any (x:Vw) (es:List EnR) (B:Nat) (w:World) (hE:EnIn w B x.E.a x.E.n es) (hB:B≤w.heap.size) (hEc:x.E.n≤9223372036854775807):
 Calls Tryz.prog 9 #[.agg (cVw x)] w (FewP x es w):=by
 obtain ⟨W1,hW1⟩:∃W1:World,W1=w.alloc (.cells (cVw x) 29):=⟨_,rfl⟩
 have hb1:Below w.heap.size w W1:=by rw [hW1];exact (Below.refl _ _).alloc (Nat.le_refl _) _
 have hge:W1.heap[w.heap.size]? =some (.cells (cVw x) 29 (0,0)):=by rw [hW1];exact heap_alloc_new w _
 obtain ⟨v0,v1,v2,v3,v4,v5,v6⟩:=cellsV hge
 have HX:Hid (EnIn W1 B x.E.a x.E.n es):=hE.up hb1 hB
 have HEL:Hid (es.length=x.E.n):=hE.1.1
 have HB1:=Lib.hid hb1
 have HWE:=Lib.hid hW1
 have HS0:Hid (smB es→(0:Int)=(sumB (es.take 0):Int)):=fun _=>by simp [sumB]
 clear hE hB hb1 hge hW1
 go_enter Tryz.func9,Tryz.ntmps9
 go_upto_region 1 with fail
 rw [←HWE.out]
 go_upto_region 3 with fail
 go_loopw [3,4] (fun u i wr=>(∃(k:Nat) (s:Int),k≤x.E.n∧k≤20∧i= .int .i64 k∧u= .int .i64 s∧Hid (smB es→s=(sumB (es.take k):Int)))∧W1=wr) (fun _ i _=>20 - (intOf i).toNat)
 case atStart=>exact ⟨⟨0,0,by omega,by omega,rfl,rfl,HS0⟩,rfl⟩
 case round=>
  clear HS0
  obtain ⟨⟨k,s,hk,hk20,rfl,rfl,HSM⟩,rfl⟩:=hrel
  by_cases hlt:k < x.E.n
  ·by_cases h20:k < 20
   ·have hkI:(k:Int) < (x.E.n:Int):=by omega
    have hkI2:(k:Int) < 20:=by omega
    have hk0:(0:Int)≤(k:Int):=by omega
    obtain ⟨be,oe,e,hAe,_,hge,hce⟩:=HX.out.1.at_ (k:=k) hlt
    have k4:=hce 4 _ rfl
    rw [←Nat.add_assoc] at k4
    rw [hAe] at v0
    have HS2:Hid (smB es→wrap64 (s+(e.bd.n:Int))=(sumB (es.take (k+1)):Int)):=fun hs=>by
     have h1:=HSM.out hs
     have h2:=sumB_le (es.take (k+1)) (smB_take hs _)
     have h3:(es.take (k+1)).length≤20:=by rw [List.length_take];omega
     have h4:sumB (es.take (k+1))=sumB (es.take k)+e.bd.n:=by rw [take_snoc hge,sumB_snoc]
     have h5:(es.take (k+1)).length*140737488355328≤20*140737488355328:=Nat.mul_le_mul_right _ h3
     rw [h1,h4]
     rw [IntWalk.wrap64_in _ (by omega)]
     simp
    clear hce hge
    go_wp2
    refine ⟨?rel,?measure⟩
    case rel=>exact ⟨⟨k+1,_,by omega,by omega,by go_num,rfl,HS2⟩,by first |rfl |trivial⟩
    case measure=>(simp [intOf]<;>omega)
   ·
    obtain rfl:k=20:=by omega
    have hkI:((20:Nat):Int) < (x.E.n:Int):=by omega
    have hkI3:(20:Int) < (x.E.n:Int):=by omega
    have h12:¬(x.E.n:Int)≤12:=by omega
    go_wp2
    go_ret
    exact ⟨false,rfl,(fun h=>by cases h),HB1.out⟩
  ·obtain rfl:x.E.n=k:=by omega
   have HSF:Hid (smB es→s=(sumB es:Int)):=fun hs=>by rw [HSM.out hs,List.take_of_length_le (by rw [HEL.out];exact Nat.le_refl _)]
   have hkI:¬(x.E.n:Int) < (x.E.n:Int):=by omega
   clear HSM
   by_cases h1:(x.E.n:Int)≤12
   ·by_cases h2:s≤30000
    ·by_cases h3:(x.V.n:Int)≤4
     ·by_cases h4:(x.P.n:Int)≤14
      ·by_cases h5:(x.D.n:Int)≤10
       ·by_cases h6:(x.F.n:Int)≤10
        ·have HFB:Hid (FewB x es):=⟨by omega,by omega,by omega,by omega,by omega,fun hs=>by have:=HSF.out hs;omega⟩
         go_wp2
         go_ret
         exact ⟨true,rfl,fun _=>HFB.out,HB1.out⟩
        ·go_wp2
         go_ret
         exact ⟨false,rfl,(fun h=>by cases h),HB1.out⟩
       ·go_wp2
        go_ret
        exact ⟨false,rfl,(fun h=>by cases h),HB1.out⟩
      ·go_wp2
       go_ret
       exact ⟨false,rfl,(fun h=>by cases h),HB1.out⟩
     ·go_wp2
      go_ret
      exact ⟨false,rfl,(fun h=>by cases h),HB1.out⟩
    ·go_wp2
     go_ret
     exact ⟨false,rfl,(fun h=>by cases h),HB1.out⟩
   ·go_wp2
    go_ret
    exact ⟨false,rfl,(fun h=>by cases h),HB1.out⟩
theorem mem_sumB {es:List EnR} {e:EnR} (h:e∈es):e.bd.n≤sumB es:=by
 induction es with
 |nil=>cases h
 |cons a t ih=>
  rw [sumB]
  rcases List.mem_cons.1 h with rfl |h
  ·omega
  ·have:=ih h;omega
theorem hdL_len (S:Int→Bool):(hdL S).length≤12:=by
 have:=List.length_filter_le S ((List.range 12).map Int.ofNat)
 simpa [hdL] using this
theorem opnV_len (x:Vw) (es:List EnR) (vs:List VtR) (pubs drs:List ByteArray):(opnV x es vs pubs drs).length≤es.length:=by
 unfold opnV
 rw [List.length_map]
 exact Nat.le_trans (cgL_len _ _) (frE_length es)
