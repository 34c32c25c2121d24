/- Slice literals at a step of a region that draws its order. kinkeeplaw45.with: a further entry. Plainly: what a further acquittal and a further dropped stripe leave open. Plainly: what further acquittals of a device leave open of the accusations against it. EncodeAcquittal for any accusation. The reference: Same of receipts, of accusations, at equal ones. Equal accusations are the same; those with other numbers are not. The reference's Counts. Small views; a view as the reference's. The law of acquittals and dropped stripes, walked. What the law of honest devices needs, plainly: an acquittal's entry read; entries behind a variable. The law of what counts, walked. A view opened, with its weights: no body is greater than any machine can hold. The arguments opened: bytes, and a byte. -/
import Derived.Test.YtpdledjgbgalcaaGreatDoorPt
import Derived.Test.YtpdledjgbgalcaaGreatDoorPw
import Derived.Test.YtpdledjgbgalcaaGreatDoorPv
import Derived.Test.YtpdledjgbgalcaaGreatDoorS4
import Derived.Test.YtpdledjgbgalcaaGreatDoorNP
import Derived.Test.YtpdledjgbgalcaaGreatDoorPp
import Derived.Test.YtpdledjgbgalcaaGreatDoorPn
import Derived.Test.YtpdledjgbgalcaaGreatDoorZf
import Derived.Test.YtpdledjgbgalcaaGreatDoorPo
import Derived.SizedLaws
namespace Go.Proofs.YtpdledjgbgalcaaGreatDoor
set_option maxRecDepth 100000
set_option maxHeartbeats 8000000
open Go.RowKit Go.Lib
set_option linter.unusedVariables false
set_option linter.unusedSimpArgs false
theorem run_buildSlice0 {P:Program} {t e:TypeId} {i:TypeInfo} (ht:P.underlying t=some (.slice e)) (hi:P.info? e=some i) (w:World):
 (Instr.buildSlice t 0 #[]).run P w= .ok (.slice (some ⟨w.heap.size,0,none⟩) 0 0) (w.alloc (.cells #[] e)):=by
 have h0:Array.range 0=#[]:=by simp
 simp [Instr.buildSlice,run_underlying ht,sizeOf,typeInfo,hi,Instr.fill,newRow,h0]
theorem SlN.oneK {α:Type} {f:α→List Value} {s:Nat} {w:World} {g:Nat} {t:TypeId} {y:α} (h:w.heap[g]? =some (.cells (f y).toArray t (0,0))):SlN f s w (g+1) (some ⟨g,0,none⟩) 1 [y]:=SlN.oneJ h (Nat.lt_succ_self _)
theorem Tryz.infoEn:(Tryz.prog.info? 55).map (fun i=>(i.zero.map (·.cells.size),i.size,i.bytes))=some (some 6,6,72):=by kernel_rfl
theorem wpList_lit0 {P:Program} {w:World} {ops:Array Oper} {rest:List Oper} {o:Oper} {a:Act} {Q:Exit→Act→World→Prop} (hgd:o.guard=none) (t e:TypeId) (ho:o.op= .buildSlice t 0 #[]) (i:TypeInfo) (ht:P.underlying t=some (.slice e)) (hi:P.info? e=some i)
 (h:wpList P ops Q rest (a.put o.dst (.slice (some ⟨w.heap.size,0,none⟩) 0 0)) (w.alloc (.cells #[] e))):wpList P ops Q (o::rest) a w:=by
 refine wpList_plain hgd fun K hK=>?_
 have hrun:=run_buildSlice0 (P:=P) ht hi w;unfold Oper.wp;simp [execOp,ho,hrun,Result.andThen];exact hK _ _ h
def wiP19:Array (Nat × Operand):=#[(0,.tmp 15),(1,.tmp 16),(2,.tmp 17),(4,.tmp 18)]
theorem wiB19 (a:Act) (dv sq k:Int) (bd:Hd) (h0:a.eval (.tmp 15)= .int .i64 dv) (h1:a.eval (.tmp 16)= .int .i64 sq) (h2:a.eval (.tmp 17)= .int .i64 k) (h3:a.eval (.tmp 18)= .slice bd.a bd.n bd.c) (bs:List Int):Tryz.prog.built 55 (wiP19.map fun (i,x)=>(i,a.eval x)).toList=some (fEn ⟨dv,sq,k,0,bd,⟨#[]⟩,bs⟩).toArray:=by
 rw [Array.toList_map]
 show Tryz.prog.built 55 [(0,a.eval (.tmp 15)),(1,a.eval (.tmp 16)),(2,a.eval (.tmp 17)),(4,a.eval (.tmp 18))]=_
 rw [h0,h1,h2,h3]
 kernel_rfl
abbrev zVw:Array Value:=#[.slice none 0 0,.slice none 0 0,.slice none 0 0,.int .i64 0,.int .i64 0,.slice none 0 0,.slice none 0 0]
theorem ycz (x:Vw):(Tryz.prog.info? 29).map (·.size)=some (cVw x).size:=by kernel_rfl
theorem cVw_all (x:Vw):(cVw x).all (·.oneCell')=true:=by kernel_rfl
abbrev Vw.setE (x:Vw) (A:Option Addr) (n c:Nat):Vw:=⟨⟨A,n,c⟩,x.V,x.P,x.b,x.h,x.D,x.F⟩
theorem with_any (x:Vw) (es:List EnR) (dv sq k:Int) (bd:Hd) (bs:List Int) (B:Nat) (w:World) (hE:SlN fEn 6 w B x.E.a x.E.n es) (hB:B≤w.heap.size) (hn:es.length≤1000):
 Calls Tryz.prog 33 #[.agg (cVw x),.int .i64 dv,.int .i64 sq,.int .i64 k,.slice bd.a bd.n bd.c] w fun e w'=>∃A n c,e= .returned (.agg (cVw (x.setE A n c)))∧OwnN fEn 6 55 w' w.heap.size (.slice A n c) (es++[⟨dv,sq,k,0,bd,⟨#[]⟩,bs⟩])∧Below w.heap.size w w':=by
 obtain ⟨W1,hW1⟩:∃W1:World,W1=(w.alloc (.cells (cVw x) 29)).alloc (.cells zVw 29):=⟨_,rfl⟩
 have hb1:Below w.heap.size w W1:=by rw [hW1];exact bl.alloc sI _
 have hs1:W1.heap.size=w.heap.size+2:=by rw [hW1];simp
 have hga:W1.heap[w.heap.size]? =some (.cells (cVw x) 29 (0,0)):=by rw [hW1];exact (Below.heap_alloc _ _ _ sI).trans (heap_alloc_new w _)
 have hgz:W1.heap[w.heap.size+1]? =some (.cells zVw 29 (0,0)):=by rw [hW1];have:=heap_alloc_new (w.alloc (.cells (cVw x) 29)) (.cells zVw 29);simpa using this
 obtain ⟨W2,hW2⟩:∃W2:World,W2=W1.alloc (.cells #[] 55):=⟨_,rfl⟩
 have hb2:Below W1.heap.size W1 W2:=by rw [hW2];exact bl
 have hb02:Below w.heap.size w W2:=hb1.trans (hb2.mono hb1.size);have hs2:W2.heap.size=W1.heap.size+1:=by rw [hW2];simp
 have ho2:OwnN fEn 6 55 W2 W1.heap.size (.slice (some ⟨W1.heap.size,0,none⟩) 0 0) []:=by rw [hW2];exact World.ownsRow_made W1 #[] 0 nl (Nat.zero_le _) sI
 have hE2:=hE.up hb02 hB;obtain ⟨i0,z0,hi0,hi1,hi2,hi3,hi4⟩:=ybt Tryz.infoEn;have HI0:=lh hi0;have HI1:=lh hi1;have HI2:=lh hi2;have HI3:=lh hi3;have HI4:=lh hi4;have HB1:=lh hb1;have HB2:=lh hb2;have HW1:=lh hW1;have HW2:=lh hW2;have HS1:=lh hs1;have HS2:=lh hs2;have HO2:=lh ho2;have HE2:=lh hE2;have hxn:es.length=x.E.n:=hE.1;have HK0:Hid ((([]:List EnR).length+x.E.n)*72≤140737488355328):=by show _≤_;simp;omega
 have HK9:Hid (([]:List EnR).length+x.E.n≤maxLen):=by show _≤_;unfold maxLen;simp;omega
 have HK1:Hid ((es.length+1)*72≤140737488355328):=by show _≤_;omega
 have HK2:Hid (es.length+1≤maxLen):=by show _≤_;unfold maxLen;omega
 have hgv:W2.heap[w.heap.size]? =some (.cells (cVw x) 29 (0,0)):=(hb2.block _ (lt_of_block hga)).trans hga;have hgw:W2.heap[w.heap.size+1]? =some (.cells zVw 29 (0,0)):=(hb2.block _ (lt_of_block hgz)).trans hgz;obtain ⟨v0,v1,v2,v3,v4,v5,v6⟩:=ybE hgv;have HGV:=lh hgv;have HGW:=lh hgw;have HSB:Hid (W1.heap.size≤W2.heap.size):=hb2.size;have HEW:Hid ((w.alloc (.cells (cVw x) 29)).alloc (.cells zVw 29)=W1):=hW1.symm;have HEV:Hid (W1.alloc (.cells #[] 55)=W2):=hW2.symm;have hLB:Below w.heap.size w W2:=hb02;have HLB:=lh hLB;clear hE hB hn hb1 hs1 hga hgz hb2 hb02 hs2 ho2 hE2 hi0 hi1 hi2 hi3 hi4 hxn hgv hgw hW1 hW2 hLB;go_enter Tryz.func33,Tryz.ntmps33
 go_upto_region 1 with fail
 rw [HEW.out]
 go_upto_region 2 with (first
  |((with_reducible refine wpList_lit0 (o:=⟨some 11,_,_,_,_,_⟩) rfl 22 55 rfl i0 Tryz.underlying22 HI0.out ?_);rw [HEV.out])
  |(with_reducible refine ya6 (o:=⟨some 19,_,_,_,_,_⟩) rfl 55 wiP19 yaV (fEn ⟨dv,sq,k,0,bd,⟨#[]⟩,bs⟩).toArray (wiB19 _ dv sq k bd rfl rfl rfl rfl bs) ?_)
  |((with_reducible refine wpList_appN (o:=⟨some 14,_,_,_,_,_⟩) (f:=fEn) yb6 om rfl (.tmp 11) (.tmp 13) 22 rfl 55 i0 z0 72 Tryz.underlying22 HI0.out HI1.out HI2.out HI3.out HI4.out (.slice (some ⟨W1.heap.size,0,none⟩) 0 0) [] W1.heap.size rfl HO2.out x.E.a x.E.n x.E.c B es rfl HE2.out ydl HK0.out HK9.out HSB.out ?_);intro v3 W3 HO3 HG3 HV3;(have HB3:Hid (Below W1.heap.size W1 W3):=OwnN.below HO2.out HB2.out nl HB2.out.size HG3.out))
  |(with_reducible refine ybf (o:=⟨some 20,_,_,_,_,_⟩) rfl 22 (.tmp 19) rfl 55 i0 z0 6 Tryz.underlying22 HI0.out HI1.out HI2.out HI4.out om om (fEn ⟨dv,sq,k,0,bd,⟨#[]⟩,bs⟩).toArray rfl rfl ?_)
  |((with_reducible refine ybP (o:=⟨some 21,_,_,_,_,_⟩) (f:=fEn) yb6 om rfl (.tmp 14) (.tmp 20) 22 rfl 55 i0 z0 72 Tryz.underlying22 HI0.out HI1.out HI2.out HI3.out HI4.out v3 es W1.heap.size rfl HO3.out ⟨dv,sq,k,0,bd,⟨#[]⟩,bs⟩ 1 rfl ydl HK1.out HK2.out HB3.out.size ?_);intro v4 W4 HO4 HG4 HV4;(have HB4:Hid (Below W1.heap.size W1 W4):=OwnN.below HO3.out HB3.out nl HB3.out.size HG4.out);(obtain ⟨A4,c4,hv4,hc4,hs4,_⟩:=OwnN.shape yb6 HO4.out);subst hv4;(have HCC:=lh hc4);clear hc4 hs4;(have hg4:W4.heap[w.heap.size]? =some (.cells (cVw x) 29 (0,0)):=(HB4.out.block _ yaU).trans ((HB2.out.block _ yaU).symm.trans HGV.out));(have g4f:=frozen_of_row W4 _ 0 _ _ hg4);(obtain ⟨y0,y1,y2,y3,y4,y5,y6⟩:=ybE hg4))
  |fail)
 have HO4:=HO4;rw [show (es++[(⟨dv,sq,k,0,bd,⟨#[]⟩,bs⟩:EnR)]).length=es.length+1 by simp] at HO4;obtain ⟨W5,hW5⟩:∃W5:World,W5=W4.setCell ⟨w.heap.size,0,none⟩ (.slice A4 (es.length+1) c4):=⟨_,rfl⟩
 have HG5:Hid (W5.heap[w.heap.size]? =some (.cells (cVw (x.setE A4 (es.length+1) c4)) 29 (0,0))):=by rw [hW5];exact heap_setCell_same W4 _ 0 _ _ _ hg4
 have hb45:But (fun i=>i=w.heap.size) W4 W5:=by rw [hW5];exact But.setCell (p:=fun i=>i=w.heap.size) (x:=⟨w.heap.size,0,none⟩) (But.refl _ _) (.inl rfl) _
 have HO5:Hid (OwnN fEn 6 55 W5 W1.heap.size (.slice A4 (es.length+1) c4) (es++[⟨dv,sq,k,0,bd,⟨#[]⟩,bs⟩])):=by rw [hW5];exact OwnN.setJ HO4.out (by have:=HS1.out;show w.heap.size < _;omega)
 have HZ5:Hid (W5.heap[w.heap.size+1]? =some (.cells zVw 29 (0,0))):=(hb45.block _ (by have:=HB4.out.size;have:=HS1.out;omega) om).trans ((HB4.out.block _ yaU).trans ((HB2.out.block _ yaU).symm.trans HGW.out));have HB5:Hid (Below w.heap.size w W5):=(HB1.out.trans (HB4.out.mono HB1.out.size)).trans (hb45.below (Nat.le_trans HB1.out.size HB4.out.size) (fun i hi=>Nat.le_of_eq hi.symm));rw [←hW5];obtain ⟨n5,hn5⟩:∃n,(es.length+1)=n:=⟨_,rfl⟩
 rw [hn5] at HG5 HO5 ⊢;clear hW5 hb45 hg4 g4f y0 y1 y2 y3 y4 y5 y6 hn5
 go_wp2_with (first
  |(with_reducible refine wpList_load_row (o:=⟨some 23,_,_,_,_,_⟩) rfl 29 (.tmp 5) rfl w.heap.size rfl 29 (cVw (x.setE A4 n5 c4)) _ _ HG5.out Tryz.underlying29 rfl (ycz _) ?_)
  |((with_reducible refine yaZ (o:=⟨none,_,_,_,_,_⟩) rfl 29 (.tmp 10) (.tmp 23) rfl (w.heap.size+1) 29 _ _ rfl rfl HZ5.out (ycz _) rfl (cVw_all _) ?_);intro W6 HG6 HB6n))
 refine bodyPost_ret (results_cell_row rfl _ _ _ _ _ _ _ rfl HG6.out Tryz.underlying29 rfl (ycz _)) rfl ⟨A4,n5,c4,rfl,?_,HB5.out.trans (HB6n.out.below HB5.out.size (fun i hi=>by subst hi;exact Nat.le_succ _))⟩;exact World.ownsRow.mono (World.ownsRow.kept HO5.out HB6n.out.grownBy (.inr (fun e=>by have h1:=(World.ownsRow.lt HO5.out _ e).1;have h2:=HS1.out;omega))) HB1.out.size
def UnE (l:List EnR):Prop:=l.Pairwise fun a b=>¬(a.dv=b.dv∧a.sq=b.sq)
theorem hasE_false {l:List EnR} {d q:Int} (h:hasE l d q=false):∀e∈l,¬(e.dv=d∧e.sq=q):=fun e he g=>by
 have h1:hasE l d q=true:=List.any_eq_true.2 ⟨e,he,by simp [g.1,g.2]⟩;rw [h] at h1
 cases h1
theorem UnE.put {l:List EnR} {e:EnR} (h:UnE l):UnE (putE l e):=by
 cases hs:hasE l e.dv e.sq with
 |true=>rw [putE_yes hs];exact h
 |false=>
  rw [putE_no hs]
  exact List.pairwise_append.2 ⟨h,List.pairwise_singleton _ _,fun a ha b hb=>by
   obtain rfl:b=e:=by simpa using hb
   exact hasE_false hs a ha⟩
section
variable (x y:Vw) (es:List EnR) (vs:List VtR) (pubs drs:List ByteArray) (d:ByteArray) (e:EnR)
end
def aqP (a:Ac) (p:PcX):Bool:=aqB a.R p.st p.ix p.xs p.ys
def AqFor (dev:Int) (j:Nat) (a:Ac) (e:EnR):Prop:=(e.k=7∧e.dv=dev∧e.sq=1000+j)∧((aqX e).er=0∧(aqX e).d=a.d∧(aqX e).q=a.q)∧aqP a (aqX e).x=true
def AqM (dev:Int):Nat→List Ac→List (Option EnR)→Prop
 |_,[],[]=>True
 |j,a::al,o::ms=>(∀e,o=some e→AqFor dev j a e)∧AqM dev (j+1) al ms
 |_,_,_=>False
def acqs (ms:List (Option EnR)):List EnR:=ms.filterMap id
theorem AqM.len {dev:Int}:∀ {j:Nat} {al:List Ac} {ms:List (Option EnR)},AqM dev j al ms→ms.length=al.length
 |_,[],[],_=>rfl
 |_,a::al,o::ms,h=>by rw [List.length_cons,List.length_cons,AqM.len h.2]
 |_,[],o::ms,h=>h.elim
 |_,a::al,[],h=>h.elim
theorem AqM.snoc {dev:Int}:∀ {j:Nat} {al:List Ac} {ms:List (Option EnR)} {a:Ac} {o:Option EnR},AqM dev j al ms→(∀e,o=some e→AqFor dev (j+al.length) a e)→AqM dev j (al++[a]) (ms++[o])
 |j,[],[],a,o,_,h=>⟨h,trivial⟩
 |j,b::al,p::ms,a,o,h,g=>⟨h.1,AqM.snoc h.2 (by rw [List.length_cons] at g;rwa [show j+1+al.length=j+(al.length+1) by omega])⟩
 |_,[],o::ms,_,_,h,_=>h.elim
 |_,a::al,[],_,_,h,_=>h.elim
theorem acqs_snoc (ms:List (Option EnR)) (o:Option EnR):acqs (ms++[o])=acqs ms++o.toList:=by
 unfold acqs;rw [List.filterMap_append]
 cases o<;>rfl
theorem frE_app {es l:List EnR} (hu:UnE l) (hn:∀e∈l,∀b∈es,¬(b.dv=e.dv∧b.sq=e.sq)):frE (es++l)=frE es++l:=by
 have key:∀(l acc:List EnR),UnE l→(∀e∈l,∀b∈acc,¬(b.dv=e.dv∧b.sq=e.sq))→l.foldl putE acc=acc++l:=by
  intro l
  induction l with
  |nil=>intro acc _ _;simp
  |cons e t ih=>
   intro acc hu hn;obtain ⟨h1,h2⟩:=List.pairwise_cons.1 hu
   have h3:hasE acc e.dv e.sq=false:=by
    cases h4:hasE acc e.dv e.sq with
    |false=>rfl
    |true=>
     obtain ⟨b,hb,h5⟩:=List.any_eq_true.1 h4;simp at h5;exact absurd h5 (hn e List.mem_cons_self b hb)
   rw [List.foldl_cons,putE_no h3,ih _ h2 (fun e' he' b hb=>?_),List.append_assoc,List.singleton_append];rcases List.mem_append.1 hb with hb |hb
   ·exact hn e' (List.mem_cons_of_mem _ he') b hb
   ·obtain rfl:b=e:=by simpa using hb
    exact h1 e' he'
 unfold frE;rw [List.foldl_append];exact key l _ hu (fun e he b hb=>hn e he b (ydm hb))
abbrev PcR.pc (p:PcR):Pc:=⟨p.x.st,p.x.ix,p.d,p.q⟩
def PsIn (w:World) (B:Nat) (A:Option Addr) (n:Nat) (prs:List PcR):Prop:=SlN fPc 4 w B A n prs∧∀p∈prs,PcIn w B p.pc p.x.xs p.x.ys∧Byt p.x.xs
theorem PsIn.up {w w':World} {B B' n:Nat} {A:Option Addr} {prs:List PcR} (h:PsIn w B A n prs) (hb:Below B' w w') (hB:B≤B'):PsIn w' B A n prs:=⟨h.1.up hb hB,fun p hp=>⟨(h.2 p hp).1.up hb hB,(h.2 p hp).2⟩⟩
theorem aqB_facts {R:Rcp} {s:ByteArray} {ix:Int} {xs:List Int} {ys:List ByteArray} (h:aqB R s ix xs ys=true):s.size=32∧(1≤ys.length∧ys.length≤16)∧(∀y∈ys,y.size=32)∧(0≤ix∧ix≤15)∧(1≤xs.length∧xs.length≤65536):=by
 unfold aqB vrB at h;simp only [Bool.and_eq_true,decide_eq_true_eq] at h;obtain ⟨_,_,_,⟨h1,h2⟩,h3,⟨h4,h5⟩,_⟩:=h;exact ⟨h1,h2,ydM.1 h3,⟨h4.1,by omega⟩,h5⟩
theorem numB_nat {d q:Int} (h:numB d q=true):(d.toNat:Int)=d∧(q.toNat:Int)=q∧d.toNat≤11∧1≤q.toNat∧q.toNat≤1099511627776:=by
 unfold numB at h
 have:=of_decide_eq_true h
 omega
theorem aqX_enc {dv sq dy d q ix:Int} {bd:Hd} {pr s:ByteArray} {R:Rcp} {xs:List Int} {ys:List ByteArray} (hn:numB d q=true) (h:aqB R s ix xs ys=true):
 aqX ⟨dv,sq,7,dy,bd,pr,encA d.toNat q.toNat s ix.toNat xs ys⟩=⟨0,d,q,⟨s,ix,xs,ys⟩⟩:=by
 obtain ⟨h1,h2,h3,h4,h5⟩:=aqB_facts h;obtain ⟨n1,n2,n3,n4,n5⟩:=numB_nat hn;obtain ⟨g0,g1,g2,g3,g4,g5⟩:=encA_read (d:=d.toNat) (q:=q.toNat) (ix:=ix.toNat) n3 n4 n5 h1 om h5.1 h5.2 h2.1 h2.2 h3;unfold aqX aqF;rw [if_pos rfl];dsimp only;rw [if_pos g0,g1,g2,g3,g4,g5,n1,n2]
 have:(ix.toNat:Int)=ix:=by omega
 rw [this]
theorem encA_byt {d q ix:Nat} {s:ByteArray} {xs:List Int} {ys:List ByteArray} (hx:Byt xs):Byt (encA d q s ix xs ys):=by
 unfold encA;refine Byt.app (ya7 _) (Byt.app (ya7 _) (Byt.app (ybr _) (Byt.app (ya7 _) (Byt.app (ya7 _) (Byt.app hx (Byt.app (ya7 _) ?_))))));intro b hb;obtain ⟨x,_,h⟩:=List.mem_flatMap.1 hb;exact ybr x b h
theorem encA_len {d q ix:Nat} {s:ByteArray} {xs:List Int} {ys:List ByteArray} (hs:s.size=32) (hx:xs.length≤65536) (hy:ys.length≤16) (hys:∀y∈ys,y.size=32):(encA d q s ix xs ys).length≤1000000:=by
 unfold encA;simp only [List.length_append,yby hys,ya9];have h1:=ya1 d;have h2:=ya1 q;have h3:=ya1 ix;have h4:=ya1 xs.length;have h5:=ya1 ys.length;omega
def EnB (g:Nat) (w:World) (A:Option Addr) (n:Nat) (es:List EnR):Prop:=∀V,But (fun i=>i=g) w V→EnIn V V.heap.size A n es
theorem EnB.but {g n:Nat} {w w':World} {A:Option Addr} {es:List EnR} (h:EnB g w A n es) (hb:But (fun i=>i=g) w w'):EnB g w' A n es:=fun V hv=>h V (hb.trans hv fun i hi=> .inl hi)
theorem EnB.on {g n:Nat} {w w':World} {A:Option Addr} {es:List EnR} (h:EnB g w A n es) (hb:Below w.heap.size w w'):EnB g w' A n es:=h.but (But.of_below hb)
theorem EnB.new {g n B:Nat} {w:World} {A:Option Addr} {es:List EnR} (h:EnIn w B A n es) (hg:B≤g) (hB:B≤w.heap.size):EnB g w A n es:=fun V hv=>by
 have hb:Below B w V:=hv.below hB fun i hi=>by omega
 have h1:=h.up hb nl;have h2:B≤V.heap.size:=Nat.le_trans hB hb.size;exact ⟨h1.1.more h2,fun e he=>⟨(h1.2 e he).1.more' h2,(h1.2 e he).2⟩⟩
theorem Sl.offV {w V:World} {A:Option Addr} {n g:Nat} {xs:List Int} {x:Vw} {t:TypeId} (h:Sl fB w w.heap.size A n xs) (hg:w.heap[g]? =some (.cells (cVw x) t (0,0))) (hb:But (fun i=>i=g) w V):Sl fB V V.heap.size A n xs:=⟨h.1,fun hn=>by
 obtain ⟨b,off,e,hlt,hc⟩:=h.2 hn
 have hne:b≠g:=by
  rintro rfl;obtain ⟨z,zs,rfl⟩:∃z zs,xs=z::zs:=by cases xs with |nil=>simp at hn |cons z zs=>exact ⟨z,zs,rfl⟩
  have h1:=hc 0 z rfl;rw [cell_of_row w b (off+0) _ _ _ hg] at h1
  match off,h1 with
  |0,h=>simp at h
  |1,h=>simp at h
  |2,h=>simp at h
  |3,h=>simp at h
  |4,h=>simp at h
  |5,h=>simp at h
  |6,h=>simp at h
  |k+7,h=>simp at h
 exact ⟨b,off,e,Nat.lt_of_lt_of_le hlt hb.size,fun i z hz=>(World.cell?_of_block (hb.block b hlt hne)).trans (hc i z hz)⟩⟩
theorem EnB.snoc {g n c base:Nat} {w w1 w2 w3:World} {A0 A:Option Addr} {n0:Nat} {es:List EnR} {e:EnR} (h:EnB g w A0 n0 es) (h1:Below w.heap.size w w1) (hfr:∀V,But (fun i=>i=g) w1 V→Sl fB V V.heap.size e.bd.a e.bd.n e.bs) (hok:Byt e.bs∧e.bd.n≤e.bd.c∧int64 e.dv∧int64 e.sq)
 (h2:Below w1.heap.size w1 w2) (ho:OwnN fEn 6 55 w2 base (.slice A n c) (es++[e])) (hg:g < base) (h3:But (fun i=>i=g) w2 w3):EnB g w3 A n (es++[e]):=fun V hv=>by
 have hbV:But (fun i=>i=g) w2 V:=h3.trans hv fun i hi=> .inl hi
 have ho':OwnN fEn 6 55 V base (.slice A n c) (es++[e]):=World.ownsRow.kept ho hbV.grownBy (.inr fun e=>by have:=(World.ownsRow.lt ho _ e).1;omega);obtain ⟨A',c',hv',_,hs,_⟩:=OwnN.shape yb6 ho';injection hv' with e1 e2 e3;subst e1 e2;refine ⟨hs,fun x hx=>?_⟩;have hb1:But (fun i=>i=g) w1 V:=(But.of_below (p:=fun i=>i=g) h2).trans hbV fun i hi=> .inl hi
 rcases List.mem_append.1 hx with hx |hx
 ·exact (h V ((But.of_below (p:=fun i=>i=g) h1).trans hb1 fun i hi=> .inl hi)).2 x hx
 ·obtain rfl:x=e:=by simpa using hx
  exact ⟨hfr V hb1,hok.1,hok.2.1,trivial,hok.2.2.1,hok.2.2.2⟩
def Hon (g:Nat) (t:TypeId) (x:Vw) (es:List EnR) (al:List Ac) (dev:Int) (w:World) (k j:Nat):Prop:=
 ∃ms A n c,AqM dev 0 (al.take k) ms∧(acqs ms).length=j∧n≤c∧(∀e∈acqs ms,e.bd.n≤1000000)∧EnB g w A n (es++acqs ms)∧w.heap[g]? =some (.cells (cVw (x.setE A n c)) t (0,0))
theorem Hon.start {g:Nat} {t:TypeId} {x:Vw} {es:List EnR} {al:List Ac} {dev:Int} {w:World} (h:EnB g w x.E.a x.E.n es) (hc:x.E.n≤x.E.c) (hg:w.heap[g]? =some (.cells (cVw x) t (0,0))):Hon g t x es al dev w 0 0:=
 ⟨[],x.E.a,x.E.n,x.E.c,trivial,rfl,hc,(fun e he=>by cases he),(by rw [show es++acqs []=es from List.append_nil es];exact h),hg⟩
theorem Hon.on {g:Nat} {t:TypeId} {x:Vw} {es:List EnR} {al:List Ac} {dev:Int} {w w':World} {k j:Nat} (h:Hon g t x es al dev w k j) (hb:Below w.heap.size w w'):Hon g t x es al dev w' k j:=by
 obtain ⟨ms,A,n,c,h1,h2,h3,h4,h5,h6⟩:=h;exact ⟨ms,A,n,c,h1,h2,h3,h4,h5.on hb,(hb.block _ (lt_of_block h6)).trans h6⟩
theorem take_at {al:List Ac} {k:Nat} {a:Ac} (hk:al[k]? =some a):al.take (k+1)=al.take k++[a]∧(al.take k).length=k:=by
 have h1:=(List.getElem?_eq_some_iff.1 hk).1;refine ⟨by rw [List.take_add_one,hk];rfl,?_⟩;rw [List.length_take];omega
theorem Hon.skip {g:Nat} {t:TypeId} {x:Vw} {es:List EnR} {al:List Ac} {dev:Int} {w w':World} {k j:Nat} {a:Ac} (h:Hon g t x es al dev w k j) (hk:al[k]? =some a) (hb:Below w.heap.size w w'):Hon g t x es al dev w' (k+1) j:=by
 obtain ⟨ms,A,n,c,h1,h2,h3,h4,h5,h6⟩:=h.on hb;obtain ⟨k1,k2⟩:=take_at hk;have e1:acqs (ms++[none])=acqs ms:=by rw [acqs_snoc];exact List.append_nil _
 exact ⟨ms++[none],A,n,c,(by rw [k1];exact AqM.snoc h1 (fun e he=>by cases he)),(by rw [e1];exact h2),h3,(by rw [e1];exact h4),(by rw [e1];exact h5),h6⟩
theorem Hon.more {g:Nat} {t:TypeId} {x:Vw} {es:List EnR} {al:List Ac} {dev:Int} {w0 w1 w2 w3:World} {k j base n n' c':Nat} {A A':Option Addr} {a:Ac} {e:EnR} {ms:List (Option EnR)} (h1:AqM dev 0 (al.take k) ms) (h2:(acqs ms).length=j) (h4:∀e∈acqs ms,e.bd.n≤1000000) (h5:EnB g w0 A n (es++acqs ms)) (hk:al[k]? =some a)
 (hf:AqFor dev k a e) (hl:e.bd.n≤1000000) (hb01:Below w0.heap.size w0 w1) (hfr:∀V,But (fun i=>i=g) w1 V→Sl fB V V.heap.size e.bd.a e.bd.n e.bs) (hok:Byt e.bs∧e.bd.n≤e.bd.c∧int64 e.dv∧int64 e.sq)
 (hb12:Below w1.heap.size w1 w2) (ho:OwnN fEn 6 55 w2 base (.slice A' n' c') ((es++acqs ms)++[e])) (hg:g < base) (hb23:But (fun i=>i=g) w2 w3) (hc:w3.heap[g]? =some (.cells (cVw (x.setE A' n' c')) t (0,0))):Hon g t x es al dev w3 (k+1) (j+1):=by
 obtain ⟨k1,k2⟩:=take_at hk;have e1:acqs (ms++[some e])=acqs ms++[e]:=acqs_snoc _ _;obtain ⟨A9,c9,hv,h9,_,_⟩:=OwnN.shape yb6 ho;injection hv with v1 v2 v3;refine ⟨ms++[some e],A',n',c',?_,(by rw [e1,List.length_append,h2];rfl),om,?_,?_,hc⟩
 ·rw [k1]
  refine AqM.snoc h1 (fun e' he=>?_);injection he with he;subst he
  rwa [k2,Nat.zero_add]
 ·rw [e1]
  intro e' he;rcases List.mem_append.1 he with he |he
  ·exact h4 e' he
  ·obtain rfl:e'=e:=by simpa using he
   exact hl
 ·rw [e1,←List.append_assoc]
  exact h5.snoc hb01 hfr hok hb12 ho hg hb23
open Go.ChangeShapes Go.WideShapes Go.ChangeAt Go.RowKit Go.Deep
section
variable {H:Type} {enc:TypeId × Value→H} {W:World} {d:DataW H} {p:List MemPlace}
end
section
variable {H:Type} {enc:TypeId × Value→H} {W:World} {d:DataW H} {p:List MemPlace}
theorem w_bytes {r:Reach} {b0:Nat} {v:Value} (hv:Value.okWide Tryz.prog W r b0 40 v) (h:DataW.Trod enc Tryz.prog W 0 (fun _=>true) true 40 v d p):∃A n c xs,v= .slice A n c∧n≤c∧Sl fB W W.heap.size A n xs∧Byt xs:=by
 obtain ⟨a,len,cap,rfl⟩:=okWide_slice Tryz.underlying40 hv;obtain ⟨fuel,hf⟩:=h;obtain ⟨A,n,c,xs,e,h1,_,h2,h3⟩:=in_btsM hf;simp [Value.cells] at e;obtain ⟨rfl,rfl,rfl⟩:=e;exact ⟨_,_,_,xs,rfl,h1,h2,h3⟩
theorem u8_nat {z:Int} (h:(Lit.int .u8 z).wf=true):∃k:Nat,z=(k:Int)∧k≤255:=by
 simp [Lit.wf,IntKind.min,IntKind.max,IntKind.signed,IntKind.bits] at h;exact ⟨z.toNat,by omega,by omega⟩
end
