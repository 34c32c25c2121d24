/- Entries cloned, entries compared. blame.Proof, where an accusation of a device is acknowledged. -/
import Derived.Test.YtpdledjgbgalcaaGreatDoorPy
import Derived.Great.Walk
import Derived.Great.BuildSlice
namespace Go.Proofs.YtpdledjgbgalcaaGreatDoor
set_option maxRecDepth 100000
set_option maxHeartbeats 8000000
open Go.RowKit Go.Lib
set_option linter.unusedVariables false
set_option linter.unusedSimpArgs false
theorem enAllF (e:EnR):((fEn e).toArray).all (·.oneCell')=true:=by kernel_rfl
theorem Sl.off6 {w V:World} {A:Option Addr} {n g:Nat} {xs:List Int} {e:EnR} {t:TypeId} (h:Sl fB w w.heap.size A n xs) (hg:w.heap[g]? =some (.cells (fEn e).toArray t (0,0))) (hb:But (fun i=>i=g) w V):Sl fB V V.heap.size A n xs:=⟨h.1,fun hn=>by
 obtain ⟨b,off,e',hlt,hc⟩:=h.2 hn
 have hne:b≠g:=by
  rintro rfl;obtain ⟨z,zs,rfl⟩:∃z zs,xs=z::zs:=by cases xs with |nil=>simp at hn |cons z zs=>exact ⟨z,zs,rfl⟩
  have h1:=hc 0 z rfl;rw [cell_of_row w b (off+0) _ _ _ hg] at h1
  match off,h1 with
  |0,h=>simp at h
  |1,h=>simp at h
  |2,h=>simp at h
  |3,h=>simp at h
  |4,h=>simp at h
  |5,h=>simp at h
  |k+6,h=>simp at h
 exact ⟨b,off,e',Nat.lt_of_lt_of_le hlt hb.size,fun i z hz=>(World.cell?_of_block (hb.block b hlt hne)).trans (hc i z hz)⟩⟩
theorem Sl.off6z {w V:World} {A:Option Addr} {n g:Nat} {xs:List Int} {t:TypeId} (h:Sl fB w w.heap.size A n xs) (hg:w.heap[g]? =some (.cells zEn t (0,0))) (hb:But (fun i=>i=g) w V):Sl fB V V.heap.size A n xs:=h.off6 (e:=⟨0,0,0,0,⟨none,0,0⟩,⟨#[]⟩,[]⟩) hg hb
theorem bclone_any (A:Option Addr) (n c B:Nat) (xs:List Int) (w:World) (hx:Sl fB w B A n xs) (hB:B≤w.heap.size) (h0:0 < n) (hn:n≤1000000):Calls Tryz.prog 119 #[.slice A n c] w fun e w'=>∃A' c',e= .returned (.slice A' n c')∧n≤c'∧Sl fB w' w'.heap.size A' n xs∧Below w.heap.size w w':=by
 obtain ⟨i0,hi,hz0,hz1,hz2⟩:=info_parts Tryz.infoB;have HI:=lh hi;have HZ0:=lh hz0;have HZ1:=lh hz1;have HZ2:=lh hz2;obtain ⟨b,off,rfl,hbB,_⟩:=hx.2 (by have:=hx.1;omega);have HO0:Hid (Own fB 5 (w.alloc (.cells #[] 5)) w.heap.size (.slice (some ⟨w.heap.size,0,none⟩) 0 0) []):=World.ownsRow_lit w #[] 0 nl yaS rfl;have HB0:Hid (Below w.heap.size w (w.alloc (.cells #[] 5))):=bl;have HX0:Hid (Sl fB (w.alloc (.cells #[] 5)) B (some ⟨b,off,none⟩) n xs):=hx.up HB0.out hB;have HXN:Hid (xs.length=n):=hx.1;have HL1:Hid ((([]:List Int).length+xs.length)*1≤140737488355328):=by show _≤_;rw [hx.1];simp;omega
 have HL2:Hid (([]:List Int).length+xs.length≤maxLen):=by show _≤_;rw [hx.1];unfold maxLen;simp;omega
 have HSz:Hid (w.heap.size≤(w.alloc (.cells #[] 5)).heap.size):=by show _≤_;simp
 have hnil:=Lib.run_eql_slice_nil (P:=Tryz.prog) w 40 5 (some ⟨b,off,none⟩) n c 0 0 Tryz.underlying40;clear hi hz0 hz1 hz2 hx hB hbB h0 hn;go_enter Tryz.func119,Tryz.ntmps119
 go_wp2_with (at_builtin;(with_reducible refine ya8 (o:=⟨some 7,_,_,_,_,_⟩) rfl (.tmp 5) (.tmp 6) 40 rfl 5 i0 (.int .u8 0) 1 Tryz.underlying40 HI.out HZ0.out HZ1.out HZ2.out rfl _ [] w.heap.size rfl HO0.out _ _ _ B xs rfl HX0.out fB1 HL1.out HL2.out HSz.out ?_);intro v1 w1 HO1 HG1 HV1)
 have hb1:Below w.heap.size w w1:=HB0.out.trans (yaY HG1.out (fun j hj=>(World.ownsRow.lt HO0.out j hj).1) HSz.out);obtain ⟨A',c',hv,hc,hs,_⟩:=HO1.out.shape;rw [List.nil_append] at hs;rw [List.nil_append,HXN.out] at hv hc;subst hv;go_ret;exact ⟨A',c',rfl,hc,⟨HXN.out,hs⟩,hb1⟩
theorem eclone_any (e:EnR) (B:Nat) (w:World) (hx:Sl fB w B e.bd.a e.bd.n e.bs) (hB:B≤w.heap.size) (h0:0 < e.bd.n) (hn:e.bd.n≤1000000):Calls Tryz.prog 61 #[.agg (fEn e).toArray] w fun r w'=>∃A' c',r= .returned (.agg (fEn {e with bd:=⟨A',e.bd.n,c'⟩}).toArray)∧e.bd.n≤c'∧Sl fB w' w'.heap.size A' e.bd.n e.bs∧Below w.heap.size w w':=by
 obtain ⟨dv,sq,k,dy,⟨ba,bn,bc⟩,pr,bs⟩:=e;dsimp only at hx h0 hn ⊢;obtain ⟨W1,hW1⟩:∃W1:World,W1=(w.alloc (.cells #[.int .i64 dv,.int .i64 sq,.int .i64 k,.int .i64 dy,.slice ba bn bc,.string pr] 55)).alloc (.cells zEn 55):=⟨_,rfl⟩
 have HB:Hid (Below w.heap.size w W1):=by show Below ..;rw [hW1];exact bl.alloc sI _
 have hsz:W1.heap.size=w.heap.size+2:=by rw [hW1];simp
 have hge:W1.heap[w.heap.size]? =some (.cells #[.int .i64 dv,.int .i64 sq,.int .i64 k,.int .i64 dy,.slice ba bn bc,.string pr] 55 (0,0)):=by rw [hW1];exact (Below.heap_alloc _ _ _ sI).trans (heap_alloc_new w _)
 have hg2:W1.heap[w.heap.size+1]? =some (.cells zEn 55 (0,0)):=by rw [hW1];have:=heap_alloc_new (w.alloc (.cells #[.int .i64 dv,.int .i64 sq,.int .i64 k,.int .i64 dy,.slice ba bn bc,.string pr] 55)) (.cells zEn 55);simpa using this
 have HGE:=lh hge;have HG2:=lh hg2;have HS:=lh hsz;have HWE:=lh hW1;have HCL:=lh (bclone_any ba bn bc B bs W1 (hx.up HB.out hB) (Nat.le_trans hB HB.out.size) h0 hn);have y4:W1.cell? ⟨w.heap.size,4,none⟩=some (.slice ba bn bc):=by rw [cell_of_row W1 _ _ _ _ _ hge];rfl
 clear hge hg2 hsz hW1 hx hB h0 hn;go_enter Tryz.func61,Tryz.ntmps61
 go_upto_region 1 with fail
 rw [←HWE.out]
 go_upto_region 2 with (go_at_call 119;(with_reducible refine HCL.out.mono ?_);rintro e w3 ⟨A',c',rfl,hc',hs',hb3⟩;(have HB3:=lh hb3);(have HC':=lh hc');(have HS':=lh hs');(have HGE3:=lh ((hb3.block _ (lt_of_block HGE.out)).trans HGE.out));(have z4:w3.cell? ⟨w.heap.size,4,none⟩=some (.slice ba bn bc):=by rw [cell_of_row w3 _ _ _ _ _ HGE3.out];rfl);(have f4:=frozen_of_row w3 w.heap.size 4 _ _ HGE3.out);clear y4 hb3 hc' hs')
 obtain ⟨W5,hW5⟩:∃W:World,W=w3.setCell ⟨w.heap.size,4,none⟩ (.slice A' bn c'):=⟨_,rfl⟩
 have hg5:W5.heap[w.heap.size]? =some (.cells #[.int .i64 dv,.int .i64 sq,.int .i64 k,.int .i64 dy,.slice A' bn c',.string pr] 55 (0,0)):=by rw [hW5];exact heap_setCell_same w3 _ 4 _ _ _ HGE3.out
 have hb5:But (fun i=>i=w.heap.size) w3 W5:=by rw [hW5];exact But.setCell (p:=fun i=>i=w.heap.size) (x:=⟨w.heap.size,4,none⟩) (But.refl _ _) (.inl rfl) _
 have HG5:=lh hg5;have HB5:=lh hb5;have HG25:Hid (W5.heap[w.heap.size+1]? =some (.cells zEn 55 (0,0))):=(hb5.block _ (Nat.lt_of_lt_of_le (lt_of_block HG2.out) HB3.out.size) om).trans ((HB3.out.block _ (lt_of_block HG2.out)).trans HG2.out);rw [←hW5];clear hW5 hg5 hb5 z4 f4
 go_wp2_with (first
  |(with_reducible refine wpList_load_row (o:=⟨some 7,_,_,_,_,_⟩) rfl 55 (.tmp 1) rfl w.heap.size rfl 55 #[.int .i64 dv,.int .i64 sq,.int .i64 k,.int .i64 dy,.slice A' bn c',.string pr] _ _ HG5.out Tryz.underlying55 rfl (sizeEnA ⟨dv,sq,k,dy,⟨A',bn,c'⟩,pr,bs⟩) ?_)
  |((with_reducible refine yaZ (o:=⟨none,_,_,_,_,_⟩) rfl 55 (.tmp 2) (.tmp 7) rfl (w.heap.size+1) 55 zEn #[.int .i64 dv,.int .i64 sq,.int .i64 k,.int .i64 dy,.slice A' bn c',.string pr] rfl rfl HG25.out (sizeEnA ⟨dv,sq,k,dy,⟨A',bn,c'⟩,pr,bs⟩) rfl (enAllF ⟨dv,sq,k,dy,⟨A',bn,c'⟩,pr,bs⟩) ?_);intro w6 HG6 HB6))
 refine bodyPost_ret (results_cell_row rfl _ _ _ _ _ _ _ rfl HG6.out Tryz.underlying55 rfl (sizeEnA ⟨dv,sq,k,dy,⟨A',bn,c'⟩,pr,bs⟩)) rfl ⟨A',c',rfl,HC'.out,?_,?_⟩
 ·have h1:Sl fB W5 W5.heap.size A' bn bs:=HS'.out.off6 (e:=⟨dv,sq,k,dy,⟨ba,bn,bc⟩,pr,bs⟩) HGE3.out HB5.out
  exact h1.off6z HG25.out HB6.out
 ·have h2:=HS.out
  have h3:=HB3.out.size;have h5:=HB5.out.size;exact HB.out.trans ((HB3.out.mono HB.out.size).trans ((HB5.out.below om (fun i hi=>by subst hi;exact Nat.le_refl _)).trans (HB6.out.below om (fun i hi=>by subst hi;omega))))
theorem sameEntry_eq (e:EnR) (bd1 bd2:Hd) (B:Nat) (w:World) (h1:Sl fB w B bd1.a bd1.n e.bs) (h2:Sl fB w B bd2.a bd2.n e.bs) (hB:B≤w.heap.size):Calls Tryz.prog 28 #[.agg (fEn {e with bd:=bd1}).toArray,.agg (fEn {e with bd:=bd2}).toArray] w fun r w'=>r= .returned (.bool true)∧Below w.heap.size w w':=by
 obtain ⟨dv,sq,k,dy,bd,pr,bs⟩:=e;obtain ⟨a1,n1,c1⟩:=bd1;obtain ⟨a2,n2,c2⟩:=bd2;dsimp only at h1 h2 ⊢;obtain ⟨W1,hW1⟩:∃W1:World,W1=(w.alloc (.cells #[.int .i64 dv,.int .i64 sq,.int .i64 k,.int .i64 dy,.slice a1 n1 c1,.string pr] 55)).alloc (.cells #[.int .i64 dv,.int .i64 sq,.int .i64 k,.int .i64 dy,.slice a2 n2 c2,.string pr] 55):=⟨_,rfl⟩
 have HB:Hid (Below w.heap.size w W1):=by show Below ..;rw [hW1];exact bl.alloc sI _
 have hge:W1.heap[w.heap.size]? =some (.cells #[.int .i64 dv,.int .i64 sq,.int .i64 k,.int .i64 dy,.slice a1 n1 c1,.string pr] 55 (0,0)):=by rw [hW1];exact (Below.heap_alloc _ _ _ sI).trans (heap_alloc_new w _)
 have hg2:W1.heap[w.heap.size+1]? =some (.cells #[.int .i64 dv,.int .i64 sq,.int .i64 k,.int .i64 dy,.slice a2 n2 c2,.string pr] 55 (0,0)):=by rw [hW1];have:=heap_alloc_new (w.alloc (.cells #[.int .i64 dv,.int .i64 sq,.int .i64 k,.int .i64 dy,.slice a1 n1 c1,.string pr] 55)) (.cells #[.int .i64 dv,.int .i64 sq,.int .i64 k,.int .i64 dy,.slice a2 n2 c2,.string pr] 55);simpa using this
 have x0:W1.cell? ⟨w.heap.size,0,none⟩=some (.int .i64 dv):=by rw [cell_of_row W1 _ _ _ _ _ hge];rfl
 have x1:W1.cell? ⟨w.heap.size,1,none⟩=some (.int .i64 sq):=by rw [cell_of_row W1 _ _ _ _ _ hge];rfl
 have x2:W1.cell? ⟨w.heap.size,2,none⟩=some (.int .i64 k):=by rw [cell_of_row W1 _ _ _ _ _ hge];rfl
 have x3:W1.cell? ⟨w.heap.size,3,none⟩=some (.int .i64 dy):=by rw [cell_of_row W1 _ _ _ _ _ hge];rfl
 have x4:W1.cell? ⟨w.heap.size,4,none⟩=some (.slice a1 n1 c1):=by rw [cell_of_row W1 _ _ _ _ _ hge];rfl
 have x5:W1.cell? ⟨w.heap.size,5,none⟩=some (.string pr):=by rw [cell_of_row W1 _ _ _ _ _ hge];rfl
 have y0:W1.cell? ⟨w.heap.size+1,0,none⟩=some (.int .i64 dv):=by rw [cell_of_row W1 _ _ _ _ _ hg2];rfl
 have y1:W1.cell? ⟨w.heap.size+1,1,none⟩=some (.int .i64 sq):=by rw [cell_of_row W1 _ _ _ _ _ hg2];rfl
 have y2:W1.cell? ⟨w.heap.size+1,2,none⟩=some (.int .i64 k):=by rw [cell_of_row W1 _ _ _ _ _ hg2];rfl
 have y3:W1.cell? ⟨w.heap.size+1,3,none⟩=some (.int .i64 dy):=by rw [cell_of_row W1 _ _ _ _ _ hg2];rfl
 have y4:W1.cell? ⟨w.heap.size+1,4,none⟩=some (.slice a2 n2 c2):=by rw [cell_of_row W1 _ _ _ _ _ hg2];rfl
 have y5:W1.cell? ⟨w.heap.size+1,5,none⟩=some (.string pr):=by rw [cell_of_row W1 _ _ _ _ _ hg2];rfl
 have hc1:=ycj (c:=c1) (h1.up HB.out hB);have hc2:=ycj (c:=c2) (h2.up HB.out hB);have HWE:=lh hW1;clear hge hg2 hW1 h1 h2 hB;go_enter Tryz.func28,Tryz.ntmps28
 go_upto_region 1 with fail
 rw [←HWE.out];go_wp2;go_ret;exact ⟨rfl,HB.out⟩
theorem step_slice2 {P:Program} {w:World} {ops:Array Oper} {o:Oper} {a:Act} {K:Act→World→Prop} {Q:Exit→Act→World→Prop} {E:Prop} (hgd:o.guard=none) (t e:TypeId) {x y:Operand} (ho:o.op= .buildSlice t 2 #[(0,x),(1,y)]) (i:TypeInfo) (z:Value) (ht:P.underlying t=some (.slice e)) (hi:P.info? e=some i) (hz:i.zero=some z) (hs:i.size=6) (hzs:z.cells.size=6) (xs ys:Array Value) (hx:a.eval x= .agg xs) (hy:a.eval y= .agg ys) (hxs:xs.size=6) (hys:ys.size=6)
 (h:∀g w',Hid (w'.heap[g]? =some (.cells (xs++ys) e (0,0)))→Hid (Below w.heap.size w w')→K (a.put o.dst (.slice (some ⟨g,0,none⟩) 2 2)) w'):if Region.wanted o (yielded ops a.tmps)=true then Oper.wp P o a w K Q else E:=by
 have hw:Region.wanted o (yielded ops a.tmps)=true:=by simp [Region.wanted,hgd]
 rw [if_pos hw];refine wp_buildSlice t e 2 #[(0,x),(1,y)] ho (xs++ys) i z ht hi hz (by rw [hs];decide) (by rw [hs];decide) ?_ (h _ _ (heap_alloc_new w _) bl);obtain ⟨u,hu⟩:∃u:Array Value,(Array.range (2*i.size)).map (fun k=>z.cells[k % z.cells.size]!)=u:=⟨_,rfl⟩
 have hus:u.size=12:=by rw [←hu,hs];simp
 show Instr.fill _ ((Array.range (2*i.size)).map (fun k=>z.cells[k % z.cells.size]!)) _=_
 rw [hu];obtain ⟨l0,rfl,h0⟩:∃l:List Value,u=l.toArray∧l.length=12:=⟨u.toList,rfl,by simpa using hus⟩
 obtain ⟨l1,rfl,h1⟩:∃l:List Value,xs=l.toArray∧l.length=6:=⟨xs.toList,rfl,by simpa using hxs⟩
 obtain ⟨l2,rfl,h2⟩:∃l:List Value,ys=l.toArray∧l.length=6:=⟨ys.toList,rfl,by simpa using hys⟩
 clear hu hus hxs hys
 match l0,h0,l1,h1,l2,h2 with
 | [u0,u1,u2,u3,u4,u5,u6,u7,u8,u9,u10,u11],_,[a0,a1,a2,a3,a4,a5],_,[b0,b1,b2,b3,b4,b5],_=>
   simp [hs,hx,hy,Instr.fill,Value.cells]
def PfP (a m:EnR) (w:World) (e:Ending) (w':World):Prop:=
 ∃g A1 n1 A2 n2,e= .returned (.tuple #[.slice (some ⟨g,0,none⟩) 2 2,.int .i64 0])∧w'.rangeAt g 0 (fEn {a with bd:=⟨A1,a.bd.n,n1⟩}++fEn {m with bd:=⟨A2,m.bd.n,n2⟩})∧g < w'.heap.size∧Sl fB w' w'.heap.size A1 a.bd.n a.bs∧Below w.heap.size w w'
theorem proof_any (x:Vw) (es:List EnR) (vs:List VtR) (pubs drs:List ByteArray) (fks:List Int) (B:Nat) (w:World) (hG:Glob w) (hV:VwIn w B x es vs pubs drs fks) (hB:B≤w.heap.size) (hk:VwOk x es) (hen:x.E.n≤400) (dev:Int) (ac:Ac) (ae m:EnR)
 (hcl:cgL (opV x es vs pubs drs) (frE es)=[(ac,ae)]) (hhd:ac.R.hd=dev) (hak:akF (mtsE mtX (frE es) ac.R.hd) ac.d ac.q=some m) (hae:ae∈es) (hme:m∈es) (hpa:0 < ae.bd.n) (hpm:0 < m.bd.n):
 Calls Tryz.prog 26 #[.agg (cVw x),.int .i64 dev] w (PfP ae m w):=by
 obtain ⟨W1,hW1⟩:∃W1:World,W1=w.alloc (.cells (cVw x) 29):=⟨_,rfl⟩
 have hb1:Below w.heap.size w W1:=by rw [hW1];exact bl
 have hga:W1.heap[w.heap.size]? =some (.cells (cVw x) 29 (0,0)):=by rw [hW1];exact heap_alloc_new w _
 have HJU1:Hid (Calls Tryz.prog 50 #[.agg (cVw x)] W1 (JdP aqX mtX x es W1)):=judge_of x es vs pubs drs fks B W1 (hV.up hb1 hB) (Nat.le_trans hB hb1.size) hk
 have HCH:Hid (∀V lab s k kS kM A n c mN mS mM,Below w.heap.size w V→JSt V lab s k kS kM x (frE es) A n c mN mS mM (hasE (frE es)) (pcsE aqX (frE es)) (mtsE mtX (frE es))→Calls Tryz.prog 51 #[.pointer (some ⟨s+3,0,none⟩)] V (CgP (opV x es vs pubs drs) (frE es) V)):=fun V lab s k kS kM A n c mN mS mM h1 hJ=>
  ydn lab _ k kS kM x es vs pubs drs fks A n c mN mS mM _ B V (hG.on h1) hJ (hV.up h1 hB) (Nat.le_trans hB h1.size) hk
 have hel:es.length=x.E.n:=hV.E.1.1
 have HACK:Hid (∀V lab s k kS kM A n c mN mS mM,JSt V lab s k kS kM x (frE es) A n c mN mS mM (hasE (frE es)) (pcsE aqX (frE es)) (mtsE mtX (frE es))→∀r:AcR,int64 r.a.R.hd→Calls Tryz.prog 60 #[.pointer (some ⟨s+3,0,none⟩),.agg (cAr r)] V fun e w'=>e= .returned (.tuple #[.agg (akC (akF (mtsE mtX (frE es) r.a.R.hd) r.a.d r.a.q)),.bool (akF (mtsE mtX (frE es) r.a.R.hd) r.a.d r.a.q).isSome])∧Below V.heap.size V w'):=fun V lab s k kS kM A n c mN mS mM hJ r hh=>
  ackE_any lab s k kS kM x es A n c mN mS mM om r V hJ hh
 have HEN:Hid (∀e∈es,0 < e.bd.n→∀V,Below w.heap.size w V→Calls Tryz.prog 61 #[.agg (fEn e).toArray] V fun r w'=>∃A' c',r= .returned (.agg (fEn {e with bd:=⟨A',e.bd.n,c'⟩}).toArray)∧e.bd.n≤c'∧Sl fB w' w'.heap.size A' e.bd.n e.bs∧Below V.heap.size V w'):=fun e he h0 V hv=>
  eclone_any e B V ((hV.up hv hB).E.2 e he).1 (Nat.le_trans hB hv.size) h0 (hk.2.2 e he)
 have hK1:=HEN.out ae hae hpa;have hK2:=HEN.out m hme hpm
 have HHD:Hid (int64 ac.R.hd):=by
  have h1:=(cgL_ok (ac,ae) (by rw [hcl];exact List.mem_singleton.2 rfl)).1.1;exact ⟨Int.le_trans de h1.1,Int.le_trans h1.2 de⟩
 have HCE:=lh hcl;have HAKE:=lh hak;have HHE:=lh hhd;have HB1:=lh hb1;have HWE:=lh hW1;have HKA:=lh hK1;have HKM:=lh hK2;obtain ⟨v0,v1,v2,v3,v4,v5,v6⟩:=ybE hga;clear hG hV hB hk hen hb1 hga hW1 hcl hel hhd hak hae hme hpa hpm hK1 hK2 HEN;go_enter Tryz.func26,Tryz.ntmps26
 go_upto_region 1 with fail
 rw [←HWE.out]
 go_upto_region 3 with (first
  |(go_at_call 50;(with_reducible refine HJU1.out.mono ?_);rintro e V2 ⟨rfl,hb2,lab,jk,kS,kM,A,n,c,mN,mS,mM,hJ⟩;(have HC2:=lh (HCH.out V2 lab W1.heap.size jk kS kM A n c mN mS mM (HB1.out.trans (hb2.mono HB1.out.size)) hJ));(have HB2:=lh hb2);(have HJ2:=lh hJ);clear hb2 hJ)
  |(go_at_call 51;(with_reducible refine HC2.out.mono ?_);rintro e V3 ⟨v,rfl,hb3,cs,ho,hr,hm⟩;(obtain ⟨CA,cc,hv,hc,hps,hlo⟩:=OwnN.shape fCg_len ho);subst hv;(have HPS:=lh hps);(have HMM:Hid (cs.map (fun c=>(c.r.a,c.e))=[(ac,ae)]):=hm.trans HCE.out);(have HJ3:=lh (HJ2.out.on hb3));(have HB3:Hid (Below w.heap.size w V3):=HB1.out.trans ((HB2.out.trans (hb3.mono HB2.out.size)).mono HB1.out.size));clear hb3 ho hr hm hc hps hlo))
 clear v0 v1 v2 v3 v4 v5 v6 HC2 HJ2 HCH HJU1
 obtain ⟨c1,hcs⟩:∃c1,cs=[c1]:=by
  have h:=congrArg List.length HMM.out;simp at h;exact List.length_eq_one_iff.1 h
 subst hcs
 have hce:c1.r.a=ac∧c1.e=ae:=by
  have h:=HMM.out;simp at h;exact h
 obtain ⟨hca,hce⟩:=hce;obtain ⟨b,off,c2,hCA,hbB,hc2,hat⟩:=HPS.out.at_ (k:=0) sI;obtain rfl:c1=c2:=by simpa using hc2
 have HRA:Hid (V3.rangeAt b off (fCg c1)):=fun i v hv=>by have:=hat i v hv;rwa [Nat.zero_mul,Nat.zero_add] at this
 have HBO:Hid (b < V3.heap.size):=hbB;subst hCA;clear hat hbB hc2 HPS HMM
 go_wp2_with fail
 go_loopw [16] (fun i wr=>i= .int .i64 0∧V3=wr) (fun _ _=>1)
 case atStart=>exact ⟨rfl,rfl⟩
 case round=>
  obtain ⟨rfl,rfl⟩:=hrel;have HGN:Hid ((V3.alloc (.cells zCg 109)).heap[V3.heap.size]? =some (.cells zCg 109 (0,0))):=heap_alloc_new V3 _
  go_upto_region 5 with (first
   |(with_reducible refine wpList_load_mid (op:=⟨some 19,_,_,_,_,_⟩) rfl 109 (.tmp 18) rfl b off rfl (fCg c1) _ HRA.out Tryz.underlying109 rfl (sizeCgL c1) ?_)
   |((with_reducible refine yaZ (o:=⟨none,_,_,_,_,_⟩) rfl 109 (.tmp 8) (.tmp 19) rfl V3.heap.size 109 _ _ rfl rfl HGN.out (sizeCg c1) rfl (fCg_all c1) ?_);intro W4 HG4 HB4n;(have HB4:Hid (Below V3.heap.size V3 W4):=((Below.refl _ V3).alloc nl (.cells zCg 109)).trans (HB4n.out.below sI (fun i hi=>by subst hi;exact Nat.le_refl _)))))
  have HRC:=lh (rangeCg HG4.out);have hAK:=HACK.out W4 lab W1.heap.size jk kS kM A n c mN mS mM (HJ3.out.on HB4.out) c1.r (by rw [hca];exact HHD.out);rw [hca,HAKE.out] at hAK;have HAK:Hid (Calls Tryz.prog 60 #[.pointer (some ⟨W1.heap.size+3,0,none⟩),.agg (cAr c1.r)] W4 fun e w'=>e= .returned (.tuple #[.agg (akC (some m)),.bool true])∧Below W4.heap.size W4 w'):=hAK
  have hhd:W4.cell? ⟨V3.heap.size,2,none⟩=some (.int .i64 dev):=by
   rw [cell_of_row W4 _ _ _ _ _ HG4.out,←HHE.out,←hca];rfl
  clear hAK HACK HJ3
  go_upto_region 8 with (first
   |(with_reducible refine wpList_load_mid (op:=⟨some 29,_,_,_,_,_⟩) rfl 39 (.tmp 28) rfl V3.heap.size 0 rfl (fAr c1.r) _ HRC.out Tryz.underlying39 rfl (sizeArL c1.r) ?_)
   |(go_at_call 60;(with_reducible refine HAK.out.mono ?_);rintro e W5 ⟨rfl,hb5⟩;(have HB5:=lh hb5);(have HGE:Hid ((W5.alloc (.cells zEn 55)).heap[W5.heap.size]? =some (.cells zEn 55 (0,0))):=heap_alloc_new W5 _);clear hb5)
   |((with_reducible refine yaZ (o:=⟨none,_,_,_,_,_⟩) rfl 55 (.tmp 9) (.tmp 31) rfl W5.heap.size 55 _ _ rfl rfl HGE.out (sizeAk (some m)) (sizeAk6 (some m)) (akC_all (some m)) ?_);intro W6 HG6 HB6n;(have HB6:Hid (Below W5.heap.size W5 W6):=((Below.refl _ W5).alloc nl (.cells zEn 55)).trans (HB6n.out.below sI (fun i hi=>by subst hi;exact Nat.le_refl _)))))
  have HB46:Hid (Below W4.heap.size W4 W6):=HB5.out.trans (HB6.out.mono HB5.out.size);have HBw6:Hid (Below w.heap.size w W6):=HB3.out.trans ((HB4.out.mono HB3.out.size).trans (HB46.out.mono (Nat.le_trans HB3.out.size HB4.out.size)));have hg46:W6.heap[V3.heap.size]? =some (.cells (fCg c1).toArray 109 (0,0)):=(HB46.out.block _ (lt_of_block HG4.out)).trans HG4.out
  have HR1:Hid (∀V,Below W6.heap.size W6 V→V.rangeAt V3.heap.size 20 (fEn ae)∧V.rangeAt W5.heap.size 0 (fEn m)):=fun V hv=>by
   refine ⟨fun j v hj=>?_,fun j v hj=>?_⟩
   ·rw [cell_of_row V _ _ _ _ _ ((hv.block _ (lt_of_block hg46)).trans hg46),List.getElem?_toArray]
    rw [←hce] at hj
    have h1:(fCg c1)[20+j]? =(fEn c1.e)[j]? :=by
     rw [List.getElem?_append_right (by rw [fAr_len];omega),fAr_len,Nat.add_sub_cancel_left]
    exact h1.trans hj
   ·rw [cell_of_row V _ _ _ _ _ ((hv.block _ (lt_of_block HG6.out)).trans HG6.out),Nat.zero_add,←Array.getElem?_toList]
    exact hj
  have HK1:Hid (∀V,Below W6.heap.size W6 V→Calls Tryz.prog 61 #[.agg (fEn ae).toArray] V fun r w'=>∃A' c',r= .returned (.agg (fEn {ae with bd:=⟨A',ae.bd.n,c'⟩}).toArray)∧ae.bd.n≤c'∧Sl fB w' w'.heap.size A' ae.bd.n ae.bs∧Below V.heap.size V w'):=fun V hv=>HKA.out V (HBw6.out.trans (hv.mono HBw6.out.size))
  have HK2:Hid (∀V,Below W6.heap.size W6 V→Calls Tryz.prog 61 #[.agg (fEn m).toArray] V fun r w'=>∃A' c',r= .returned (.agg (fEn {m with bd:=⟨A',m.bd.n,c'⟩}).toArray)∧m.bd.n≤c'∧Sl fB w' w'.heap.size A' m.bd.n m.bs∧Below V.heap.size V w'):=fun V hv=>HKM.out V (HBw6.out.trans (hv.mono HBw6.out.size))
  obtain ⟨i0,z0,hi0,hi1,hi2,hi3,hi4⟩:=ybt Tryz.infoEn;have HI0:=lh hi0;have HI1:=lh hi1;have HI2:=lh hi2;have HI4:=lh hi4;clear hi0 hi1 hi2 hi3 hi4 hhd HAK HRC hg46 HKA HKM
  go_wp2_with fail
  refine wp_region_held_drew (S:=(fun w'=>w'.rangeAt V3.heap.size 20 (fEn ae)∧w'.rangeAt W5.heap.size 0 (fEn m))) yaV (by exact HR1.out _ (Below.refl _ W6).drew) (fun hHeld=>?_);refine tkY 0 ?_;refine tkH (i:=1) (v:=_) (y:=(yieldsIf_load_mid (by rfl) 55 (.tmp 34) rfl V3.heap.size 20 (by rfl) (fEn ae) _ (fun _ h=>h.1) Tryz.underlying55 rfl (sizeEnL ae))) (h:=?_)
  try simp only [pt]
  refine tkH (i:=3) (v:=_) (y:=(yieldsIf_load_mid (by rfl) 55 (.tmp 9) rfl W5.heap.size 0 (by rfl) (fEn m) _ (fun _ h=>h.2) Tryz.underlying55 rfl (sizeEnL m))) (h:=?_)
  try simp only [pt]
  refine rd1 2 (fun K hK=>?_)
  (go_simp;go_at_call 61;(with_reducible refine (HK1.out _ (Below.refl _ W6).drew).mono ?_);rintro e w7 ⟨A1,n1,rfl,hn1,hs1,hb7⟩;(have HB7:Hid (Below W6.heap.size W6 w7):=(Below.refl _ W6).drew.trans hb7);(have HS1:=lh hs1);(have HN1:=lh hn1);clear hb7 hs1 hn1;go_wp2_with fail)
  refine hK.out _ _ (by exact HR1.out _ HB7.out) (fun hHeldp4=>?_);clear hK K hHeld
  try simp only [pt]
  refine rd1 4 (fun K hK=>?_)
  (go_simp;go_at_call 61;(with_reducible refine (HK2.out _ HB7.out).mono ?_);rintro e w8 ⟨A2,n2,rfl,hn2,hs2,hb8⟩;(have HB78:=lh hb8);(have HB8:Hid (Below W6.heap.size W6 w8):=HB7.out.trans (hb8.mono HB7.out.size));(have HS2:=lh hs2);(have HN2:=lh hn2);clear hb8 hs2 hn2;go_wp2_with fail)
  refine hK.out _ _ (by exact HR1.out _ HB8.out) (fun hHeldp5=>?_);clear hK K hHeldp4
  try simp only [pt]
  refine rd1 5 (fun K hK=>?_)
  ((refine step_slice2 rfl 22 55 rfl i0 z0 Tryz.underlying22 HI0.out HI1.out HI2.out HI4.out (fEn {ae with bd:=⟨A1,ae.bd.n,n1⟩}).toArray (fEn {m with bd:=⟨A2,m.bd.n,n2⟩}).toArray rfl rfl rfl rfl ?_);intro g9 w9 HG9 HB9)
  refine hK.out _ _ (by exact HR1.out _ (HB8.out.trans (HB9.out.mono HB8.out.size))) (fun hHeldp6=>?_);clear hK K hHeldp5
  try simp only [pt]
  refine tkY 6 ?_;refine tkY 7 ?_;refine wpAnyH_done yaV ?_ _
  go_wp2_with fail
  go_ret2;refine ⟨g9,A1,n1,A2,n2,rfl,fun j v hj=>?_,lt_of_block HG9.out,?_,HBw6.out.trans ((HB8.out.mono HBw6.out.size).trans (HB9.out.mono (Nat.le_trans HBw6.out.size HB8.out.size)))⟩
  ·rw [Nat.zero_add,cell_of_row w9 _ _ _ _ _ HG9.out,←Array.getElem?_toList]
   exact hj
  ·exact (((HS1.out.up HB78.out nl).more' HB78.out.size).up HB9.out nl).more' HB9.out.size
