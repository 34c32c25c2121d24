/- The judge's beginning; what its decoders hand it. The judge's memory: a shown piece is put behind those of its key ('m[k] = append(m[k], p)': the entry is made first, and stored into last). -/
import Derived.Test.YtpdledjgbgalcaaGreatDoorPn
namespace Go.Proofs.YtpdledjgbgalcaaGreatDoor
open Go.RowKit
set_option linter.unusedVariables false
set_option linter.unusedSimpArgs false
def AqP (a:AqX) (V:World) (e:Ending) (w':World):Prop:=
 ∃hd hq:Hd,e= .returned (.tuple #[.int .i64 a.d,.int .i64 a.q,.agg #[.string a.x.st,.int .i64 a.x.ix,.slice hd.a hd.n hd.c,.slice hq.a hq.n hq.c],.int .i64 a.er])∧(Sl fB w' w'.heap.size hd.a hd.n a.x.xs∧∀t,hd.a=some t→V.heap.size≤t.block)∧(Sl fT w' w'.heap.size hq.a hq.n a.x.ys∧∀t,hq.a=some t→V.heap.size≤t.block)∧(hd.n≤hd.c∧hq.n≤hq.c)∧Below V.heap.size V w'
def MtP (m:MtX) (V:World) (e:Ending) (w':World):Prop:=
 ∃hv:Hd,e= .returned (.tuple #[.int .i64 m.q,.slice hv.a hv.n hv.c,.int .i64 m.er])∧(Sl I w' w'.heap.size hv.a hv.n m.v∧∀t,hv.a=some t→V.heap.size≤t.block)∧Below V.heap.size V w'
def lab0 (s:Nat):Nat→Rl:=fun i=>if i < s then .fix 9 else if i < s+5 then .fix (i - s) else .dat
theorem lab0_fix (s i:Nat) (h:i < 5):lab0 s (s+i)= .fix i:=by
 unfold lab0;rw [if_neg om,if_pos om,Nat.add_sub_cancel_left]
theorem lab0_dat (s i:Nat) (h:s+5≤i):lab0 s i= .dat:=by
 unfold lab0;rw [if_neg om,if_neg om]
theorem lab0_lo (s i:Nat) (h:i < s):lab0 s i= .fix 9:=by
 unfold lab0;rw [if_pos h]
section
variable {w w':World} {lab:Nat→Rl} {s k kS kM:Nat} {x:Vw} {l:List EnR} {A:Option Addr} {n c:Nat} {mN mS mM:Lit→Value} {has:Int→Int→Bool} {pcs:Int→Int→Int→List PcX} {mts:Int→List (EnR × List Int)}
theorem JSt.fresh (h:JSt w lab s k kS kM x l A n c mN mS mM has pcs mts) {A':Option Addr} (n':Nat) (ha:∀t,A'=some t→w.heap.size≤t.block):DatB lab A' n':=fun _ t e=>h.hi.2 _ (ha t e)
end
abbrev jw1 (x:Vw) (w:World):World:=w.alloc (.cells (cVw x) 29)
abbrev jw5 (x:Vw) (w:World):World:=((((jw1 x w).alloc (.map #[] 0)).alloc (.map #[] 0)).alloc (.cells (cJ x none 0 0 (w.heap.size+1) (w.heap.size+2)) 168)).alloc (.map #[] 0)
theorem jw5_size (x:Vw) (w:World):(jw5 x w).heap.size=w.heap.size+5:=by simp [jw5,jw1]
theorem JSt.init (x:Vw) (w:World):JSt (jw5 x w) (lab0 w.heap.size) w.heap.size 0 0 0 x [] none 0 0 (fun _=> .bool false) (fun _=>nilV) (fun _=>nilV) (fun _ _=>false) (fun _ _ _=>[]) (fun _=>[]):=by
 have e0:(jw5 x w).heap[w.heap.size]? =some (.cells (cVw x) 29 (0,0)):=by
  refine (Below.heap_alloc _ _ _ yaW).trans ((Below.heap_alloc _ _ _ yaW).trans ((Below.heap_alloc _ _ _ yaW).trans ((Below.heap_alloc _ _ _ sI).trans (heap_alloc_new w _))))
 have e3:(jw5 x w).heap[w.heap.size+3]? =some (.cells (cJ x none 0 0 (w.heap.size+1) (w.heap.size+2)) 168 (0,0)):=by
  refine (Below.heap_alloc _ _ _ sI).trans ?_
  have:=heap_alloc_new (((jw1 x w).alloc (.map #[] 0)).alloc (.map #[] 0)) (.cells (cJ x none 0 0 (w.heap.size+1) (w.heap.size+2)) 168)
  simpa using this
 have e1:MapV (jw5 x w) 173 (w.heap.size+1) 0 nilV (fun _=>nilV):=by
  have:=MapV.made (jw1 x w) 173 nilV
  rw [show (jw1 x w).heap.size=w.heap.size+1 by simp] at this;exact this.block ((Below.heap_alloc _ _ _ (by first |(simp;done) |(simp;omega))).trans ((Below.heap_alloc _ _ _ (by first |(simp;done) |(simp;omega))).trans (Below.heap_alloc _ _ _ sI)))
 have e2:MapV (jw5 x w) 3 (w.heap.size+2) 0 nilV (fun _=>nilV):=by
  have:=MapV.made ((jw1 x w).alloc (.map #[] 0)) 3 nilV
  rw [show ((jw1 x w).alloc (.map #[] 0)).heap.size=w.heap.size+2 by simp] at this;exact this.block ((Below.heap_alloc _ _ _ (by first |(simp;done) |(simp;omega))).trans (Below.heap_alloc _ _ _ sI))
 have e4:MapV (jw5 x w) 171 (w.heap.size+4) 0 (.bool false) (fun _=> .bool false):=by
  have:=MapV.made ((((jw1 x w).alloc (.map #[] 0)).alloc (.map #[] 0)).alloc (.cells (cJ x none 0 0 (w.heap.size+1) (w.heap.size+2)) 168)) 171 (.bool false)
  rw [show ((((jw1 x w).alloc (.map #[] 0)).alloc (.map #[] 0)).alloc (.cells (cJ x none 0 0 (w.heap.size+1) (w.heap.size+2)) 168)).heap.size=w.heap.size+4 by simp] at this;exact this
 exact ⟨e0,e3,⟨e4,fun _ _ _ _=>rfl⟩,⟨OwnN.nil,Lab.nil _ _⟩,e1,fun _ _ _ _ _ _=>RowS.nil,e2,fun _ _=>RowM.nil,fun i hi=>lab0_fix _ i hi,fun i hi=>lab0_lo _ i hi,⟨by rw [jw5_size];exact Nat.le_refl _,fun i hi=>lab0_dat _ i (by rw [jw5_size] at hi;exact hi)⟩⟩
def JdP (aq:EnR→AqX) (mt:EnR→MtX) (x:Vw) (es:List EnR) (w:World) (e:Ending) (w':World):Prop:=
 e= .returned (.pointer (some ⟨w.heap.size+3,0,none⟩))∧Below w.heap.size w w'∧∃lab k kS kM A n c mN mS mM,JSt w' lab w.heap.size k kS kM x (frE es) A n c mN mS mM (hasE (frE es)) (pcsE aq (frE es)) (mtsE mt (frE es))
theorem Tryz.infoE:(Tryz.prog.info? 55).map (fun i=>(i.zero,i.size,i.bytes))=some (some (.agg #[.int .i64 0,.int .i64 0,.int .i64 0,.int .i64 0,.slice none 0 0,.string ⟨#[]⟩]),6,72):=by kernel_rfl
theorem Tryz.zsE:(Value.agg #[.int .i64 0,.int .i64 0,.int .i64 0,.int .i64 0,.slice none 0 0,.string ⟨#[]⟩]).cells.size=6:=by kernel_rfl
theorem Tryz.infoPc:(Tryz.prog.info? 42).map (fun i=>(i.zero,i.size,i.bytes))=some (some (.agg #[.string ⟨#[]⟩,.int .i64 0,.slice none 0 0,.slice none 0 0]),4,72):=by kernel_rfl
theorem Tryz.zsPc:(Value.agg #[.string ⟨#[]⟩,.int .i64 0,.slice none 0 0,.slice none 0 0]).cells.size=4:=by kernel_rfl
theorem Tryz.infoMt:(Tryz.prog.info? 176).map (fun i=>(i.zero,i.size,i.bytes))=some (some (.agg #[.int .i64 0,.int .i64 0,.int .i64 0,.int .i64 0,.slice none 0 0,.string ⟨#[]⟩,.slice none 0 0]),7,96):=by kernel_rfl
theorem Tryz.zsMt:(Value.agg #[.int .i64 0,.int .i64 0,.int .i64 0,.int .i64 0,.slice none 0 0,.string ⟨#[]⟩,.slice none 0 0]).cells.size=7:=by kernel_rfl
theorem ydl (y:EnR):∀u∈fEn y,u.oneCell'=true:=fun u hu=>by
 simp only [fEn,List.mem_cons,List.not_mem_nil,or_false] at hu;rcases hu with rfl |rfl |rfl |rfl |rfl |rfl<;>rfl
theorem fPc_one (y:PcR):∀u∈fPc y,u.oneCell'=true:=fun u hu=>by
 simp only [fPc,List.mem_cons,List.not_mem_nil,or_false] at hu;rcases hu with rfl |rfl |rfl |rfl<;>rfl
theorem fMt_one (y:MtR):∀u∈fMt y,u.oneCell'=true:=fun u hu=>by
 simp only [fMt,fEn,List.cons_append,List.nil_append,List.mem_cons,List.not_mem_nil,or_false] at hu;rcases hu with rfl |rfl |rfl |rfl |rfl |rfl |rfl<;>rfl
theorem yda {P:Program} {w:World} {α:Type} {f:α→List Value} {s:Nat} (hs:∀x,(f x).length=s) (hs0:0 < s) {ops:Array Oper} {o:Oper} {a:Act} {K:Act→World→Prop} {Q:Exit→Act→World→Prop} {E:Prop} (hgd:o.guard=none) (sl x:Operand) (t:TypeId)
 (ho:o.op= .call {callee:= .builtin .append,args:=#[sl,x],argTypes:=#[t,t]})
 (e:TypeId) (i:TypeInfo) (z:Value) (bytes:Nat) (ht:P.underlying t=some (.slice e)) (hi:P.info? e=some i) (hz:i.zero=some z)
 (hsize:i.size=s) (hby:i.bytes=bytes) (hzs:z.cells.size=s) (v:Value) (hsl:a.eval sl=v) (xs:List α) (base:Nat) (hown:OwnN f s e w base v xs)
 (ys:List α) (hr:∃B A m c,a.eval x= .slice A m c∧SlN f s w B A m ys) (h1:∀y,∀u∈f y,u.oneCell'=true) (hbytes:(xs.length+ys.length)*bytes≤140737488355328) (hmax:xs.length+ys.length≤maxLen) (hbase:base≤w.heap.size)
 (h:∀A' n' c' w',Hid (OwnN f s e w' base (.slice A' n' c') (xs++ys))→Hid (w.grownBy w' v.ownBlock)→Hid ((Value.slice A' n' c').ownBlock=v.ownBlock∨∃g,(Value.slice A' n' c').ownBlock=some g∧w.heap.size≤g)→K (a.put o.dst (.slice A' n' c')) w'):
 if Region.wanted o (yielded ops a.tmps)=true then Oper.wp P o a w K Q else E:=by
 obtain ⟨B,A,m,c,hx,hsl2⟩:=hr;have hm:ys.length=m:=hsl2.1;have hw:Region.wanted o (yielded ops a.tmps)=true:=by simp [Region.wanted,hgd]
 rw [if_pos hw];refine wp_appN hs hs0 sl x t ho e i z bytes ht hi hz hsize hby hzs v xs base hsl hown A m c B ys hx hsl2 h1 (by rw [←hm];exact hbytes) (by rw [←hm];exact hmax) hbase fun v' w' h2 h3 h4=>?_
 obtain ⟨A',c',rfl,_⟩:=h2.shape hs;refine h A' _ c' w' h2 h3 ?_;rcases h4 with h4 |h4
 ·exact .inl h4
 ·exact .inr ⟨_,h4,Nat.le_refl _⟩
theorem OwnN.setJ {α:Type} {f:α→List Value} {s:Nat} {e:TypeId} {w:World} {base g i:Nat} {u v:Value} {xs:List α} (h:OwnN f s e w base v xs) (hg:g < base):OwnN f s e (w.setCell ⟨g,i,none⟩ u) base v xs:=by
 have hb:But (fun k=>k=g) w (w.setCell ⟨g,i,none⟩ u):=But.setCell (p:=fun k=>k=g) (x:=⟨g,i,none⟩) (But.refl _ _) (.inl rfl) _;refine ⟨h.1,?_⟩;rcases h.2 with hn |⟨g',cap,cur,rfl,hbg,hgg,rest⟩
 ·exact .inl hn
 ·exact .inr ⟨g',cap,cur,rfl,hbg,(hb.block g' (Array.getElem?_eq_some_iff.1 hgg).1 om).trans hgg,rest⟩
theorem FrP.setJ {lab:Nat→Rl} {P:Rl→Prop} {w:World} {g i:Nat} {u:Value} (hP:P (lab g)):FrP lab P w (w.setCell ⟨g,i,none⟩ u):=by
 have hb:But (fun k=>k=g) w (w.setCell ⟨g,i,none⟩ u):=But.setCell (p:=fun k=>k=g) (x:=⟨g,i,none⟩) (But.refl _ _) (.inl rfl) _;exact ⟨hb.size,fun k hk hne=>hb.block k hk fun e=>hne (by rw [e];exact hP)⟩
theorem SlN.oneJ {α:Type} {f:α→List Value} {s:Nat} {w:World} {g B:Nat} {t:TypeId} {fr:Nat × Nat} {y:α} (h:w.heap[g]? =some (.cells (f y).toArray t fr)) (hB:g < B):SlN f s w B (some ⟨g,0,none⟩) 1 [y]:=
 ⟨rfl,fun _=>⟨g,0,rfl,hB,fun k y' hy j u hu=>by
   have hk:k=0:=by have:=(List.getElem?_eq_some_iff.1 hy).1;simp at this;exact this
   subst hk;simp at hy;subst hy
   rw [cell_of_row _ _ _ _ _ _ h,Nat.zero_mul,Nat.zero_add,Nat.zero_add,List.getElem?_toArray];exact hu⟩⟩
section
variable {w w':World} {lab:Nat→Rl} {s k kS kM:Nat} {x:Vw} {l:List EnR} {A:Option Addr} {n c:Nat} {mN mS mM:Lit→Value} {has:Int→Int→Bool} {pcs:Int→Int→Int→List PcX} {mts:Int→List (EnR × List Int)}
theorem JSt.app_ent {w1 w4:World} {A4:Option Addr} {n4 c4:Nat} {e:EnR} (h:JSt w lab s k kS kM x l A n c mN mS mM has pcs mts) (hb1:Below w.heap.size w w1) (hO:OwnN fEn 6 55 w4 (s+5) (.slice A4 n4 c4) (l++[e])) (hG:w1.grownBy w4 (Value.slice A n c).ownBlock)
 (hC:(Value.slice A4 n4 c4).ownBlock=(Value.slice A n c).ownBlock∨∃g,(Value.slice A4 n4 c4).ownBlock=some g∧w1.heap.size≤g):
 w4.heap[s+3]? =some (.cells (cJ x A n c (s+1) (s+2)) 168 (0,0))∧
  JSt (w4.setCell ⟨s+3,7,none⟩ (.slice A4 n4 c4)) (setL lab (.slice A4 n4 c4) .ent) s k kS kM x (l++[e]) A4 n4 c4 mN mS mM has pcs mts∧
  FrP lab (fun r=>r= .ent∨r= .fix 3) w (w4.setCell ⟨s+3,7,none⟩ (.slice A4 n4 c4))∧∀w0,Below s w0 w→Below s w0 (w4.setCell ⟨s+3,7,none⟩ (.slice A4 n4 c4)):=by
 have hz:=h.hi.1;have hz1:=hb1.size;have hf1:FrP lab (fun r=>r= .ent∨r= .fix 3) w w1:=FrP.below hb1;have hf4:FrP lab (fun r=>r= .ent∨r= .fix 3) w w4:=hf1.trans (FrP.grown hG h.ent.2 (.inl rfl));have hf5:FrP lab (fun r=>r= .ent∨r= .fix 3) w (w4.setCell ⟨s+3,7,none⟩ (.slice A4 n4 c4)):=hf4.trans (FrP.setJ (.inr (h.fix 3 om)));have hj1:w1.heap[s+3]? =some (.cells (cJ x A n c (s+1) (s+2)) 168 (0,0)):=(hb1.block _ om).trans h.jd
 have hj4:w4.heap[s+3]? =some (.cells (cJ x A n c (s+1) (s+2)) 168 (0,0)):=(hG.block _ om (fun e1=>by
  have:=(World.ownsRow.lt h.ent.1 _ e1.symm).1
  omega)).trans hj1
 have hj5:=heap_setCell_same w4 _ 7 _ _ (.slice A4 n4 c4) hj4;refine ⟨hj4,JSt.put_ent h hf5 (by simpa using hj5) (OwnN.setJ hO om) ?_,hf5,fun w0 hb=>?_⟩
 ·rcases hC with hC |⟨g,h1,h2⟩
  ·exact .inl hC
  ·exact .inr ⟨g,h1,Nat.le_trans hz1 h2⟩
 ·have hbw1:Below s w0 w1:=hb.trans (hb1.mono om)
  have hbw4:Below s w0 w4:=hbw1.trans (yaY hG (fun j hj=>by
   have:=(World.ownsRow.lt h.ent.1 _ hj).1
   omega) om)
  exact hbw4.setCell sI _
end
theorem step_mupd {w:World} {kt et mt:TypeId} {b n:Nat} {z:Value} {m:Lit→Value} {ops:Array Oper} {o:Oper} {a:Act} {K:Act→World→Prop} {Q:Exit→Act→World→Prop} {E:Prop} (hgd:o.guard=none) (x y v:Operand) (ho:o.op=Op.mapUpdate mt x y v)
 (hx:a.eval x= .map (some b)) (key val:Value) (hy:a.eval y=key) (hv:a.eval v=val) (hm:MapV w kt b n z m) (KL:Maps.Keyed Tryz.prog kt) (ht:Tryz.prog.underlying mt=some (.map kt et)) (hn:n < maxLen) {l:Lit} (hk:keyOf Tryz.prog kt key=some l)
 (h:∀w',Hid (MapV w' kt b (n+1) z (putM m l val))→Hid (w.grownBy w' (some b))→K (a.put o.dst undef) w'):if Region.wanted o (yielded ops a.tmps)=true then Oper.wp Tryz.prog o a w K Q else E:=by
 have hw:Region.wanted o (yielded ops a.tmps)=true:=by simp [Region.wanted,hgd]
 rw [if_pos hw];obtain ⟨w',hrun,r1,r2⟩:=hm.store KL ht hn hk val;unfold Oper.wp;simp [execOp,ho,hx,hy,hv,hrun,Result.andThen];exact h w' r1 r2
section
variable {w w':World} {lab:Nat→Rl} {s k kS kM:Nat} {x:Vw} {l:List EnR} {A:Option Addr} {n c:Nat} {mN mS mM:Lit→Value} {has:Int→Int→Bool} {pcs:Int→Int→Int→List PcX} {mts:Int→List (EnR × List Int)}
theorem JSt.app_mt {w1 w4:World} {y:Int} {A4:Option Addr} {n4 c4:Nat} {ms:List MtR} {m:MtR} {mts':Int→List (EnR × List Int)} (h:JSt w lab s k kS kM x l A n c mN mS mM has pcs mts) (hy:int64 y) (hb1:Below w.heap.size w w1)
 (hps:ms.map (fun m=>(m.e,m.v))=mts y) (hpk:∀u∈ms,MtK w lab u) (hl:Lab lab (.mt (.int .i64 y)) (mM (.int .i64 y))) (ho0:OwnN fMt 7 176 w (s+5) (mM (.int .i64 y)) ms) (hp:MtK w lab m)
 (hO:OwnN fMt 7 176 w4 (s+5) (.slice A4 n4 c4) (ms++[m])) (hG:w1.grownBy w4 (mM (.int .i64 y)).ownBlock)
 (hC:(Value.slice A4 n4 c4).ownBlock=(mM (.int .i64 y)).ownBlock∨∃g,(Value.slice A4 n4 c4).ownBlock=some g∧w1.heap.size≤g)
 (hn:mts' y=mts y++[(m.e,m.v)]) (hn':∀y',y'≠y→mts' y'=mts y'):
 MapV w4 3 (s+2) kM nilV mM∧FrP lab (fun r=>r= .mt (.int .i64 y)∨r= .fix 2) w w4∧∀w5,w4.grownBy w5 (some (s+2))→MapV w5 3 (s+2) (kM+1) nilV (putM mM (.int .i64 y) (.slice A4 n4 c4))→
  JSt w5 (setL lab (.slice A4 n4 c4) (.mt (.int .i64 y))) s k kS (kM+1) x l A n c mN mS (putM mM (.int .i64 y) (.slice A4 n4 c4)) has pcs mts'∧∀w0,Below s w0 w→Below s w0 w5:=by
 have hz:=h.hi.1;have hz1:=hb1.size;have hf4:FrP lab (fun r=>r= .mt (.int .i64 y)∨r= .fix 2) w w4:=(FrP.below hb1).trans (FrP.grown hG hl (.inl rfl));have hm1:MapV w1 3 (s+2) kM nilV mM:=h.mtm.block (hb1.block _ om)
 have hm4:MapV w4 3 (s+2) kM nilV mM:=hm1.block (hG.block _ om (fun e1=>by
  have:=(World.ownsRow.lt ho0 _ e1.symm).1
  omega))
 refine ⟨hm4,hf4,fun w5 hg5 hm5=>?_⟩;have hf5:FrP lab (fun r=>r= .mt (.int .i64 y)∨r= .fix 2) w w5:=hf4.trans (FrP.blk hg5 (.inr (h.fix 2 om)))
 have hO5:OwnN fMt 7 176 w5 (s+5) (.slice A4 n4 c4) (ms++[m]):=OwnN.kept hO hg5 (.inr (fun e1=>by
  have:=(World.ownsRow.lt hO _ e1).1
  omega))
 refine ⟨JSt.put_mt h hy hps hpk hl hp hf5 hm5 hO5 ?_ hn hn',fun w0 hb=>?_⟩
 ·rcases hC with hC |⟨g,h1,h2⟩
  ·exact .inl hC
  ·exact .inr ⟨g,h1,Nat.le_trans hz1 h2⟩
 ·have hbw1:Below s w0 w1:=hb.trans (hb1.mono om)
  have hbw4:Below s w0 w4:=hbw1.trans (yaY hG (fun j hj=>by
   have:=(World.ownsRow.lt ho0 _ hj).1
   omega) om)
  exact hbw4.trans (yaY hg5 (fun j hj=>by injection hj with hj;omega) (by have:=hf4.le;omega))
end
theorem kI_of {y:Int} (h:int64 y):keyOf Tryz.prog 3 (.int .i64 y)=some (.int .i64 y):=Maps.keyOf_int_mk Tryz.underlying3 h.wf
def Pend (w:World) (kt mt:TypeId) (b n:Nat) (z:Value) (m:Lit→Value) (l:Lit) (st:Nat):Prop:=
 b < w.heap.size∧∀w2:World,w2.heap[b]? =w.heap[b]? →∀v,∃w',(Instr.entryStore mt (.map (some b)) (goInt st) v).run Tryz.prog w2= .ok () w'∧MapV w' kt b (n+1) z (putM m l v)∧w2.grownBy w' (some b)
theorem Pend.block {w w':World} {kt mt:TypeId} {b n:Nat} {z:Value} {m:Lit→Value} {l:Lit} {st:Nat} (h:Pend w kt mt b n z m l st) (hb:w'.heap[b]? =w.heap[b]?):Pend w' kt mt b n z m l st:=
 ⟨by
   have h1:=h.1;have h2:w.heap[b]? =some w.heap[b]:=Array.getElem?_eq_getElem h1;rw [h2] at hb
   exact (Array.getElem?_eq_some_iff.1 hb).1,fun w2 h2 v=>h.2 w2 (h2.trans hb) v⟩
theorem step_mapEntry {w:World} {kt et mt:TypeId} {b n:Nat} {z:Value} {m:Lit→Value} {ops:Array Oper} {o:Oper} {a:Act} {K:Act→World→Prop} {Q:Exit→Act→World→Prop} {E:Prop} (hgd:o.guard=none) (x y:Operand) (ho:o.op=Op.mapEntry mt x y)
 (hx:a.eval x= .map (some b)) (key:Value) (hy:a.eval y=key) (hm:MapV w kt b n z m) (KL:WideMaps.KeyLaw Tryz.prog kt) (ht:Tryz.prog.underlying mt=some (.map kt et)) (hz:∀u:World,(zeroValue et).run Tryz.prog u= .ok z u) (hn:n < maxLen) {l:Lit} (hk:keyOf Tryz.prog kt key=some l)
 (h:∀st w',Hid (Pend w' kt mt b n z m l st)→Hid (w.grownBy w' (some b))→K (a.put o.dst (.tuple #[m l,goInt st])) w'):if Region.wanted o (yielded ops a.tmps)=true then Oper.wp Tryz.prog o a w K Q else E:=by
 have hw:Region.wanted o (yielded ops a.tmps)=true:=by simp [Region.wanted,hgd]
 rw [if_pos hw];have hlt:=hm.lt;obtain ⟨st,es1,ck1,r1,r2⟩:=hm.entry KL ht hz hn hk;obtain ⟨D,⟨es0,ck0,hb0,_⟩,_⟩:=hm;unfold Oper.wp;simp [execOp,ho,hx,hy,r1,Result.andThen];refine h st _ ⟨by simpa [ChangeMaps.setBlock] using hlt,fun w2 h2 v=>r2 w2 v (h2.trans (ChangeMaps.heap_setBlock_same hb0 _))⟩ ⟨rfl,rfl,rfl,by simp [ChangeMaps.setBlock],fun i _ hi=>ChangeMaps.heap_setBlock_other hb0 _ (fun e=>hi (by rw [e]))⟩
theorem step_entryStore {w:World} {kt mt:TypeId} {b n:Nat} {z:Value} {m:Lit→Value} {l:Lit} {st:Nat} {ops:Array Oper} {o:Oper} {a:Act} {K:Act→World→Prop} {Q:Exit→Act→World→Prop} {E:Prop} (hgd:o.guard=none) (x y v:Operand) (ho:o.op=Op.entryStore mt x y v)
 (hx:a.eval x= .map (some b)) (hy:a.eval y=goInt st) (val:Value) (hv:a.eval v=val) (hp:Pend w kt mt b n z m l st)
 (h:∀w',Hid (MapV w' kt b (n+1) z (putM m l val))→Hid (w.grownBy w' (some b))→K (a.put o.dst undef) w'):if Region.wanted o (yielded ops a.tmps)=true then Oper.wp Tryz.prog o a w K Q else E:=by
 have hw:Region.wanted o (yielded ops a.tmps)=true:=by simp [Region.wanted,hgd]
 rw [if_pos hw];obtain ⟨w',hrun,r1,r2⟩:=hp.2 w rfl val;unfold Oper.wp;simp [execOp,ho,hx,hy,hv,hrun,Result.andThen];exact h w' r1 r2
theorem step_look {w:World} {kt et mt:TypeId} {b n:Nat} {z:Value} {m:Lit→Value} {ops:Array Oper} {o:Oper} {a:Act} {K:Act→World→Prop} {Q:Exit→Act→World→Prop} {E:Prop} (hgd:o.guard=none) (x y:Operand) (ho:o.op=Op.lookup mt x y false)
 (hx:a.eval x= .map (some b)) (key:Value) (hy:a.eval y=key) (hm:MapV w kt b n z m) (KL:Maps.Keyed Tryz.prog kt) (ht:Tryz.prog.underlying mt=some (.map kt et)) (hz:(zeroValue et).run Tryz.prog w= .ok z w) {l:Lit} (hk:keyOf Tryz.prog kt key=some l)
 (h:K (a.put o.dst (m l)) w):if Region.wanted o (yielded ops a.tmps)=true then Oper.wp Tryz.prog o a w K Q else E:=by
 have hw:Region.wanted o (yielded ops a.tmps)=true:=by simp [Region.wanted,hgd]
 rw [if_pos hw];have hrun:=hm.look KL ht hz hk;unfold Oper.wp;simp [execOp,ho,hx,hy,hrun,Result.andThen];exact h
theorem cj9 {w:World} {g:Nat} {x:Vw} {A:Option Addr} {n c b1 b2:Nat} {t:TypeId} (h:w.heap[g]? =some (.cells (cJ x A n c b1 b2) t (0,0))):w.cell? ⟨g,9,none⟩=some (.map (some b2)):=by rw [cell_of_row w _ 9 _ _ _ h];rfl
theorem cj8 {w:World} {g:Nat} {x:Vw} {A:Option Addr} {n c b1 b2:Nat} {t:TypeId} (h:w.heap[g]? =some (.cells (cJ x A n c b1 b2) t (0,0))):w.cell? ⟨g,8,none⟩=some (.map (some b1)):=by rw [cell_of_row w _ 8 _ _ _ h];rfl
theorem cj7 {w:World} {g:Nat} {x:Vw} {A:Option Addr} {n c b1 b2:Nat} {t:TypeId} (h:w.heap[g]? =some (.cells (cJ x A n c b1 b2) t (0,0))):w.cell? ⟨g,7,none⟩=some (.slice A n c):=by rw [cell_of_row w _ 7 _ _ _ h];rfl
theorem cen {w:World} {g:Nat} {a b c d:Int} {H:Hd} {p:ByteArray} {t:TypeId} (h:w.heap[g]? =some (.cells #[.int .i64 a,.int .i64 b,.int .i64 c,.int .i64 d,.slice H.a H.n H.c,.string p] t (0,0))):
 w.cell? ⟨g,0,none⟩=some (.int .i64 a)∧w.cell? ⟨g,1,none⟩=some (.int .i64 b)∧w.cell? ⟨g,2,none⟩=some (.int .i64 c)∧w.cell? ⟨g,3,none⟩=some (.int .i64 d)∧w.cell? ⟨g,4,none⟩=some (.slice H.a H.n H.c)∧w.cell? ⟨g,5,none⟩=some (.string p):=by
 refine ⟨?_,?_,?_,?_,?_,?_⟩<;>(rw [cell_of_row w _ _ _ _ _ h];rfl)
theorem c3rows {w:World} {g:Nat} {a b c:Value} {t:TypeId} (h:w.heap[g]? =some (.cells #[a,b,c] t (0,0))):w.cell? ⟨g,0,none⟩=some a∧w.cell? ⟨g,1,none⟩=some b∧w.cell? ⟨g,2,none⟩=some c:=by
 refine ⟨?_,?_,?_⟩<;>(rw [cell_of_row w _ _ _ _ _ h];rfl)
theorem c4rows {w:World} {g:Nat} {a b c d:Value} {t:TypeId} (h:w.heap[g]? =some (.cells #[a,b,c,d] t (0,0))):w.cell? ⟨g,0,none⟩=some a∧w.cell? ⟨g,1,none⟩=some b∧w.cell? ⟨g,2,none⟩=some c∧w.cell? ⟨g,3,none⟩=some d:=by
 refine ⟨?_,?_,?_,?_⟩<;>(rw [cell_of_row w _ _ _ _ _ h];rfl)
section
variable {w w':World} {lab:Nat→Rl} {s k kS kM:Nat} {x:Vw} {l:List EnR} {A:Option Addr} {n c:Nat} {mN mS mM:Lit→Value} {has:Int→Int→Bool} {pcs:Int→Int→Int→List PcX} {mts:Int→List (EnR × List Int)}
theorem JSt.app_pc {w1 w4:World} {d q y:Int} {mt:TypeId} {st:Nat} {A4:Option Addr} {n4 c4:Nat} {ps:List PcR} {p:PcR} {pcs':Int→Int→Int→List PcX} (h:JSt w lab s k kS kM x l A n c mN mS mM has pcs mts) (hd:int64 d) (hq:int64 q) (hy:int64 y)
 (hf1:FrP lab (fun r=>r= .fix 1) w w1) (hb1:Below s w w1) (hpe:Pend w1 173 mt (s+1) kS nilV mS (kR d q y) st)
 (hps:ps.map (·.x)=pcs d q y) (hpk:∀u∈ps,PcK w lab u) (hl:Lab lab (.sh (kR d q y)) (mS (kR d q y))) (ho0:OwnN fPc 4 42 w (s+5) (mS (kR d q y)) ps) (hp:PcK w lab p)
 (hO:OwnN fPc 4 42 w4 (s+5) (.slice A4 n4 c4) (ps++[p])) (hG:w1.grownBy w4 (mS (kR d q y)).ownBlock)
 (hC:(Value.slice A4 n4 c4).ownBlock=(mS (kR d q y)).ownBlock∨∃g,(Value.slice A4 n4 c4).ownBlock=some g∧w1.heap.size≤g)
 (hn:pcs' d q y=pcs d q y++[p.x]) (hn':∀d' q' y',¬(d'=d∧q'=q∧y'=y)→pcs' d' q' y'=pcs d' q' y'):
 Pend w4 173 mt (s+1) kS nilV mS (kR d q y) st∧FrP lab (fun r=>r= .sh (kR d q y)∨r= .fix 1) w w4∧∀w5,w4.grownBy w5 (some (s+1))→MapV w5 173 (s+1) (kS+1) nilV (putM mS (kR d q y) (.slice A4 n4 c4))→
  JSt w5 (setL lab (.slice A4 n4 c4) (.sh (kR d q y))) s k (kS+1) kM x l A n c mN (putM mS (kR d q y) (.slice A4 n4 c4)) mM has pcs' mts∧∀w0,Below s w0 w→Below s w0 w5:=by
 have hz:=h.hi.1;have hz1:=hf1.le;have hf4:FrP lab (fun r=>r= .sh (kR d q y)∨r= .fix 1) w w4:=(hf1.mono (fun r hr=> .inr hr)).trans ⟨hG.size,fun i hi hne=>hG.block i hi (fun e=>hne (.inl (hl i e.symm)))⟩
 have hp4:Pend w4 173 mt (s+1) kS nilV mS (kR d q y) st:=hpe.block (hG.block _ om (fun e1=>by
  have:=(World.ownsRow.lt ho0 _ e1.symm).1
  omega))
 refine ⟨hp4,hf4,fun w5 hg5 hm5=>?_⟩;have hf5:FrP lab (fun r=>r= .sh (kR d q y)∨r= .fix 1) w w5:=hf4.trans (FrP.blk hg5 (.inr (h.fix 1 om)))
 have hO5:OwnN fPc 4 42 w5 (s+5) (.slice A4 n4 c4) (ps++[p]):=OwnN.kept hO hg5 (.inr (fun e1=>by
  have:=(World.ownsRow.lt hO _ e1).1
  omega))
 refine ⟨JSt.put_pc h hd hq hy hps hpk hl hp hf5 hm5 hO5 ?_ hn hn',fun w0 hb=>?_⟩
 ·rcases hC with hC |⟨g,h1,h2⟩
  ·exact .inl hC
  ·exact .inr ⟨g,h1,Nat.le_trans hz1 h2⟩
 ·have hbw1:Below s w0 w1:=hb.trans hb1
  have hbw4:Below s w0 w4:=hbw1.trans (yaY hG (fun j hj=>by
   have:=(World.ownsRow.lt ho0 _ hj).1
   omega) om)
  exact hbw4.trans (yaY hg5 (fun j hj=>by injection hj with hj;omega) (by have:=hf4.le;omega))
end
