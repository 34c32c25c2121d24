import Derived.Test.YtpdledjgbgalcaaGreatDoorPh
namespace Go.Proofs.YtpdledjgbgalcaaGreatDoor
set_option maxRecDepth 100000
set_option maxHeartbeats 4000000
open Go.RowKit Go.Proofs.Tryz
set_option linter.unusedVariables false
set_option linter.unusedSimpArgs false
def AqP (a:AqX) (V:World) (e:Ending) (w':World):Prop:=
 ∃hd hq:Hd,e= .returned (.tuple #[.int .i64 a.d,.int .i64 a.q,.agg #[.string a.x.st,.int .i64 a.x.ix,.slice hd.a hd.n hd.c,.slice hq.a hq.n hq.c],.int .i64 a.er])/\(Sl fB w' w'.heap.size hd.a hd.n a.x.xs/\∀t,hd.a=some t->V.heap.size<=t.block)/\(Sl fT w' w'.heap.size hq.a hq.n a.x.ys/\∀t,hq.a=some t->V.heap.size<=t.block)/\(hd.n<=hd.c/\hq.n<=hq.c)/\Below V.heap.size V w'
def MtP (m:MtX) (V:World) (e:Ending) (w':World):Prop:=
 ∃hv:Hd,e= .returned (.tuple #[.int .i64 m.q,.slice hv.a hv.n hv.c,.int .i64 m.er])/\(Sl I w' w'.heap.size hv.a hv.n m.v/\∀t,hv.a=some t->V.heap.size<=t.block)/\Below V.heap.size V w'
def lab0 (s:Nat):Nat->Rl:=fun i=>if i < s then .fix 9 else if i < s+5 then .fix (i - s) else .dat
theorem lab0_fix (s i:Nat) (h:i < 5):lab0 s (s+i)= .fix i:=by
 unfold lab0;rw [if_neg om,if_pos om,Nat.add_sub_cancel_left]
theorem lab0_dat (s i:Nat) (h:s+5<=i):lab0 s i= .dat:=by
 unfold lab0;rw [if_neg om,if_neg om]
theorem lab0_lo (s i:Nat) (h:i < s):lab0 s i= .fix 9:=by
 unfold lab0;rw [if_pos h]
section
variable {w w':World} {lab:Nat->Rl} {s k kS kM:Nat} {x:Vw} {l:List EnR} {A:Option Addr} {n c:Nat} {mN mS mM:Lit->Value} {has:Int->Int->Bool} {pcs:Int->Int->Int->List PcX} {mts:Int->List (EnR × List Int)}
theorem JSt.fresh (h:JSt w lab s k kS kM x l A n c mN mS mM has pcs mts) {A':Option Addr} (n':Nat) (ha:∀t,A'=some t->w.heap.size<=t.block):DatB lab A' n':=fun _ t e=>h.hi.2 _ (ha t e)
end
abbrev jw1 (x:Vw) (w:World):World:=w.alloc (.cells (cVw x) 29)
abbrev jw5 (x:Vw) (w:World):World:=((((jw1 x w).alloc (.map #[] 0)).alloc (.map #[] 0)).alloc (.cells (cJ x none 0 0 (w.heap.size+1) (w.heap.size+2)) 168)).alloc (.map #[] 0)
theorem jw5_size (x:Vw) (w:World):(jw5 x w).heap.size=w.heap.size+5:=by simp [jw5,jw1]
theorem JSt.init (x:Vw) (w:World):JSt (jw5 x w) (lab0 w.heap.size) w.heap.size 0 0 0 x [] none 0 0 (fun _=> .bool false) (fun _=>nilV) (fun _=>nilV) (fun _ _=>false) (fun _ _ _=>[]) (fun _=>[]):=by
 have G:(jw5 x w).heap[w.heap.size]? =some (.cells (cVw x) 29 (0,0)):=by
  refine (zx _ _ _ ybh).trans ((zx _ _ _ ybh).trans ((zx _ _ _ ybh).trans ((zx _ _ _ sI).trans (zy w _))))
 have J:(jw5 x w).heap[w.heap.size+3]? =some (.cells (cJ x none 0 0 (w.heap.size+1) (w.heap.size+2)) 168 (0,0)):=by
  refine (zx _ _ _ sI).trans ?_;have:=zy (((jw1 x w).alloc (.map #[] 0)).alloc (.map #[] 0)) (.cells (cJ x none 0 0 (w.heap.size+1) (w.heap.size+2)) 168);simpa using this
 have H:MapV (jw5 x w) 173 (w.heap.size+1) 0 nilV (fun _=>nilV):=by
  have:=MapV.made (jw1 x w) 173 nilV;rw [show (jw1 x w).heap.size=w.heap.size+1 by simp] at this;exact this.block ((zx _ _ _ (by first |(simp;done) |(simp;omega))).trans ((zx _ _ _ (by first |(simp;done) |(simp;omega))).trans (zx _ _ _ sI)))
 have L:MapV (jw5 x w) 3 (w.heap.size+2) 0 nilV (fun _=>nilV):=by
  have:=MapV.made ((jw1 x w).alloc (.map #[] 0)) 3 nilV;rw [show ((jw1 x w).alloc (.map #[] 0)).heap.size=w.heap.size+2 by simp] at this;exact this.block ((zx _ _ _ (by first |(simp;done) |(simp;omega))).trans (zx _ _ _ sI))
 have K:MapV (jw5 x w) 171 (w.heap.size+4) 0 (.bool false) (fun _=> .bool false):=by
  have:=MapV.made ((((jw1 x w).alloc (.map #[] 0)).alloc (.map #[] 0)).alloc (.cells (cJ x none 0 0 (w.heap.size+1) (w.heap.size+2)) 168)) 171 (.bool false);rw [show ((((jw1 x w).alloc (.map #[] 0)).alloc (.map #[] 0)).alloc (.cells (cJ x none 0 0 (w.heap.size+1) (w.heap.size+2)) 168)).heap.size=w.heap.size+4 by simp] at this;exact this
 exact ⟨G,J,⟨K,fun _ _ _ _=>rfl⟩,⟨OwnN.nil,Lab.nil _ _⟩,H,fun _ _ _ _ _ _=>RowS.nil,L,fun _ _=>RowM.nil,fun i hi=>lab0_fix _ i hi,fun i hi=>lab0_lo _ i hi,⟨by rw [jw5_size];exact Nat.le_refl _,fun i hi=>lab0_dat _ i (by rw [jw5_size] at hi;exact hi)⟩⟩
def JdP (aq:EnR->AqX) (mt:EnR->MtX) (x:Vw) (es:List EnR) (w:World) (e:Ending) (w':World):Prop:=
 e= .returned (.pointer (some ⟨w.heap.size+3,0,none⟩))/\Below w.heap.size w w'/\∃lab k kS kM A n c mN mS mM,JSt w' lab w.heap.size k kS kM x (frE es) A n c mN mS mM (hasE (frE es)) (pcsE aq (frE es)) (mtsE mt (frE es))
theorem Tryz.infoE:(prog.info? 55).map (fun i=>(i.zero,i.size,i.bytes))=some (some (.agg #[.int .i64 0,.int .i64 0,.int .i64 0,.int .i64 0,.slice none 0 0,.string ⟨#[]⟩]),6,72):=by kernel_rfl
theorem Tryz.zsE:(Value.agg #[.int .i64 0,.int .i64 0,.int .i64 0,.int .i64 0,.slice none 0 0,.string ⟨#[]⟩]).cells.size=6:=by kernel_rfl
theorem Tryz.infoPc:(prog.info? 42).map (fun i=>(i.zero,i.size,i.bytes))=some (some (.agg #[.string ⟨#[]⟩,.int .i64 0,.slice none 0 0,.slice none 0 0]),4,72):=by kernel_rfl
theorem Tryz.zsPc:(Value.agg #[.string ⟨#[]⟩,.int .i64 0,.slice none 0 0,.slice none 0 0]).cells.size=4:=by kernel_rfl
theorem Tryz.infoMt:(prog.info? 176).map (fun i=>(i.zero,i.size,i.bytes))=some (some (.agg #[.int .i64 0,.int .i64 0,.int .i64 0,.int .i64 0,.slice none 0 0,.string ⟨#[]⟩,.slice none 0 0]),7,96):=by kernel_rfl
theorem Tryz.zsMt:(Value.agg #[.int .i64 0,.int .i64 0,.int .i64 0,.int .i64 0,.slice none 0 0,.string ⟨#[]⟩,.slice none 0 0]).cells.size=7:=by kernel_rfl
theorem ydV (y:EnR):∀u∈fEn y,u.oneCell'=true:=fun u hu=>by
 simp only [fEn,List.mem_cons,List.not_mem_nil,or_false] at hu;rcases hu with rfl |rfl |rfl |rfl |rfl |rfl<;>rfl
theorem fPc_one (y:PcR):∀u∈fPc y,u.oneCell'=true:=fun u hu=>by
 simp only [fPc,List.mem_cons,List.not_mem_nil,or_false] at hu;rcases hu with rfl |rfl |rfl |rfl<;>rfl
theorem fMt_one (y:MtR):∀u∈fMt y,u.oneCell'=true:=fun u G=>by
 simp only [fMt,fEn,List.cons_append,List.nil_append,List.mem_cons,List.not_mem_nil,or_false] at G;rcases G with rfl |rfl |rfl |rfl |rfl |rfl |rfl<;>rfl
theorem ydN {P:Program} {w:World} {α:Type} {f:α->List Value} {s:Nat} (hs:∀x,(f x).length=s) (T:0 < s) {ops:Array Oper} {o:Oper} {a:Act} {K:Act->World->Prop} {Q:Exit->Act->World->Prop} {E:Prop} (O:o.guard=none) (sl x:Operand) (t:TypeId)
 (W:o.op= .call {callee:= .builtin .append,args:=#[sl,x],argTypes:=#[t,t]})
 (e:TypeId) (i:TypeInfo) (z:Value) (bytes:Nat) (ht:P.underlying t=some (.slice e)) (hi:P.info? e=some i) (hz:i.zero=some z)
 (hsize:i.size=s) (hby:i.bytes=bytes) (hzs:z.cells.size=s) (v:Value) (hsl:a.eval sl=v) (xs:List α) (base:Nat) (hown:OwnN f s e w base v xs)
 (ys:List α) (hr:∃B A m c,a.eval x= .slice A m c/\SlN f s w B A m ys) (h1:∀y,∀u∈f y,u.oneCell'=true) (hbytes:(xs.length+ys.length)*bytes<=140737488355328) (hmax:xs.length+ys.length<=maxLen) (hbase:base<=w.heap.size)
 (h:∀H n' G J,Hid (OwnN f s e J base (.slice H n' G) (xs++ys))->Hid (w.grownBy J v.ownBlock)->Hid ((Value.slice H n' G).ownBlock=v.ownBlock∨∃g,(Value.slice H n' G).ownBlock=some g/\w.heap.size<=g)->K (a.put o.dst (.slice H n' G)) J):
 if Region.wanted o (yielded ops a.tmps)=true then Oper.wp P o a w K Q else E:=by
 obtain ⟨B,A,m,c,Z,L⟩:=hr;have N:ys.length=m:=L.1;have U:Region.wanted o (yielded ops a.tmps)=true:=by simp [Region.wanted,O]
 rw [if_pos U];refine wp_appN hs T sl x t W e i z bytes ht hi hz hsize hby hzs v xs base hsl hown A m c B ys Z L h1 (by rw [<-N];exact hbytes) (by rw [<-N];exact hmax) hbase fun v' J h2 Y M=>?_;obtain ⟨H,G,rfl,_⟩:=h2.shape hs;refine h H _ G J h2 Y ?_;rcases M with M |M
 ·exact .inl M
 ·exact .inr ⟨_,M,Nat.le_refl _⟩
theorem OwnN.setJ {α:Type} {f:α->List Value} {s:Nat} {e:TypeId} {w:World} {base g i:Nat} {u v:Value} {xs:List α} (h:OwnN f s e w base v xs) (N:g < base):OwnN f s e (w.setCell ⟨g,i,none⟩ u) base v xs:=by
 have M:But (fun k=>k=g) w (w.setCell ⟨g,i,none⟩ u):=But.setCell (p:=fun k=>k=g) (x:=⟨g,i,none⟩) (But.refl _ _) (.inl rfl) _;refine ⟨h.1,?_⟩;rcases h.2 with hn |⟨L,cap,J,rfl,K,G,H⟩
 ·exact .inl hn
 ·exact .inr ⟨L,cap,J,rfl,K,(M.block L (Array.getElem?_eq_some_iff.1 G).1 om).trans G,H⟩
theorem FrP.setJ {G:Nat->Rl} {P:Rl->Prop} {w:World} {g i:Nat} {u:Value} (L:P (G g)):FrP G P w (w.setCell ⟨g,i,none⟩ u):=by
 have J:But (fun k=>k=g) w (w.setCell ⟨g,i,none⟩ u):=But.setCell (p:=fun k=>k=g) (x:=⟨g,i,none⟩) (But.refl _ _) (.inl rfl) _;exact ⟨J.size,fun k K H=>J.block k K fun e=>H (by rw [e];exact L)⟩
theorem SlN.oneJ {α:Type} {f:α->List Value} {s:Nat} {w:World} {g B:Nat} {t:TypeId} {fr:Nat × Nat} {y:α} (h:w.heap[g]? =some (.cells (f y).toArray t fr)) (K:g < B):SlN f s w B (some ⟨g,0,none⟩) 1 [y]:=
 ⟨rfl,fun _=>⟨g,0,rfl,K,fun k L G j u J=>by
   have H:k=0:=by have:=(List.getElem?_eq_some_iff.1 G).1;simp at this;exact this
   subst H;simp at G;subst G
   rw [cell_of_row _ _ _ _ _ _ h,Nat.zero_mul,Nat.zero_add,Nat.zero_add,List.getElem?_toArray];exact J⟩⟩
section
variable {w w':World} {lab:Nat->Rl} {s k kS kM:Nat} {x:Vw} {l:List EnR} {A:Option Addr} {n c:Nat} {mN mS mM:Lit->Value} {has:Int->Int->Bool} {pcs:Int->Int->Int->List PcX} {mts:Int->List (EnR × List Int)}
theorem JSt.app_ent {w1 w4:World} {H:Option Addr} {G c4:Nat} {e:EnR} (h:JSt w lab s k kS kM x l A n c mN mS mM has pcs mts) (J:Below w.heap.size w w1) (hO:OwnN fEn 6 55 w4 (s+5) (.slice H G c4) (l++[e])) (T:w1.grownBy w4 (Value.slice A n c).ownBlock)
 (N:(Value.slice H G c4).ownBlock=(Value.slice A n c).ownBlock∨∃g,(Value.slice H G c4).ownBlock=some g/\w1.heap.size<=g):
 w4.heap[s+3]? =some (.cells (cJ x A n c (s+1) (s+2)) 168 (0,0))/\
  JSt (w4.setCell ⟨s+3,7,none⟩ (.slice H G c4)) (setL lab (.slice H G c4) .ent) s k kS kM x (l++[e]) H G c4 mN mS mM has pcs mts/\
  FrP lab (fun r=>r= .ent∨r= .fix 3) w (w4.setCell ⟨s+3,7,none⟩ (.slice H G c4))/\∀K,Below s K w->Below s K (w4.setCell ⟨s+3,7,none⟩ (.slice H G c4)):=by
 have hz:=h.hi.1;have Y:=J.size;have aa:FrP lab (fun r=>r= .ent∨r= .fix 3) w w1:=FrP.below J;have Z:FrP lab (fun r=>r= .ent∨r= .fix 3) w w4:=aa.trans (FrP.grown T h.ent.2 (.inl rfl));have M:FrP lab (fun r=>r= .ent∨r= .fix 3) w (w4.setCell ⟨s+3,7,none⟩ (.slice H G c4)):=Z.trans (FrP.setJ (.inr (h.fix 3 om)));have W:w1.heap[s+3]? =some (.cells (cJ x A n c (s+1) (s+2)) 168 (0,0)):=(J.block _ om).trans h.jd
 have L:w4.heap[s+3]? =some (.cells (cJ x A n c (s+1) (s+2)) 168 (0,0)):=(T.block _ om (fun e1=>by
  have:=(ol h.ent.1 _ e1.symm).1
  omega)).trans W
 have z:=heap_setCell_same w4 _ 7 _ _ (.slice H G c4) L;refine ⟨L,JSt.put_ent h M (by simpa using z) (OwnN.setJ hO om) ?_,M,fun K hb=>?_⟩
 ·rcases N with N |⟨g,h1,h2⟩
  ·exact .inl N
  ·exact .inr ⟨g,h1,Nat.le_trans Y h2⟩
 ·have O:Below s K w1:=hb.trans (J.mono om)
  have U:Below s K w4:=O.trans (ybm T (fun j hj=>by
   have:=(ol h.ent.1 _ hj).1
   omega) om)
  exact U.setCell sI _
end
theorem step_mupd {w:World} {G et O:TypeId} {b n:Nat} {z:Value} {m:Lit->Value} {ops:Array Oper} {o:Oper} {a:Act} {K:Act->World->Prop} {Q:Exit->Act->World->Prop} {E:Prop} (N:o.guard=none) (x y v:Operand) (Y:o.op=Op.mapUpdate O x y v)
 (hx:a.eval x= .map (some b)) (L J:Value) (hy:a.eval y=L) (Z:a.eval v=J) (W:MapV w G b n z m) (KL:Maps.Keyed prog G) (ht:prog.underlying O=some (.map G et)) (hn:n < maxLen) {l:Lit} (U:keyOf prog G L=some l)
 (h:∀H,Hid (MapV H G b (n+1) z (putM m l J))->Hid (w.grownBy H (some b))->K (a.put o.dst undef) H):if Region.wanted o (yielded ops a.tmps)=true then Oper.wp prog o a w K Q else E:=by
 have T:Region.wanted o (yielded ops a.tmps)=true:=by simp [Region.wanted,N]
 rw [if_pos T];obtain ⟨H,M,r1,r2⟩:=W.store KL ht hn U J;unfold Oper.wp;simp [execOp,Y,hx,hy,Z,M,Result.andThen];exact h H r1 r2
section
variable {w w':World} {lab:Nat->Rl} {s k kS kM:Nat} {x:Vw} {l:List EnR} {A:Option Addr} {n c:Nat} {mN mS mM:Lit->Value} {has:Int->Int->Bool} {pcs:Int->Int->Int->List PcX} {mts:Int->List (EnR × List Int)}
theorem JSt.app_mt {w1 w4:World} {y:Int} {J:Option Addr} {G c4:Nat} {M:List MtR} {m:MtR} {H:Int->List (EnR × List Int)} (h:JSt w lab s k kS kM x l A n c mN mS mM has pcs mts) (hy:int64 y) (L:Below w.heap.size w w1)
 (ak:M.map (fun m=>(m.e,m.v))=mts y) (ai:∀u∈M,MtK w lab u) (hl:Lab lab (.mt (.int .i64 y)) (mM (.int .i64 y))) (U:OwnN fMt 7 176 w (s+5) (mM (.int .i64 y)) M) (hp:MtK w lab m)
 (hO:OwnN fMt 7 176 w4 (s+5) (.slice J G c4) (M++[m])) (Z:w1.grownBy w4 (mM (.int .i64 y)).ownBlock)
 (W:(Value.slice J G c4).ownBlock=(mM (.int .i64 y)).ownBlock∨∃g,(Value.slice J G c4).ownBlock=some g/\w1.heap.size<=g)
 (hn:H y=mts y++[(m.e,m.v)]) (ah:∀y',y'≠y->H y'=mts y'):
 MapV w4 3 (s+2) kM nilV mM/\FrP lab (fun r=>r= .mt (.int .i64 y)∨r= .fix 2) w w4/\∀K,w4.grownBy K (some (s+2))->MapV K 3 (s+2) (kM+1) nilV (putM mM (.int .i64 y) (.slice J G c4))->
  JSt K (setL lab (.slice J G c4) (.mt (.int .i64 y))) s k kS (kM+1) x l A n c mN mS (putM mM (.int .i64 y) (.slice J G c4)) has pcs H/\∀O,Below s O w->Below s O K:=by
 have hz:=h.hi.1;have ac:=L.size;have N:FrP lab (fun r=>r= .mt (.int .i64 y)∨r= .fix 2) w w4:=(FrP.below L).trans (FrP.grown Z hl (.inl rfl));have ae:MapV w1 3 (s+2) kM nilV mM:=h.mtm.block (L.block _ om)
 have af:MapV w4 3 (s+2) kM nilV mM:=ae.block (Z.block _ om (fun e1=>by
  have:=(ol U _ e1.symm).1
  omega))
 refine ⟨af,N,fun K T aj=>?_⟩;have ag:FrP lab (fun r=>r= .mt (.int .i64 y)∨r= .fix 2) w K:=N.trans (FrP.blk T (.inr (h.fix 2 om)))
 have aa:OwnN fMt 7 176 K (s+5) (.slice J G c4) (M++[m]):=OwnN.kept hO T (.inr (fun e1=>by
  have:=(ol hO _ e1).1
  omega))
 refine ⟨JSt.put_mt h hy ak ai hl hp ag aj aa ?_ hn ah,fun O hb=>?_⟩
 ·rcases W with W |⟨g,h1,h2⟩
  ·exact .inl W
  ·exact .inr ⟨g,h1,Nat.le_trans ac h2⟩
 ·have Y:Below s O w1:=hb.trans (L.mono om)
  have z:Below s O w4:=Y.trans (ybm Z (fun j hj=>by
   have:=(ol U _ hj).1
   omega) om)
  exact z.trans (ybm T (fun j hj=>by injection hj with hj;omega) (by have:=N.le;omega))
end
theorem kI_of {y:Int} (h:int64 y):keyOf prog 3 (.int .i64 y)=some (.int .i64 y):=Maps.keyOf_int_mk underlying3 h.wf
def Pend (w:World) (kt mt:TypeId) (b n:Nat) (z:Value) (m:Lit->Value) (l:Lit) (st:Nat):Prop:=
 b < w.heap.size/\∀w2:World,w2.heap[b]? =w.heap[b]? ->∀v,∃w',(Instr.entryStore mt (.map (some b)) (goInt st) v).run prog w2= .ok () w'/\MapV w' kt b (n+1) z (putM m l v)/\w2.grownBy w' (some b)
theorem Pend.block {w J:World} {H K:TypeId} {b n:Nat} {z:Value} {m:Lit->Value} {l:Lit} {st:Nat} (h:Pend w H K b n z m l st) (G:J.heap[b]? =w.heap[b]?):Pend J H K b n z m l st:=
 ⟨by
   have h1:=h.1;have h2:w.heap[b]? =some w.heap[b]:=Array.getElem?_eq_getElem h1;rw [h2] at G
   exact (Array.getElem?_eq_some_iff.1 G).1,fun L h2 v=>h.2 L (h2.trans G) v⟩
theorem step_mapEntry {w:World} {G O L:TypeId} {b n:Nat} {z:Value} {m:Lit->Value} {ops:Array Oper} {o:Oper} {a:Act} {K:Act->World->Prop} {Q:Exit->Act->World->Prop} {E:Prop} (N:o.guard=none) (x y:Operand) (Y:o.op=Op.mapEntry L x y)
 (hx:a.eval x= .map (some b)) (H:Value) (Z:a.eval y=H) (M:MapV w G b n z m) (KL:WideMaps.KeyLaw prog G) (ht:prog.underlying L=some (.map G O)) (U:∀u:World,(zeroValue O).run prog u= .ok z u) (hn:n < maxLen) {l:Lit} (T:keyOf prog G H=some l)
 (h:∀st w',Hid (Pend w' G L b n z m l st)->Hid (w.grownBy w' (some b))->K (a.put o.dst (.tuple #[m l,goInt st])) w'):if Region.wanted o (yielded ops a.tmps)=true then Oper.wp prog o a w K Q else E:=by
 have W:Region.wanted o (yielded ops a.tmps)=true:=by simp [Region.wanted,N]
 rw [if_pos W];have hlt:=M.lt;obtain ⟨st,aa,af,r1,r2⟩:=M.entry KL ht U hn T;obtain ⟨D,⟨ac,ae,J,_⟩,_⟩:=M;unfold Oper.wp;simp [execOp,Y,hx,Z,r1,Result.andThen];refine h st _ ⟨by simpa [ChangeMaps.setBlock] using hlt,fun w2 h2 v=>r2 w2 v (h2.trans (ChangeMaps.heap_setBlock_same J _))⟩ ⟨rfl,rfl,rfl,by simp [ChangeMaps.setBlock],fun i _ hi=>ChangeMaps.heap_setBlock_other J _ (fun e=>hi (by rw [e]))⟩
theorem step_entryStore {w:World} {M N:TypeId} {b n:Nat} {z:Value} {m:Lit->Value} {l:Lit} {st:Nat} {ops:Array Oper} {o:Oper} {a:Act} {K:Act->World->Prop} {Q:Exit->Act->World->Prop} {E:Prop} (L:o.guard=none) (x y v:Operand) (T:o.op=Op.entryStore N x y v)
 (Y:a.eval x= .map (some b)) (W:a.eval y=goInt st) (H:Value) (U:a.eval v=H) (hp:Pend w M N b n z m l st)
 (h:∀G,Hid (MapV G M b (n+1) z (putM m l H))->Hid (w.grownBy G (some b))->K (a.put o.dst undef) G):if Region.wanted o (yielded ops a.tmps)=true then Oper.wp prog o a w K Q else E:=by
 have O:Region.wanted o (yielded ops a.tmps)=true:=by simp [Region.wanted,L]
 rw [if_pos O];obtain ⟨G,J,r1,r2⟩:=hp.2 w rfl H;unfold Oper.wp;simp [execOp,T,Y,W,U,J,Result.andThen];exact h G r1 r2
theorem step_look {w:World} {G M N:TypeId} {b n:Nat} {z:Value} {m:Lit->Value} {ops:Array Oper} {o:Oper} {a:Act} {K:Act->World->Prop} {Q:Exit->Act->World->Prop} {E:Prop} (L:o.guard=none) (x y:Operand) (W:o.op=Op.lookup N x y false)
 (Z:a.eval x= .map (some b)) (H:Value) (Y:a.eval y=H) (U:MapV w G b n z m) (KL:Maps.Keyed prog G) (ht:prog.underlying N=some (.map G M)) (hz:(zeroValue M).run prog w= .ok z w) {l:Lit} (T:keyOf prog G H=some l)
 (h:K (a.put o.dst (m l)) w):if Region.wanted o (yielded ops a.tmps)=true then Oper.wp prog o a w K Q else E:=by
 have O:Region.wanted o (yielded ops a.tmps)=true:=by simp [Region.wanted,L]
 rw [if_pos O];have J:=U.look KL ht hz T;unfold Oper.wp;simp [execOp,W,Z,Y,J,Result.andThen];exact h
theorem cj9 {w:World} {g:Nat} {x:Vw} {A:Option Addr} {n c H G:Nat} {t:TypeId} (h:w.heap[g]? =some (.cells (cJ x A n c H G) t (0,0))):w.cell? ⟨g,9,none⟩=some (.map (some G)):=by rw [cell_of_row w _ 9 _ _ _ h];rfl
theorem cj8 {w:World} {g:Nat} {x:Vw} {A:Option Addr} {n c G H:Nat} {t:TypeId} (h:w.heap[g]? =some (.cells (cJ x A n c G H) t (0,0))):w.cell? ⟨g,8,none⟩=some (.map (some G)):=by rw [cell_of_row w _ 8 _ _ _ h];rfl
theorem cj7 {w:World} {g:Nat} {x:Vw} {A:Option Addr} {n c H G:Nat} {t:TypeId} (h:w.heap[g]? =some (.cells (cJ x A n c H G) t (0,0))):w.cell? ⟨g,7,none⟩=some (.slice A n c):=by rw [cell_of_row w _ 7 _ _ _ h];rfl
theorem cen {w:World} {g:Nat} {a b c d:Int} {H:Hd} {p:ByteArray} {t:TypeId} (h:w.heap[g]? =some (.cells #[.int .i64 a,.int .i64 b,.int .i64 c,.int .i64 d,.slice H.a H.n H.c,.string p] t (0,0))):
 w.cell? ⟨g,0,none⟩=some (.int .i64 a)/\w.cell? ⟨g,1,none⟩=some (.int .i64 b)/\w.cell? ⟨g,2,none⟩=some (.int .i64 c)/\w.cell? ⟨g,3,none⟩=some (.int .i64 d)/\w.cell? ⟨g,4,none⟩=some (.slice H.a H.n H.c)/\w.cell? ⟨g,5,none⟩=some (.string p):=by
 refine ⟨?_,?_,?_,?_,?_,?_⟩<;>(rw [cell_of_row w _ _ _ _ _ h];rfl)
theorem c3rows {w:World} {g:Nat} {a b c:Value} {t:TypeId} (h:w.heap[g]? =some (.cells #[a,b,c] t (0,0))):w.cell? ⟨g,0,none⟩=some a/\w.cell? ⟨g,1,none⟩=some b/\w.cell? ⟨g,2,none⟩=some c:=by
 refine ⟨?_,?_,?_⟩<;>(rw [cell_of_row w _ _ _ _ _ h];rfl)
theorem c4rows {w:World} {g:Nat} {a b c d:Value} {t:TypeId} (h:w.heap[g]? =some (.cells #[a,b,c,d] t (0,0))):w.cell? ⟨g,0,none⟩=some a/\w.cell? ⟨g,1,none⟩=some b/\w.cell? ⟨g,2,none⟩=some c/\w.cell? ⟨g,3,none⟩=some d:=by
 refine ⟨?_,?_,?_,?_⟩<;>(rw [cell_of_row w _ _ _ _ _ h];rfl)
section
variable {w w':World} {lab:Nat->Rl} {s k kS kM:Nat} {x:Vw} {l:List EnR} {A:Option Addr} {n c:Nat} {mN mS mM:Lit->Value} {has:Int->Int->Bool} {pcs:Int->Int->Int->List PcX} {mts:Int->List (EnR × List Int)}
theorem JSt.app_pc {w1 w4:World} {d q y:Int} {Z:TypeId} {st:Nat} {J:Option Addr} {H c4:Nat} {ps:List PcR} {p:PcR} {G:Int->Int->Int->List PcX} (h:JSt w lab s k kS kM x l A n c mN mS mM has pcs mts) (hd:int64 d) (hq:int64 q) (hy:int64 y)
 (U:FrP lab (fun r=>r= .fix 1) w w1) (am:Below s w w1) (ae:Pend w1 173 Z (s+1) kS nilV mS (kR d q y) st)
 (al:ps.map (·.x)=pcs d q y) (ai:∀u∈ps,PcK w lab u) (hl:Lab lab (.sh (kR d q y)) (mS (kR d q y))) (T:OwnN fPc 4 42 w (s+5) (mS (kR d q y)) ps) (hp:PcK w lab p)
 (hO:OwnN fPc 4 42 w4 (s+5) (.slice J H c4) (ps++[p])) (O:w1.grownBy w4 (mS (kR d q y)).ownBlock)
 (W:(Value.slice J H c4).ownBlock=(mS (kR d q y)).ownBlock∨∃g,(Value.slice J H c4).ownBlock=some g/\w1.heap.size<=g)
 (hn:G d q y=pcs d q y++[p.x]) (ah:∀d' q' y',¬(d'=d/\q'=q/\y'=y)->G d' q' y'=pcs d' q' y'):
 Pend w4 173 Z (s+1) kS nilV mS (kR d q y) st/\FrP lab (fun r=>r= .sh (kR d q y)∨r= .fix 1) w w4/\∀K,w4.grownBy K (some (s+1))->MapV K 173 (s+1) (kS+1) nilV (putM mS (kR d q y) (.slice J H c4))->
  JSt K (setL lab (.slice J H c4) (.sh (kR d q y))) s k (kS+1) kM x l A n c mN (putM mS (kR d q y) (.slice J H c4)) mM has G mts/\∀M,Below s M w->Below s M K:=by
 have hz:=h.hi.1;have af:=U.le;have L:FrP lab (fun r=>r= .sh (kR d q y)∨r= .fix 1) w w4:=(U.mono (fun r hr=> .inr hr)).trans ⟨O.size,fun i hi aa=>O.block i hi (fun e=>aa (.inl (hl i e.symm)))⟩
 have ak:Pend w4 173 Z (s+1) kS nilV mS (kR d q y) st:=ae.block (O.block _ om (fun e1=>by
  have:=(ol T _ e1.symm).1
  omega))
 refine ⟨ak,L,fun K N aj=>?_⟩;have ag:FrP lab (fun r=>r= .sh (kR d q y)∨r= .fix 1) w K:=L.trans (FrP.blk N (.inr (h.fix 1 om)))
 have ac:OwnN fPc 4 42 K (s+5) (.slice J H c4) (ps++[p]):=OwnN.kept hO N (.inr (fun e1=>by
  have:=(ol hO _ e1).1
  omega))
 refine ⟨JSt.put_pc h hd hq hy al ai hl hp ag aj ac ?_ hn ah,fun M hb=>?_⟩
 ·rcases W with W |⟨g,h1,h2⟩
  ·exact .inl W
  ·exact .inr ⟨g,h1,Nat.le_trans af h2⟩
 ·have Y:Below s M w1:=hb.trans am
  have z:Below s M w4:=Y.trans (ybm O (fun j hj=>by
   have:=(ol T _ hj).1
   omega) om)
  exact z.trans (ybm N (fun j hj=>by injection hj with hj;omega) (by have:=L.le;omega))
end
open Go.RowKit Go.Lib
def JdR (aq:EnR->AqX) (mt:EnR->MtX) (x:Vw) (es:List EnR) (w wr:World) (k:Nat):Prop:=
 Below w.heap.size w wr/\∃lab A n c mN mS mM,JSt wr lab w.heap.size k k k x (frE (es.take k)) A n c mN mS mM (hasE (frE (es.take k))) (pcsE aq (frE (es.take k))) (mtsE mt (frE (es.take k)))
theorem judge_any (U:EnR->AqX) (N:EnR->MtX) (x:Vw) (G:List EnR) (B:Nat) (w:World) (hE:EnIn w B x.E.a x.E.n G) (hB:B<=w.heap.size) (hn:x.E.n<=1000)
 (hA:∀e∈G,e.k=7->(∀V,Below w.heap.size w V->Calls prog 103 #[.agg (fEn e).toArray] V (AqP (U e) V))/\int64 (U e).d/\int64 (U e).q)
 (hM:∀e∈G,e.k=9->∀V,Below w.heap.size w V->Calls prog 35 #[.agg (fEn e).toArray] V (MtP (N e) V)):
 Calls prog 50 #[.agg (cVw x)] w (JdP U N x G w):=by
 obtain ⟨⟨EA,En,Ec⟩,VV,PP,xb,xh,DD,FF⟩:=x;obtain ⟨X,hX⟩:∃X:Vw,X=⟨⟨EA,En,Ec⟩,VV,PP,xb,xh,DD,FF⟩:=⟨_,rfl⟩
 have bW:=lh hX;have HE:Hid (EnIn w B EA En G):=hE;have cm:=lh hB;have cc:Hid (G.length=En):=hE.1.1;have HA:=lh hA;have HM:=lh hM;have bT:=lh (JSt.init X w);have bJ:Hid (Below w.heap.size w (jw5 X w)):=((((bl.alloc sI _).alloc ybh _).alloc ybh _).alloc ybh _);obtain ⟨i0,aj,ah,af,ak⟩:=info_parts Tryz.infoE;have aD:=lh aj;have ar:=lh ah;have ax:=lh af;have az:=lh ak;have ck:= @run_makeMap prog;clear aj ah af ak;clear hE hB hA hM hX;go_enter func50,ntmps50;go_upto_region 4 with fail
 clear ck
 go_loopw [25] (fun i wr=>∃k:Nat,k<=En/\i= .int .i64 k/\Hid (JdR U N X G w wr k)) (fun i _=>En - (intOf i).toNat)
 case atStart=>
  have h:=bW.out;subst h;exact ⟨0,Nat.zero_le _,rfl,bJ.out,_,_,_,_,_,_,_,bT.out⟩
 case round=>
  clear bT bJ;obtain ⟨k,hk,rfl,HR⟩:=hrel
  by_cases hlt:k < En
  ·obtain ⟨aI,aO,A,n,c,mN,mS,mM,hJ⟩:=HR.out;clear HR;obtain ⟨b,L,e,rfl,cv,he,aB⟩:=(HE.out.up aI cm.out).1.at_ hlt;have cy:(k:Int) < (En:Int):=by omega
   obtain ⟨dv,sq,ek,dy,bd,pr,bs⟩:=e;have ca:wr.cell? ⟨b,L+k*6,none⟩=some (.int .i64 dv):=by rw [show L+k*6=L+(k*6+0) by omega];exact aB 0 _ rfl
   have cn:wr.cell? ⟨b,L+k*6+1,none⟩=some (.int .i64 sq):=by rw [show L+k*6+1=L+(k*6+1) by omega];exact aB 1 _ rfl
   have b5:wr.cell? ⟨b,L+k*6+2,none⟩=some (.int .i64 ek):=by rw [show L+k*6+2=L+(k*6+2) by omega];exact aB 2 _ rfl
   have cb:wr.cell? ⟨b,L+k*6+3,none⟩=some (.int .i64 dy):=by rw [show L+k*6+3=L+(k*6+3) by omega];exact aB 3 _ rfl
   have b6:wr.cell? ⟨b,L+k*6+4,none⟩=some (.slice bd.a bd.n bd.c):=by rw [show L+k*6+4=L+(k*6+4) by omega];exact aB 4 _ rfl
   have b8:wr.cell? ⟨b,L+k*6+5,none⟩=some (.string pr):=by rw [show L+k*6+5=L+(k*6+5) by omega];exact aB 5 _ rfl
   have HG:=lh he;have HJ:=lh hJ;have br:=lh aI;have bz:=lh (HE.out.2 _ (List.mem_of_getElem? he));have HS5:Hid (w.heap.size+5<=wr.heap.size):=hJ.hi.1;clear aB he hJ aI;go_upto_region 7 with fail
   obtain ⟨W2,hW⟩:∃W2:World,W2=(wr.alloc (.cells #[.int .i64 dv,.int .i64 sq,.int .i64 ek,.int .i64 dy,.slice bd.a bd.n bd.c,.string pr] 55)).alloc (.cells #[.int .i64 dv,.int .i64 sq] 171):=⟨_,rfl⟩
   have bu:W2.heap[wr.heap.size]? =some (.cells #[.int .i64 dv,.int .i64 sq,.int .i64 ek,.int .i64 dy,.slice bd.a bd.n bd.c,.string pr] 55 (0,0)):=by rw [hW];exact (zx _ _ _ sI).trans (zy wr _)
   have bq:W2.heap[wr.heap.size+1]? =some (.cells #[.int .i64 dv,.int .i64 sq] 171 (0,0)):=by
    rw [hW];have:=zy (wr.alloc (.cells #[.int .i64 dv,.int .i64 sq,.int .i64 ek,.int .i64 dy,.slice bd.a bd.n bd.c,.string pr] 55)) (.cells #[.int .i64 dv,.int .i64 sq] 171);simpa using this
   have bw:Below wr.heap.size wr W2:=by rw [hW];exact bl.alloc sI _
   have bp:W2.heap.size=wr.heap.size+2:=by rw [hW];simp
   rw [<-hW];have a1:Hid (Below w.heap.size w W2):=bt br.out bw;have aH:=lh (HJ.out.on bw);have bM:Hid (aO wr.heap.size= .dat):=HJ.out.hi.2 _ nl;have bx:=lh bu;have bj:=lh bp;have bY:=zz W2 _ 0 _ _ _ bu;have bK:=zz W2 _ 0 _ _ _ bq;have bA:=zz W2 _ 1 _ _ _ bq;simp at bY bK bA;have aJ:int64 dv:=bz.out.2.2.2.2.1;have aK:int64 sq:=bz.out.2.2.2.2.2;have Y:=lh aJ;have bH:=lh aK;have ae:=aH.out.seen.1.look (Maps.Keyed.of_law Num.law) underlying169 (Num.zero W2) (kN_of aJ aK);rw [aH.out.seen.2 dv sq aJ aK] at ae;unfold pN at ae;clear ca cn b5 cb b6 b8 hW bu bq bw HJ bp aJ aK bY
   cases hs:hasE (frE (G.take k)) dv sq with
   |true=>
    rw [hs] at ae;have W:Hid (frE (G.take (k+1))=frE (G.take k)):=by show _=_;rw [ydM HG.out];exact putE_yes hs
    clear hs;go_wp2;refine ⟨?rel,?measure⟩;case rel=>exact ⟨k+1,by omega,by go_num,a1.out,by rw [W.out];exact ⟨_,_,_,_,_,_,_,aH.out.more (Nat.le_succ k) (Nat.le_succ k) (Nat.le_succ k)⟩⟩
    case measure=>simp [intOf];omega
   |false=>
    rw [hs] at ae;have W:Hid (frE (G.take (k+1))=frE (G.take k)++[⟨dv,sq,ek,dy,bd,pr,bs⟩]):=by show _=_;rw [ydM HG.out];exact putE_no hs
    obtain ⟨W3,r1,bX,aN⟩:=aH.out.seen.1.store (Maps.Keyed.of_law Num.law) underlying169 ybd (kN_of Y.out bH.out) (.bool true);unfold pN at r1;have aC:=lh (aH.out.note Y.out bH.out aN bX);have bm:Hid (wr.heap.size+2<=W3.heap.size):=by have h1:=aN.size;have h2:=bj.out;show _<=_;omega
    have aa:Hid (W3.heap[wr.heap.size]? =some (.cells #[.int .i64 dv,.int .i64 sq,.int .i64 ek,.int .i64 dy,.slice bd.a bd.n bd.c,.string pr] 55 (0,0))):=(aN.block _ (lb bx.out) (fun e=>by injection e with e;have:=HS5.out;omega)).trans bx.out;have bQ:Hid (Below w.heap.size w W3):=a1.out.trans (ybm aN (fun j hj=>by injection hj with hj;omega) a1.out.size)
    have bV:Hid ((fun d' q'=>hasE (frE (G.take k)) d' q'||(decide (d'=dv)&&decide (q'=sq)))=hasE (frE (G.take (k+1)))):=by
     show _=_
     funext d' q'
     rw [W.out,hasE_snoc];simp [eq_comm]
    clear hs bX aN aH a1;go_upto_region 9 with fail
    clear ae r1 bK bA;have bE:=zz W3 _ 7 _ _ _ aC.out.jd;have y0:=zz W3 _ 0 _ _ _ aa.out;have y1:=zz W3 _ 1 _ _ _ aa.out;have y2:=zz W3 _ 2 _ _ _ aa.out;have y3:=zz W3 _ 3 _ _ _ aa.out;have y4:=zz W3 _ 4 _ _ _ aa.out;have y5:=zz W3 _ 5 _ _ _ aa.out;simp at bE y0 y1 y2 y3 y4 y5;have bo:(frE (G.take k)).length<=k:=ydp G k;have ap:Hid (((frE (G.take k)).length+[(⟨dv,sq,ek,dy,bd,pr,bs⟩:EnR)].length)*72<=140737488355328):=by show _<=_;simp;omega
    have ay:Hid ((frE (G.take k)).length+[(⟨dv,sq,ek,dy,bd,pr,bs⟩:EnR)].length<=maxLen):=by show _<=_;unfold maxLen;simp;omega
    have b9:=bm.out;have cw:=HS5.out
    go_cut [] from 39 to 107 (fun wx=>∃aO A n c,aO wr.heap.size= .dat/\Below w.heap.size w wx/\wr.heap.size+2<=wx.heap.size/\wx.heap[wr.heap.size]? =some (.cells #[.int .i64 dv,.int .i64 sq,.int .i64 ek,.int .i64 dy,.slice bd.a bd.n bd.c,.string pr] 55 (0,0))/\JSt wx aO w.heap.size (k+1) k k X (frE (G.take (k+1))) A n c (putM mN (kN dv sq) (.bool true)) mS mM (hasE (frE (G.take (k+1)))) (pcsE U (frE (G.take k))) (mtsE N (frE (G.take k))))
    case first=>
     have cq:∀o,(W3.alloc o).cell? ⟨w.heap.size+3,7,none⟩=some (.slice A n c):=fun o=>by rw [cell_of_row (W3.alloc o) _ 7 _ _ _ ((zx W3 o _ (lb aC.out.jd)).trans aC.out.jd)];rfl
     go_region_law (first |((refine ydN ycz om rfl (.tmp 43) (.tmp 45) 22 rfl 55 i0 _ 72 underlying22 aD.out ar.out ax.out az.out Tryz.zsE (.slice A n c) rfl (frE (G.take k)) (w.heap.size+5) ?_ [⟨dv,sq,ek,dy,bd,pr,bs⟩] ?_ ydV ap.out ay.out ?_ ?_);(repeat (first |exact aC.out.ent.1 |refine OwnN.drewN ?_ _ |refine OwnN.drew ?_ |refine OwnN.alloc ?_ _));(exact ⟨_,_,1,1,rfl,SlN.oneJ (f:=fEn) (y:=⟨dv,sq,ek,dy,bd,pr,bs⟩) (zy _ _) (Nat.lt_succ_self _)⟩);(simp;omega);(intro A4 n4 c4 w4 au aw ag;(have HP:=lh (aC.out.app_ent (by first |exact (Below.drew bR).alloc nl _ |exact Below.drew bl) au.out aw.out ag.out));(have cz:w4.cell? ⟨w.heap.size+3,7,none⟩=some (.slice A n c):=(by rw [cell_of_row w4 _ 7 _ _ _ HP.out.1];rfl));(have cx:w4.frozen? ⟨w.heap.size+3,7,none⟩=false:=frozen_of_row w4 _ _ _ _ HP.out.1))))
     all_goals
      have bv:=HP.out.2.1;rw [bV.out,<-W.out] at bv;have cp:=lh bv;clear bv;go_wp2_with fail;go_meet;case rel=>exact ⟨_,_,_,_,(ycy (n:=W3.heap.size) (ag.out.imp id (fun ⟨g,g1,g2⟩=>⟨g,g1,Nat.le_trans sI g2⟩)) aC.out.ent.2 (lb aa.out)).trans bM.out,HP.out.2.2.2 _ bQ.out,Nat.le_trans bm.out HP.out.2.2.1.le,(HP.out.2.2.1.same _ (lb aa.out) (by rw [bM.out];simp)).trans aa.out,cp.out⟩
    case rest=>
     clear aC aa bQ bm aD ar ax az ap ay bV bE y0 y1 y2 y3 y4 y5 bo b9;obtain ⟨am,A2,n2,c2,bi,bS,bC,ai,bB⟩:=hcut;have bh:=lh bi;clear bi;have HB6:=lh bS;have bG:=lh bC;have bL:=lh ai;have Z:=lh bB;have y0:=zz wc _ 0 _ _ _ ai;have y1:=zz wc _ 1 _ _ _ ai;have y2:=zz wc _ 2 _ _ _ ai;have y3:=zz wc _ 3 _ _ _ ai;have y4:=zz wc _ 4 _ _ _ ai;have y5:=zz wc _ 5 _ _ _ ai;simp at y0 y1 y2 y3 y4 y5;have aL:(⟨dv,sq,ek,dy,bd,pr,bs⟩:EnR)∈G:=List.mem_of_getElem? HG.out;clear bS bC ai bB
     by_cases h7:ek=7
     ·subst h7;obtain ⟨bF,bU,bO⟩:=HA.out _ aL rfl;have HQ:=lh bF;have aZ:=lh bU;have a3:=lh bO;clear bF bU bO aL;have aF:Hid (mtsE N (frE (G.take (k+1)))=mtsE N (frE (G.take k))):=by show _=_;rw [W.out];exact mtsE_same N (fun g=>by have:=g.1;simp at this)
      obtain ⟨a,ha⟩:∃a:AqX,U ⟨dv,sq,7,dy,bd,pr,bs⟩=a:=⟨_,rfl⟩
      rw [ha] at HQ aZ a3;have HAE:=lh ha;clear ha
      by_cases h0:a.er=0
      ·
       have bk:(a.er==0)=true:=by simp [h0]
       have a0:Hid (pcsE U (frE (G.take (k+1))) a.d a.q dv=pcsE U (frE (G.take k)) a.d a.q dv++[a.x]):=by
        show _=_;have:=pcsE_put U (l:=frE (G.take k)) (e:=⟨dv,sq,7,dy,bd,pr,bs⟩) rfl (by rw [HAE.out];exact h0);rw [HAE.out] at this;rw [W.out];exact this
       have aY:Hid (∀d' q' y',¬(d'=a.d/\q'=a.q/\y'=dv)->pcsE U (frE (G.take (k+1))) d' q' y'=pcsE U (frE (G.take k)) d' q' y'):=fun d' q' y' be=>by
        rw [W.out];exact pcsE_far U (e:=⟨dv,sq,7,dy,bd,pr,bs⟩) (by rw [HAE.out];exact be)
       obtain ⟨i1,aj,ah,af,ak⟩:=info_parts Tryz.infoPc;have aD:=lh aj;have ar:=lh ah;have ax:=lh af;have az:=lh ak;have bo:(frE (G.take k)).length<=k:=ydp G k;have hml:(pcsE U (frE (G.take k)) a.d a.q dv).length<=(frE (G.take k)).length:=List.length_filterMap_le _ _;clear h0 aj ah af ak;go_upto_region 15 with (go_at_call 103;(with_reducible refine (HQ.out _ HB6.out).mono ?_);rintro e M ⟨hd,J,rfl,⟨s1,f1⟩,⟨s2,f2⟩,a8,z⟩;(have ch:∀o,(M.alloc o).cell? ⟨wr.heap.size,0,none⟩=some (.int .i64 dv):=fun o=>((z.alloc z.size o).cell (by have:=bG.out;simp;omega)).trans y0);(have HB7:=lh z);(have HS1:=lh s1);(have bj:=lh s2);(have cf:=lh f1);(have co:=lh f2);(have cd:=lh a8);clear s1 f1 s2 f2 a8 z)
       obtain ⟨W8,hW⟩:∃W8:World,W8=(M.alloc (.cells #[.string a.x.st,.int .i64 a.x.ix,.slice hd.a hd.n hd.c,.slice J.a J.n J.c] 42)).alloc (.cells #[.int .i64 a.d,.int .i64 a.q,.int .i64 dv] 173):=⟨_,rfl⟩
       have bg:Below M.heap.size M W8:=by rw [hW];exact bl.alloc sI _
       have bI:W8.heap[M.heap.size]? =some (.cells #[.string a.x.st,.int .i64 a.x.ix,.slice hd.a hd.n hd.c,.slice J.a J.n J.c] 42 (0,0))/\W8.heap[M.heap.size+1]? =some (.cells #[.int .i64 a.d,.int .i64 a.q,.int .i64 dv] 173 (0,0)):=by
        rw [hW];refine ⟨(zx _ _ _ sI).trans (zy M _),?_⟩;have:=zy (M.alloc (.cells #[.string a.x.st,.int .i64 a.x.ix,.slice hd.a hd.n hd.c,.slice J.a J.n J.c] 42)) (.cells #[.int .i64 a.d,.int .i64 a.q,.int .i64 dv] 173);simpa using this
       rw [<-hW];have T:=lh bI;have bP:Hid (Below wc.heap.size wc W8):=bt HB7.out bg;have O:=lh (Z.out.on bP.out);have a6:Hid (PcK W8 am ⟨a.x,hd,J⟩):=PcK.fr (P:=fun _=>False) ⟨⟨HS1.out,Z.out.fresh _ cf.out⟩,⟨bj.out,Z.out.fresh _ co.out⟩,cd.out⟩ (FrP.below bg) (fun h=>h);have a5:Hid (am M.heap.size= .dat/\am (M.heap.size+1)= .dat):=⟨Z.out.hi.2 _ HB7.out.size,Z.out.hi.2 _ (Nat.le_succ_of_le HB7.out.size)⟩;obtain ⟨ps,ac,aA,ao,aE⟩:=O.out.shr a.d a.q dv aZ.out a3.out Y.out;have b2:ps.length=(pcsE U (frE (G.take k)) a.d a.q dv).length:=by rw [<-ac];simp
       have ap:Hid ((ps.length+[(⟨a.x,hd,J⟩:PcR)].length)*72<=140737488355328):=by show _<=_;simp;omega
       have ay:Hid (ps.length+[(⟨a.x,hd,J⟩:PcR)].length<=maxLen):=by show _<=_;unfold maxLen;simp;omega
       have bf:=lh aA;have a7:=lh ac;have a4:=lh ao;have aW:=lh aE;have cu:w.heap.size+5<=W8.heap.size:=O.out.hi.1;have ce:w.heap.size+5<=M.heap.size:=lT Z.out.hi.1 HB7.out.size;clear hW bg bI y0 y1 y2 y3 y4 y5 ch ac aA ao aE;refine rH (S:=(fun w'=>w'.heap[w.heap.size+3]? =some (.cells (cJ X A2 n2 c2 (w.heap.size+1) (w.heap.size+2)) 168 (0,0))/\w'.heap[M.heap.size]? =some (.cells #[.string a.x.st,.int .i64 a.x.ix,.slice hd.a hd.n hd.c,.slice J.a J.n J.c] 42 (0,0))/\w'.heap[M.heap.size+1]? =some (.cells #[.int .i64 a.d,.int .i64 a.q,.int .i64 dv] 173 (0,0)))) ybi (by exact ⟨O.out.jd,T.out.1,T.out.2⟩) (fun al=>?_)
       (iterate 3 refine tkA ?_)
       refine tkH (i:=3) (v:=?p4v) (y:=(Or.inl ⟨by rfl,?p4y⟩)) (h:=?p4r);case p4y=>(intro w hSw;(try dsimp only at hSw);have J:=cj8 hSw.1;go_simp;try (with_reducible rfl))
       try simp only [pt]
       refine tkH (i:=4) (v:=?p5v) (y:=(Or.inl ⟨by rfl,?p5y⟩)) (h:=?p5r);case p5y=>(intro w hSw;(try dsimp only at hSw);obtain ⟨q0,q1,q2⟩:=c3rows hSw.2.2;go_simp;try (with_reducible rfl))
       try simp only [pt]
       refine tkH (i:=5) (v:=?p6v) (y:=(Or.inl ⟨by rfl,?p6y⟩)) (h:=?p6r);case p6y=>(intro w hSw;(try dsimp only at hSw);obtain ⟨q0,q1,q2,q3⟩:=c4rows hSw.2.1;go_simp;try (with_reducible rfl))
       try simp only [pt]
       refine rd1 6 (fun K H=>?_);go_simp;refine H.out _ _ (by exact ⟨(zx _ _ _ (lb O.out.jd)).trans O.out.jd,(zx _ _ _ (lb T.out.1)).trans T.out.1,(zx _ _ _ (lb T.out.2)).trans T.out.2⟩) (fun bb=>?_);clear H K al
       try simp only [pt]
       refine rd1 7 (fun K H=>?_)
       ((refine step_mapEntry rfl (.tmp 71) (.tmp 72) rfl rfl (pR a.d a.q dv) rfl (O.out.shm.block (by first |rfl |exact zx _ _ _ (by show _ < W8.heap.size;omega))) Rep.law underlying165 Rep.zero ybd (kR_of aZ.out a3.out Y.out) ?_);(intro st w9 b1 HGE);(have aX:Hid (FrP am (fun r=>r= .fix 1) W8 w9):=(FrP.below ((Below.refl W8.heap.size W8).drew.alloc nl (.cells #[.string a.x.st,.int .i64 a.x.ix,.slice hd.a hd.n hd.c,.slice J.a J.n J.c] 42))).trans (FrP.blk HGE.out (O.out.fix 1 om)));(have b4:Hid (Below w.heap.size W8 w9):=(Below.mono ((Below.refl W8.heap.size W8).drew.alloc nl (.cells #[.string a.x.st,.int .i64 a.x.ix,.slice hd.a hd.n hd.c,.slice J.a J.n J.c] 42)) om).trans (ybm HGE.out (fun j hj=>by injection hj with hj;omega) ybh));(have ci:Hid (SlN fPc 4 w9 (W8.heap.size+1) (some ⟨W8.heap.size,0,none⟩) 1 [⟨a.x,hd,J⟩]):=SlN.oneJ (f:=fPc) (y:=⟨a.x,hd,J⟩) ((HGE.out.block _ sI (fun e=>by injection e with e;have e2:W8.heap.size=w.heap.size+1:=e;omega)).trans (zy W8.drew _)) (Nat.lt_succ_self _));(have cj:Hid (OwnN fPc 4 42 w9 (w.heap.size+5) (mS (kR a.d a.q dv)) ps):=OwnN.kept (bf.out.drew.alloc _) HGE.out (.inr (fun e1=>by have:=(ol bf.out _ e1).1;omega)));(have cg:Hid (w.heap.size+5<=w9.heap.size):=by have h1:=HGE.out.size;simp at h1;show _<=_;omega))
       refine H.out _ _ (by exact ⟨(aX.out.same _ (lb O.out.jd) (by rw [O.out.fix 3 om];simp)).trans O.out.jd,(aX.out.same _ (lb T.out.1) (by rw [a5.out.1];simp)).trans T.out.1,(aX.out.same _ (lb T.out.2) (by rw [a5.out.2];simp)).trans T.out.2⟩) (fun a9=>?_);clear H K bb
       try simp only [pt]
       refine tkY 8 ?_;refine tkY 10 ?_;refine rd1 9 (fun K H=>?_)
       ((refine ydN fPc_len om rfl (.tmp 73) (.tmp 75) 83 rfl 42 i1 _ 72 underlying83 aD.out ar.out ax.out az.out Tryz.zsPc (mS (kR a.d a.q dv)) rfl ps (w.heap.size+5) cj.out [⟨a.x,hd,J⟩] ⟨_,_,1,1,rfl,ci.out⟩ fPc_one ap.out ay.out cg.out ?_);(intro A4 n4 c4 w4 au aw ag);(have HP:=lh (O.out.app_pc aZ.out a3.out Y.out aX.out b4.out b1.out a7.out aW.out a4.out bf.out a6.out au.out aw.out ag.out a0.out aY.out));(have HW4:Hid (w4.heap[w.heap.size+3]? =some (.cells (cJ X A2 n2 c2 (w.heap.size+1) (w.heap.size+2)) 168 (0,0))/\w4.heap[M.heap.size]? =some (.cells #[.string a.x.st,.int .i64 a.x.ix,.slice hd.a hd.n hd.c,.slice J.a J.n J.c] 42 (0,0))/\w4.heap[M.heap.size+1]? =some (.cells #[.int .i64 a.d,.int .i64 a.q,.int .i64 dv] 173 (0,0))):=⟨(HP.out.2.1.same _ (lb O.out.jd) (by rw [O.out.fix 3 om];simp)).trans O.out.jd,(HP.out.2.1.same _ (lb T.out.1) (by rw [a5.out.1];simp)).trans T.out.1,(HP.out.2.1.same _ (lb T.out.2) (by rw [a5.out.2];simp)).trans T.out.2⟩))
       refine H.out _ _ (by exact HW4.out) (fun aU=>?_);clear H K a9
       try simp only [pt]
       refine rd1 11 (fun K H=>?_)
       ((refine step_entryStore rfl (.tmp 71) (.tmp 78) (.tmp 77) rfl rfl rfl (.slice A4 n4 c4) rfl HP.out.1 ?_);(intro w5 aM HG5);(have HF:=lh (HP.out.2.2 w5 HG5.out aM.out)))
       refine H.out _ _ (by exact ⟨HF.out.1.jd,(HG5.out.block _ (lb HW4.out.2.1) (fun e=>by injection e with e;omega)).trans HW4.out.2.1,(HG5.out.block _ (lb HW4.out.2.2) (fun e=>by injection e with e;omega)).trans HW4.out.2.2⟩) (fun bZ=>?_);clear H K aU
       try simp only [pt]
       refine wpAnyH_done ybi ?_ _;go_wp2_with fail;go_roundw;case rel=>exact ⟨k+1,by omega,by go_num,HF.out.2 _ (bt HB6.out bP.out),by rw [aF.out];exact ⟨_,_,_,_,_,_,_,HF.out.1.more nl nl (Nat.le_succ k)⟩⟩
       case measure=>simp [intOf];omega
      ·have bk:(a.er==0)=false:=by simp [h0]
       have aG:Hid (pcsE U (frE (G.take (k+1)))=pcsE U (frE (G.take k))):=by show _=_;rw [W.out];exact pcsE_same U (fun g=>h0 (by rw [<-HAE.out];exact g.2))
       clear h0;go_wp2_with (go_at_call 103;(with_reducible refine (HQ.out _ HB6.out).mono ?_);rintro e M ⟨hd,J,rfl,⟨s1,f1⟩,⟨s2,f2⟩,a8,z⟩;(have HB7:Hid (∀o,Below wc.heap.size wc (M.alloc o)):=fun o=>z.alloc z.size o);(have y2:M.cell? ⟨wr.heap.size,2,none⟩=some (.int .i64 7):=(z.cell (by have:=bG.out;simp;omega)).trans y2);clear s1 f1 s2 f2 a8 z);go_roundw;case rel=>exact ⟨k+1,by omega,by go_num,HB6.out.trans ((HB7.out _).mono HB6.out.size),by rw [aG.out,aF.out];exact ⟨_,_,_,_,_,_,_,(Z.out.on (HB7.out _)).more nl (Nat.le_succ k) (Nat.le_succ k)⟩⟩
       case measure=>simp [intOf];omega
     ·have bN:pcsE U (frE (G.take (k+1)))=pcsE U (frE (G.take k)):=by rw [W.out];exact pcsE_same U (fun g=>h7 g.1)
      have aG:=lh bN;have cr:(ek==7)=false:=by simp [h7]
      clear bN
      by_cases h9:ek=9
      ·subst h9;have HQ:=lh (HM.out _ aL rfl);clear aL;obtain ⟨a,ha⟩:∃a:MtX,N ⟨dv,sq,9,dy,bd,pr,bs⟩=a:=⟨_,rfl⟩
       rw [ha] at HQ;have HAE:=lh ha;clear ha
       by_cases h0:a.er=0
       ·
        have bk:(a.er==0)=true:=by simp [h0]
        have a0:Hid (mtsE N (frE (G.take (k+1))) dv=mtsE N (frE (G.take k)) dv++[((⟨dv,sq,9,dy,bd,pr,bs⟩:EnR),a.v)]):=by
         show _=_;have:=mtsE_put N (l:=frE (G.take k)) (e:=⟨dv,sq,9,dy,bd,pr,bs⟩) rfl (by rw [HAE.out];exact h0);rw [HAE.out] at this;rw [W.out];exact this
        have aY:Hid (∀y',y'≠dv->mtsE N (frE (G.take (k+1))) y'=mtsE N (frE (G.take k)) y'):=fun y' be=>by rw [W.out];exact mtsE_far N be
        obtain ⟨i1,aj,ah,af,ak⟩:=info_parts Tryz.infoMt;have aD:=lh aj;have ar:=lh ah;have ax:=lh af;have az:=lh ak;have bo:(frE (G.take k)).length<=k:=ydp G k;have hml:(mtsE N (frE (G.take k)) dv).length<=(frE (G.take k)).length:=List.length_filterMap_le _ _;clear h0 aj ah af ak;go_upto_region 19 with (go_at_call 35;(with_reducible refine (HQ.out _ HB6.out).mono ?_);rintro e M ⟨hv,rfl,⟨s1,f1⟩,z⟩;(have HB7:=lh z);(have HJ7:=lh (Z.out.on z));(have a6:Hid (MtK M am ⟨⟨dv,sq,9,dy,bd,pr,bs⟩,hv,a.v⟩):=⟨s1,Z.out.fresh _ f1⟩);(have HX7:Hid (M.heap[wr.heap.size]? =some (.cells #[.int .i64 dv,.int .i64 sq,.int .i64 9,.int .i64 dy,.slice bd.a bd.n bd.c,.string pr] 55 (0,0))):=(z.block _ (lb bL.out)).trans bL.out);clear s1 f1 z)
        obtain ⟨ms,ac,aA,ao,aE⟩:=HJ7.out.mtr dv Y.out;have b2:ms.length=(mtsE N (frE (G.take k)) dv).length:=by rw [<-ac];simp
        have ap:Hid ((ms.length+[(⟨⟨dv,sq,9,dy,bd,pr,bs⟩,hv,a.v⟩:MtR)].length)*96<=140737488355328):=by show _<=_;simp;omega
        have ay:Hid (ms.length+[(⟨⟨dv,sq,9,dy,bd,pr,bs⟩,hv,a.v⟩:MtR)].length<=maxLen):=by show _<=_;unfold maxLen;simp;omega
        have a2:=lh aA;have a7:=lh ac;have a4:=lh ao;have aW:=lh aE;have ce:w.heap.size+5<=M.heap.size:=HJ7.out.hi.1;clear y0 y1 y2 y3 y4 y5 ac aA ao aE;refine rH (S:=(fun w'=>w'.heap[w.heap.size+3]? =some (.cells (cJ X A2 n2 c2 (w.heap.size+1) (w.heap.size+2)) 168 (0,0))/\w'.heap[wr.heap.size]? =some (.cells #[.int .i64 dv,.int .i64 sq,.int .i64 9,.int .i64 dy,.slice bd.a bd.n bd.c,.string pr] 55 (0,0)))) ybi yau (fun al=>?_)
        (iterate 3 refine tkA ?_)
        refine tkH (i:=3) (v:=?m4v) (y:=(Or.inl ⟨by rfl,?m4y⟩)) (h:=?m4r);case m4y=>(intro w hSw;(try dsimp only at hSw);have J:=cj9 hSw.1;go_simp;try (with_reducible rfl))
        try simp only [pt]
        refine tkY 4 ?_;refine tkH (i:=5) (v:=?m6v) (y:=(Or.inl ⟨by rfl,?m6y⟩)) (h:=?m6r);case m6y=>(intro w hSw;(try dsimp only at hSw);have J:=(cen hSw.2).1;go_simp;try (with_reducible rfl))
        try simp only [pt]
        refine tkY 6 ?_;refine tkY 7 ?_;refine tkY 8 ?_;refine tkH (i:=9) (v:=?m10v) (y:=(Or.inl ⟨by rfl,?m10y⟩)) (h:=?m10r);case m10y=>(intro w hSw;(try dsimp only at hSw);have J:=cj9 hSw.1;go_simp;try (with_reducible rfl))
        try simp only [pt]
        refine tkY 10 ?_;refine tkH (i:=11) (v:=?m12v) (y:=(Or.inl ⟨by rfl,?m12y⟩)) (h:=?m12r);case m12y=>(intro w hSw;(try dsimp only at hSw);have J:=(cen hSw.2).1;go_simp;try (with_reducible rfl))
        try simp only [pt]
        refine tkH (i:=13) (v:=?m13v) (y:=(Or.inl ⟨by rfl,?m13y⟩)) (h:=?m13r);case m13y=>(intro w hSw;(try dsimp only at hSw);obtain ⟨q0,q1,q2,q3,q4,q5⟩:=cen hSw.2;go_simp;try (with_reducible rfl))
        try simp only [pt]
        refine tkY 14 ?_;refine tkY 15 ?_;refine rd2 12 16 (fun K H=>?_) (fun K H=>?_)
        ·refine step_look rfl (.tmp 98) (.tmp 100) rfl rfl (.int .i64 dv) rfl (HJ7.out.mtm.block (by first |rfl |exact zx _ _ _ (by show _ < M.heap.size;omega))) (Maps.int_keyed underlying3) underlying166 (Mee.zero _) (kI_of Y.out) ?_;refine H.out _ _ yau (fun aS=>?_);clear H K al
         try simp only [pt]
         refine rd1 16 (fun K H=>?_);go_simp;refine H.out _ _ yau (fun aP=>?_);clear H K aS
         try simp only [pt]
         refine rd1 17 (fun K H=>?_)
         ((refine ydN fMt_len om rfl (.tmp 101) (.tmp 105) 174 rfl 176 i1 _ 96 underlying174 aD.out ar.out ax.out az.out Tryz.zsMt (mM (.int .i64 dv)) rfl ms (w.heap.size+5) (a2.out.drew.alloc _) [⟨⟨dv,sq,9,dy,bd,pr,bs⟩,hv,a.v⟩] ⟨_,_,1,1,rfl,SlN.oneJ (f:=fMt) (y:=⟨⟨dv,sq,9,dy,bd,pr,bs⟩,hv,a.v⟩) (zy _ _) (Nat.lt_succ_self _)⟩ fMt_one ap.out ay.out ybh ?_);(intro A4 n4 c4 w4 au aw ag);(have HP:=lh (HJ7.out.app_mt Y.out ((Below.drew bR).alloc nl _) a7.out aW.out a4.out a2.out a6.out au.out aw.out ag.out a0.out aY.out));(have HW4:Hid (w4.heap[w.heap.size+3]? =some (.cells (cJ X A2 n2 c2 (w.heap.size+1) (w.heap.size+2)) 168 (0,0))/\w4.heap[wr.heap.size]? =some (.cells #[.int .i64 dv,.int .i64 sq,.int .i64 9,.int .i64 dy,.slice bd.a bd.n bd.c,.string pr] 55 (0,0))):=⟨(HP.out.2.1.same _ (lb HJ7.out.jd) (by rw [HJ7.out.fix 3 om];simp)).trans HJ7.out.jd,(HP.out.2.1.same _ (lb HX7.out) (by rw [bh.out];simp)).trans HX7.out⟩))
         refine H.out _ _ (by exact HW4.out) (fun aT=>?_);clear H K aP
         try simp only [pt]
         refine rd1 18 (fun K H=>?_)
         ((refine step_mupd rfl (.tmp 92) (.tmp 94) (.tmp 106) rfl rfl (.int .i64 dv) (.slice A4 n4 c4) rfl rfl HP.out.1 (Maps.int_keyed underlying3) underlying166 ybd (kI_of Y.out) ?_);(intro w5 aM HG5);(have HF:=lh (HP.out.2.2 w5 HG5.out aM.out)))
         refine H.out _ _ yay (fun b0=>?_);clear H K aT
         try simp only [pt]
         refine wpAnyH_done ybi ?_ _;go_wp2_with fail;go_roundw;case rel=>exact ⟨k+1,by omega,by go_num,HF.out.2 _ (bt HB6.out HB7.out),by rw [aG.out];exact ⟨_,_,_,_,_,_,_,HF.out.1.more nl (Nat.le_succ k) nl⟩⟩
         case measure=>simp [intOf];omega
        ·go_simp;refine H.out _ _ yau (fun aV=>?_);clear H K al
         try simp only [pt]
         refine rd1 12 (fun K H=>?_);refine step_look rfl (.tmp 98) (.tmp 100) rfl rfl (.int .i64 dv) rfl (HJ7.out.mtm.block (by first |rfl |exact zx _ _ _ (by show _ < M.heap.size;omega))) (Maps.int_keyed underlying3) underlying166 (Mee.zero _) (kI_of Y.out) ?_;refine H.out _ _ yau (fun aR=>?_);clear H K aV
         try simp only [pt]
         refine rd1 17 (fun K H=>?_)
         ((refine ydN fMt_len om rfl (.tmp 101) (.tmp 105) 174 rfl 176 i1 _ 96 underlying174 aD.out ar.out ax.out az.out Tryz.zsMt (mM (.int .i64 dv)) rfl ms (w.heap.size+5) (a2.out.drew.alloc _) [⟨⟨dv,sq,9,dy,bd,pr,bs⟩,hv,a.v⟩] ⟨_,_,1,1,rfl,SlN.oneJ (f:=fMt) (y:=⟨⟨dv,sq,9,dy,bd,pr,bs⟩,hv,a.v⟩) (zy _ _) (Nat.lt_succ_self _)⟩ fMt_one ap.out ay.out ybh ?_);(intro A4 n4 c4 w4 au aw ag);(have HP:=lh (HJ7.out.app_mt Y.out ((Below.drew bR).alloc nl _) a7.out aW.out a4.out a2.out a6.out au.out aw.out ag.out a0.out aY.out));(have HW4:Hid (w4.heap[w.heap.size+3]? =some (.cells (cJ X A2 n2 c2 (w.heap.size+1) (w.heap.size+2)) 168 (0,0))/\w4.heap[wr.heap.size]? =some (.cells #[.int .i64 dv,.int .i64 sq,.int .i64 9,.int .i64 dy,.slice bd.a bd.n bd.c,.string pr] 55 (0,0))):=⟨(HP.out.2.1.same _ (lb HJ7.out.jd) (by rw [HJ7.out.fix 3 om];simp)).trans HJ7.out.jd,(HP.out.2.1.same _ (lb HX7.out) (by rw [bh.out];simp)).trans HX7.out⟩))
         refine H.out _ _ (by exact HW4.out) (fun aQ=>?_);clear H K aR
         try simp only [pt]
         refine rd1 18 (fun K H=>?_)
         ((refine step_mupd rfl (.tmp 92) (.tmp 94) (.tmp 106) rfl rfl (.int .i64 dv) (.slice A4 n4 c4) rfl rfl HP.out.1 (Maps.int_keyed underlying3) underlying166 ybd (kI_of Y.out) ?_);(intro w5 aM HG5);(have HF:=lh (HP.out.2.2 w5 HG5.out aM.out)))
         refine H.out _ _ yay (fun b3=>?_);clear H K aQ
         try simp only [pt]
         refine wpAnyH_done ybi ?_ _;go_wp2_with fail;go_roundw;case rel=>exact ⟨k+1,by omega,by go_num,HF.out.2 _ (bt HB6.out HB7.out),by rw [aG.out];exact ⟨_,_,_,_,_,_,_,HF.out.1.more nl (Nat.le_succ k) nl⟩⟩
         case measure=>simp [intOf];omega
       ·have bk:(a.er==0)=false:=by simp [h0]
        have aF:Hid (mtsE N (frE (G.take (k+1)))=mtsE N (frE (G.take k))):=by show _=_;rw [W.out];exact mtsE_same N (fun g=>h0 (by rw [<-HAE.out];exact g.2))
        clear h0;go_wp2_with (go_at_call 35;(with_reducible refine (HQ.out _ HB6.out).mono ?_);rintro e M ⟨hv,rfl,⟨s1,f1⟩,z⟩;(have HB7:=lh z);clear s1 f1 z);go_roundw;case rel=>exact ⟨k+1,by omega,by go_num,bt HB6.out HB7.out,by rw [aG.out,aF.out];exact ⟨_,_,_,_,_,_,_,(Z.out.on HB7.out).more nl (Nat.le_succ k) (Nat.le_succ k)⟩⟩
        case measure=>simp [intOf];omega
      ·have bD:mtsE N (frE (G.take (k+1)))=mtsE N (frE (G.take k)):=by rw [W.out];exact mtsE_same N (fun g=>h9 g.1)
       have aF:=lh bD;have cC:(ek==9)=false:=by simp [h9]
       clear bD;go_wp2;go_roundw;case rel=>exact ⟨k+1,by omega,by go_num,HB6.out,by rw [aG.out,aF.out];exact ⟨_,_,_,_,_,_,_,Z.out.more nl (Nat.le_succ k) (Nat.le_succ k)⟩⟩
       case measure=>simp [intOf];omega
  ·obtain rfl:k=En:=by omega
   obtain ⟨aI,aO,A,n,c,mN,mS,mM,hJ⟩:=HR.out;rw [List.take_of_length_le (by rw [cc.out];exact Nat.le_refl _),bW.out] at hJ;have HJ:=lh hJ;have br:=lh aI;clear hJ aI HR;go_wp2;go_ret;exact ⟨rfl,br.out,_,_,_,_,_,_,_,_,_,_,HJ.out⟩
