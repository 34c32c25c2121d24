/- Maps whose elements are one value each (a slice, a bool): what a key holds; keys of two and of three ints. Roles of blocks: what a write keeps. -/
import Derived.WideKeyEntry
import Derived.Test.YtpdledjgbgalcaaGreatDoorPb
namespace Go.Proofs.YtpdledjgbgalcaaGreatDoor
open Go.RowKit
set_option linter.unusedVariables false
set_option linter.unusedSimpArgs false
abbrev RV (v:Value):Option (DataW Value × List MemPlace):=some (.held v,[])
open Classical in
noncomputable def putM (m:Lit→Value) (l:Lit) (v:Value):Lit→Value:=fun x=>if x=l then v else m x
theorem putM_same (m:Lit→Value) (l:Lit) (v:Value):putM m l v l=v:=by unfold putM;simp
theorem putM_other {m:Lit→Value} {l x:Lit} {v:Value} (h:x≠l):putM m l v x=m x:=by unfold putM;simp [h]
def MapV (w:World) (kt:TypeId) (b n:Nat) (z:Value) (m:Lit→Value):Prop:=
 ∃D:DataW Value,w.ownsMap Tryz.prog kt RV b n D∧∀l,WideAt.IsKeyLit l→D.atKey l (.held z)= .held (m l)
theorem MapV.made (w:World) (kt:TypeId) (z:Value):MapV (w.alloc (.map #[] 0)) kt w.heap.size 0 z (fun _=>z):=⟨_,World.ownsMap_made w Tryz.prog _ _,fun _ _=>by simp [DataW.atKey]⟩
section
variable {w w':World} {kt et mt:TypeId} {b n:Nat} {z:Value} {m:Lit→Value}
theorem MapV.kept {row:Option Nat} (h:MapV w kt b n z m) (hg:w.grownBy w' row) (hne:some b≠row):MapV w' kt b n z m:=by
 obtain ⟨D,h1,h2⟩:=h
 exact ⟨D,h1.kept hg hne,h2⟩
theorem MapV.block (h:MapV w kt b n z m) (hb:w'.heap[b]? =w.heap[b]?):MapV w' kt b n z m:=by
 obtain ⟨D,⟨es,ck,h1,h2⟩,h3⟩:=h
 exact ⟨D,⟨es,ck,hb.trans h1,h2⟩,h3⟩
theorem MapV.lt (h:MapV w kt b n z m):b < w.heap.size:=by
 obtain ⟨D,h1,_⟩:=h
 exact h1.lt
theorem MapV.mono {n':Nat} (h:MapV w kt b n z m) (hn:n≤n'):MapV w kt b n' z m:=by
 obtain ⟨D,h1,h2⟩:=h
 exact ⟨D,h1.mono hn,h2⟩
theorem MapV.look (h:MapV w kt b n z m) (K:Maps.Keyed Tryz.prog kt) (ht:Tryz.prog.underlying mt=some (.map kt et)) (hz:(zeroValue et).run Tryz.prog w= .ok z w) {key:Value} {l:Lit} (hk:keyOf Tryz.prog kt key=some l):
 (Instr.lookup mt (.map (some b)) key false).run Tryz.prog w= .ok (m l) w:=by
 obtain ⟨D,h1,h2⟩:=h
 obtain ⟨v,ps,hrun,hv⟩:=h1.lookup K ht hz (show RV z=some (.held z,[]) from rfl) hk
 have e1:DataW.held v=D.atKey l (.held z):=congrArg Prod.fst (Option.some.inj hv)
 have e2:DataW.held v=DataW.held (m l):=e1.trans (h2 l (K.key hk))
 rw [hrun,DataW.held.inj e2]
theorem MapV.put_of {D:DataW Value} (h1:w.ownsMap Tryz.prog kt RV b n D) (h2:∀l,WideAt.IsKeyLit l→D.atKey l (.held z)= .held (m l)) {w1:World} {l:Lit} (hl:WideAt.IsKeyLit l) (v:Value) (h3:w1.ownsMap Tryz.prog kt RV b (n+1) (D.put l (.held v))):MapV w1 kt b (n+1) z (putM m l v):=by
 refine ⟨_,h3,fun x hx=>?_⟩
 by_cases he:x=l
 ·rw [he,putM_same]
  exact Maps.atKey_put_same h1.isMap hl _ _
 ·rw [putM_other he,Maps.atKey_put_other he]
  exact h2 x hx
theorem MapV.store (h:MapV w kt b n z m) (K:Maps.Keyed Tryz.prog kt) (ht:Tryz.prog.underlying mt=some (.map kt et)) (hn:n < maxLen) {key:Value} {l:Lit} (hk:keyOf Tryz.prog kt key=some l) (v:Value):
 ∃w',(Instr.mapUpdate mt (.map (some b)) key v).run Tryz.prog w= .ok () w'∧MapV w' kt b (n+1) z (putM m l v)∧w.grownBy w' (some b):=by
 obtain ⟨D,h1,h2⟩:=h
 obtain ⟨w',r1,r2,r3⟩:=h1.update K ht hn hk (show RV v=some (.held v,[]) from rfl)
 exact ⟨w',r1,MapV.put_of h1 h2 (K.key hk) v r2,r3⟩
theorem MapV.entry (h:MapV w kt b n z m) (K:WideMaps.KeyLaw Tryz.prog kt) (ht:Tryz.prog.underlying mt=some (.map kt et)) (hz:∀u:World,(zeroValue et).run Tryz.prog u= .ok z u) (hn:n < maxLen) {key:Value} {l:Lit} (hk:keyOf Tryz.prog kt key=some l):
 ∃(st:Nat) (es1:Array MapEntry) (ck1:Nat),(Instr.mapEntry mt (.map (some b)) key).run Tryz.prog w= .ok (.tuple #[m l,goInt st]) (ChangeMaps.setBlock w b (.map es1 ck1))∧
  ∀(w2:World) (v:Value),w2.heap[b]? =some (.map es1 ck1)→∃w',(Instr.entryStore mt (.map (some b)) (goInt st) v).run Tryz.prog w2= .ok () w'∧MapV w' kt b (n+1) z (putM m l v)∧w2.grownBy w' (some b):=by
 obtain ⟨D,h1,h2⟩:=h
 have h0:=h1
 obtain ⟨es,ck,hb,F,hs,rfl⟩:=h0
 obtain ⟨v0,st,es1,ck1,hE,hc,hS⟩:=WideElems.entry_then_store K ht hz hb F hk
 have hv0:v0=m l:=by
  have hat:=h2 l ((Maps.Keyed.of_law K).key hk)
  rcases hc with ⟨e1,hm1,hk1,rfl⟩ |⟨hno,rfl⟩
  ·rw [WideElems.atKey_some K F hk hm1 hk1 (show RV e1.val=some (.held e1.val,[]) from rfl)] at hat
   exact DataW.held.inj hat
  ·rw [WideElems.atKey_none K F hk hno] at hat
   exact DataW.held.inj hat
 subst hv0
 refine ⟨st,es1,ck1,hE,fun w2 v hw2=>?_⟩
 obtain ⟨es',ck',r1,r2⟩:=hS w2 v hw2
 obtain ⟨w3,q1,q2,_⟩:=h1.update (Maps.Keyed.of_law K) ht hn hk (show RV v=some (.held v,[]) from rfl)
 rw [r2] at q1
 injection q1 with _ q1
 subst q1
 have hblk:(ChangeMaps.setBlock w2 b (.map es' ck')).heap[b]? =(ChangeMaps.setBlock w b (.map es' ck')).heap[b]? :=by
  rw [ChangeMaps.heap_setBlock_same hw2,ChangeMaps.heap_setBlock_same hb]
 exact ⟨_,r1,(MapV.put_of h1 h2 ((Maps.Keyed.of_law K).key hk) v q2).block hblk,⟨rfl,rfl,rfl,by simp [ChangeMaps.setBlock],fun i _ hi=>ChangeMaps.heap_setBlock_other hw2 _ (fun e=>hi (by rw [e]))⟩⟩
end
theorem Num.law:WideMaps.KeyLaw Tryz.prog 171:=deep_law_laid Pid.laid (m:=2) (by omega) (of_decide_eq_true (by kernel_rfl)) (by kernel_rfl) (by kernel_rfl)
theorem Rep.law:WideMaps.KeyLaw Tryz.prog 173:=deep_law_laid Pid.laid (m:=3) (by omega) (of_decide_eq_true (by kernel_rfl)) (by kernel_rfl) (by kernel_rfl)
theorem Rep.size:Tryz.prog.types.size=Tryz.prog.types.size - 3+1+1+1:=by
 have h:3≤Tryz.prog.types.size:=of_decide_eq_true (by kernel_rfl)
 omega
theorem Num.keyT:Tryz.prog.keyType 171=true:=by kernel_rfl
theorem Rep.keyT:Tryz.prog.keyType 173=true:=by kernel_rfl
theorem Num.cells:Tryz.prog.cellsOf 171=2:=by kernel_rfl
theorem Rep.cells:Tryz.prog.cellsOf 173=3:=by kernel_rfl
def pN (d s:Int):Value:= .agg #[.int .i64 d,.int .i64 s]
def pR (d s y:Int):Value:= .agg #[.int .i64 d,.int .i64 s,.int .i64 y]
noncomputable def kN (d s:Int):Lit:= .string (keyBytes [.int .i64 d,.int .i64 s])
noncomputable def kR (d s y:Int):Lit:= .string (keyBytes [.int .i64 d,.int .i64 s,.int .i64 y])
theorem kN_of {d s:Int} (hd:int64 d) (hs:int64 s):keyOf Tryz.prog 171 (pN d s)=some (kN d s):=by
 have h1:=hd.wf
 have h2:=hs.wf
 have hf:(pN d s).formed Tryz.prog 171=true:=by simp [pN,Value.formed,Tryz.underlying171,Num.cells]
 unfold keyOf
 simp only [Tryz.underlying171]
 rw [if_pos (by simp [Num.keyT,hf]),Pid.size]
 unfold Program.keyLits
 simp only [Tryz.underlying171,Value.cells,pN]
 rw [if_pos (by simp [Num.cells])]
 unfold Program.keyLits
 simp [Tryz.underlying3,Pid.icells,h1,h2,kN]
theorem kR_of {d s y:Int} (hd:int64 d) (hs:int64 s) (hy:int64 y):keyOf Tryz.prog 173 (pR d s y)=some (kR d s y):=by
 have h1:=hd.wf
 have h2:=hs.wf
 have h3:=hy.wf
 have hf:(pR d s y).formed Tryz.prog 173=true:=by simp [pR,Value.formed,Tryz.underlying173,Rep.cells]
 unfold keyOf
 simp only [Tryz.underlying173]
 rw [if_pos (by simp [Rep.keyT,hf]),Rep.size]
 generalize Tryz.prog.types.size - 3=n
 unfold Program.keyLits
 simp only [Tryz.underlying173,Value.cells,pR]
 rw [if_pos (by simp [Rep.cells])]
 unfold Program.keyLits
 simp [Program.keyLits,Tryz.underlying3,Tryz.underlying171,Num.cells,Pid.icells,h1,h2,h3,kR]
 rw [if_pos (by
  intro i hi
  have:i=0∨i=1:=by omega
  rcases this with rfl |rfl<;>simp)]
 simp
theorem kN_inj {d s d' s':Int} (h1:int64 d) (h2:int64 s) (h1':int64 d') (h2':int64 s') (e:kN d s=kN d' s'):d=d'∧s=s':=by
 have h:=(Maps.Keyed.of_law Num.law).inj (kN_of h1 h2) (e▸kN_of h1' h2')
 simp [pN] at h
 exact h
theorem kR_inj {d s y d' s' y':Int} (h1:int64 d) (h2:int64 s) (h3:int64 y) (h1':int64 d') (h2':int64 s') (h3':int64 y') (e:kR d s y=kR d' s' y'):d=d'∧s=s'∧y=y':=by
 have h:=(Maps.Keyed.of_law Rep.law).inj (kR_of h1 h2 h3) (e▸kR_of h1' h2' h3')
 simp [pR] at h
 exact h
theorem Num.zero (w:World):(zeroValue 4).run Tryz.prog w= .ok (.bool false) w:=by kernel_rfl
theorem Rep.zero (w:World):(zeroValue 83).run Tryz.prog w= .ok (.slice none 0 0) w:=by kernel_rfl
theorem Mee.zero (w:World):(zeroValue 174).run Tryz.prog w= .ok (.slice none 0 0) w:=by kernel_rfl
inductive Rl where
 |dat
 |fix (i:Nat)
 |ent
 |sh (l:Lit)
 |mt (l:Lit)
def Lab (lab:Nat→Rl) (r:Rl) (v:Value):Prop:=∀k,v.ownBlock=some k→lab k=r
theorem Lab.nil (lab:Nat→Rl) (r:Rl):Lab lab r (.slice none 0 0):=fun k hk=>by cases hk
noncomputable def setL (lab:Nat→Rl) (v:Value) (r:Rl):Nat→Rl:=fun i=>if v.ownBlock=some i then r else lab i
theorem setL_same (lab:Nat→Rl) (v:Value) (r:Rl):Lab (setL lab v r) r v:=fun k hk=>by unfold setL;simp [hk]
theorem setL_lt {lab:Nat→Rl} {v v':Value} {r:Rl} {n i:Nat} (h:v'.ownBlock=v.ownBlock∨∃g,v'.ownBlock=some g∧n≤g) (hl:Lab lab r v) (hi:i < n):setL lab v' r i=lab i:=by
 unfold setL
 split
 ·rename_i e
  rcases h with h |⟨g,h,hg⟩
  ·exact (hl i (h▸e)).symm
  ·rw [h] at e;injection e with e;omega
 ·rfl
theorem setL_hi {lab:Nat→Rl} {v':Value} {r:Rl} {n i:Nat} (h:∀g,v'.ownBlock=some g→g < n) (hi:n≤i):setL lab v' r i=lab i:=by
 unfold setL
 split
 ·rename_i e
  have:=h i e
  omega
 ·rfl
structure FrP (lab:Nat→Rl) (P:Rl→Prop) (w w':World):Prop where
 le:w.heap.size≤w'.heap.size
 same:∀k,k < w.heap.size→¬P (lab k)→w'.heap[k]? =w.heap[k]?
theorem FrP.grown {lab:Nat→Rl} {r:Rl} {P:Rl→Prop} {w w':World} {v:Value} (h:w.grownBy w' v.ownBlock) (hl:Lab lab r v) (hP:P r):FrP lab P w w':=
 ⟨h.size,fun k hk hne=>h.block k hk fun e=>hne (by rw [hl k e.symm];exact hP)⟩
theorem FrP.blk {lab:Nat→Rl} {P:Rl→Prop} {w w':World} {b:Nat} (h:w.grownBy w' (some b)) (hP:P (lab b)):FrP lab P w w':=
 ⟨h.size,fun k hk hne=>h.block k hk fun e=>hne (by injection e with e;rw [e];exact hP)⟩
theorem FrP.below {lab:Nat→Rl} {P:Rl→Prop} {w w':World} (h:Below w.heap.size w w'):FrP lab P w w':=⟨h.size,fun k hk _=>h.block k hk⟩
theorem FrP.refl (lab:Nat→Rl) (P:Rl→Prop) (w:World):FrP lab P w w:=⟨Nat.le_refl _,fun _ _ _=>rfl⟩
theorem FrP.trans {lab:Nat→Rl} {P:Rl→Prop} {w w' w2:World} (h:FrP lab P w w') (h':FrP lab P w' w2):FrP lab P w w2:=
 ⟨Nat.le_trans h.le h'.le,fun k hk hne=>(h'.same k (Nat.lt_of_lt_of_le hk h.le) hne).trans (h.same k hk hne)⟩
theorem FrP.mono {lab:Nat→Rl} {P Q:Rl→Prop} {w w':World} (h:FrP lab P w w') (hPQ:∀r,P r→Q r):FrP lab Q w w':=⟨h.le,fun k hk hne=>h.same k hk fun hp=>hne (hPQ _ hp)⟩
theorem FrP.set {lab:Nat→Rl} {P:Rl→Prop} {w w':World} {v v':Value} {r:Rl} (h:FrP lab P w w') (hc:v'.ownBlock=v.ownBlock∨∃g,v'.ownBlock=some g∧w.heap.size≤g) (hl:Lab lab r v):FrP (setL lab v' r) P w w':=
 ⟨h.le,fun k hk hne=>h.same k hk (by rw [setL_lt hc hl hk] at hne;exact hne)⟩
section
variable {lab:Nat→Rl} {P:Rl→Prop} {w w':World}
theorem OwnN.fr {α:Type} {f:α→List Value} {s:Nat} {e:TypeId} {base:Nat} {v:Value} {xs:List α} {r':Rl} (h:OwnN f s e w base v xs) (hl:Lab lab r' v) (hf:FrP lab P w w') (hne:¬P r'):OwnN f s e w' base v xs:=by
 refine ⟨h.1,?_⟩
 rcases h.2 with hn |⟨g,cap,cur,rfl,hbg,hgg,rest⟩
 ·exact .inl hn
 ·exact .inr ⟨g,cap,cur,rfl,hbg,(hf.same g (Array.getElem?_eq_some_iff.1 hgg).1 (by rw [hl g rfl];exact hne)).trans hgg,rest⟩
theorem MapV.fr {kt:TypeId} {b n:Nat} {z:Value} {m:Lit→Value} (h:MapV w kt b n z m) (hf:FrP lab P w w') (hne:¬P (lab b)):MapV w' kt b n z m:=h.block (hf.same b h.lt hne)
def DatB (lab:Nat→Rl) (A:Option Addr) (n:Nat):Prop:=0 < n→∀a,A=some a→lab a.block= .dat
theorem Sl.fr {α:Type} {f:α→Value} {n:Nat} {A:Option Addr} {xs:List α} (h:Sl f w w.heap.size A n xs) (hd:DatB lab A n) (hf:FrP lab P w w') (hr:¬P .dat):Sl f w' w'.heap.size A n xs:=by
 refine ⟨h.1,fun hn=>?_⟩
 obtain ⟨b,off,e,hb,hc⟩:=h.2 hn
 have hs:=hf.same b hb (by rw [hd (h.1▸hn) _ e];exact hr)
 exact ⟨b,off,e,Nat.lt_of_lt_of_le hb hf.le,fun k x hx=>(World.cell?_of_block hs).trans (hc k x hx)⟩
theorem DatB.set {α:Type} {f:α→Value} {n m:Nat} {A:Option Addr} {xs:List α} {v v':Value} {r:Rl} (h:DatB lab A n) (hs:Sl f w m A n xs) (hc:v'.ownBlock=v.ownBlock∨∃g,v'.ownBlock=some g∧m≤g) (hl:Lab lab r v):DatB (setL lab v' r) A n:=fun hn a e=>by
 obtain ⟨b,off,e2,hb,_⟩:=hs.2 (hs.1▸hn)
 rw [e2] at e
 injection e with e
 subst e
 rw [setL_lt hc hl hb]
 exact h hn _ e2
theorem Lab.set {v v' u:Value} {r r':Rl} {n:Nat} (h:Lab lab r' u) (hu:∀k,u.ownBlock=some k→k < n) (hc:v'.ownBlock=v.ownBlock∨∃g,v'.ownBlock=some g∧n≤g) (hl:Lab lab r v):Lab (setL lab v' r) r' u:=fun k hk=>by
 rw [setL_lt hc hl (hu k hk)];exact h k hk
end
