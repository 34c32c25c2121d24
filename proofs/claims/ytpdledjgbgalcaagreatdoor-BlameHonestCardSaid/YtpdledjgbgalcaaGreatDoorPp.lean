/- The judge's memory: what its boxes, rows and maps hold, and what a further entry, piece or meeting makes of it. Plainly: the entries of a view that count, the acquittals and meetings among them. -/
import Derived.Test.YtpdledjgbgalcaaGreatDoorPc
import Derived.Test.YtpdledjgbgalcaaGreatDoorPi
namespace Go.Proofs.YtpdledjgbgalcaaGreatDoor
open Go.RowKit
set_option linter.unusedVariables false
set_option linter.unusedSimpArgs false
structure PcX where
 st:ByteArray
 ix:Int
 xs:List Int
 ys:List ByteArray
structure PcR where
 x:PcX
 d:Hd
 q:Hd
abbrev fPc (p:PcR):List Value:=[.string p.x.st,.int .i64 p.x.ix,.slice p.d.a p.d.n p.d.c,.slice p.q.a p.q.n p.q.c]
theorem fPc_len:∀p,(fPc p).length=4:=fun _=>rfl
structure MtR where
 e:EnR
 h:Hd
 v:List Int
abbrev fMt (m:MtR):List Value:=fEn m.e++[.slice m.h.a m.h.n m.h.c]
theorem fMt_len:∀m,(fMt m).length=7:=fun _=>rfl
def PcK (w:World) (lab:Nat→Rl) (p:PcR):Prop:=(Sl fB w w.heap.size p.d.a p.d.n p.x.xs∧DatB lab p.d.a p.d.n)∧(Sl fT w w.heap.size p.q.a p.q.n p.x.ys∧DatB lab p.q.a p.q.n)∧p.d.n≤p.d.c∧p.q.n≤p.q.c
def MtK (w:World) (lab:Nat→Rl) (m:MtR):Prop:=Sl I w w.heap.size m.h.a m.h.n m.v∧DatB lab m.h.a m.h.n
abbrev cJ (x:Vw) (A:Option Addr) (n c b1 b2:Nat):Array Value:=#[.slice x.E.a x.E.n x.E.c,.slice x.V.a x.V.n x.V.c,.slice x.P.a x.P.n x.P.c,.int .i64 x.b,.int .i64 x.h,.slice x.D.a x.D.n x.D.c,.slice x.F.a x.F.n x.F.c,.slice A n c,.map (some b1),.map (some b2)]
abbrev nilV:Value:= .slice none 0 0
section
variable {lab:Nat→Rl} {P:Rl→Prop} {w w':World}
theorem PcK.fr {p:PcR} (h:PcK w lab p) (hf:FrP lab P w w') (hr:¬P .dat):PcK w' lab p:=⟨⟨h.1.1.fr h.1.2 hf hr,h.1.2⟩,⟨h.2.1.1.fr h.2.1.2 hf hr,h.2.1.2⟩,h.2.2⟩
theorem MtK.fr {m:MtR} (h:MtK w lab m) (hf:FrP lab P w w') (hr:¬P .dat):MtK w' lab m:=⟨h.1.fr h.2 hf hr,h.2⟩
theorem PcK.set {p:PcR} {v v':Value} {r:Rl} (h:PcK w lab p) (hc:v'.ownBlock=v.ownBlock∨∃g,v'.ownBlock=some g∧w.heap.size≤g) (hl:Lab lab r v):PcK w (setL lab v' r) p:=⟨⟨h.1.1,h.1.2.set h.1.1 hc hl⟩,⟨h.2.1.1,h.2.1.2.set h.2.1.1 hc hl⟩,h.2.2⟩
theorem MtK.set {m:MtR} {v v':Value} {r:Rl} (h:MtK w lab m) (hc:v'.ownBlock=v.ownBlock∨∃g,v'.ownBlock=some g∧w.heap.size≤g) (hl:Lab lab r v):MtK w (setL lab v' r) m:=⟨h.1,h.2.set h.1 hc hl⟩
end
def RowS (w:World) (lab:Nat→Rl) (base:Nat) (r:Rl) (v:Value) (xs:List PcX):Prop:=
 ∃ps:List PcR,ps.map (·.x)=xs∧OwnN fPc 4 42 w base v ps∧Lab lab r v∧∀p∈ps,PcK w lab p
def RowM (w:World) (lab:Nat→Rl) (base:Nat) (r:Rl) (v:Value) (xs:List (EnR × List Int)):Prop:=
 ∃ms:List MtR,ms.map (fun m=>(m.e,m.v))=xs∧OwnN fMt 7 176 w base v ms∧Lab lab r v∧∀m∈ms,MtK w lab m
section
variable {lab:Nat→Rl} {P:Rl→Prop} {w w':World} {base:Nat} {r:Rl} {v:Value}
theorem RowS.fr {xs:List PcX} (h:RowS w lab base r v xs) (hf:FrP lab P w w') (hr:¬P r) (hd:¬P .dat):RowS w' lab base r v xs:=by
 obtain ⟨ps,h1,h2,h3,h4⟩:=h
 exact ⟨ps,h1,OwnN.fr h2 h3 hf hr,h3,fun p hp=>(h4 p hp).fr hf hd⟩
theorem RowM.fr {xs:List (EnR × List Int)} (h:RowM w lab base r v xs) (hf:FrP lab P w w') (hr:¬P r) (hd:¬P .dat):RowM w' lab base r v xs:=by
 obtain ⟨ps,h1,h2,h3,h4⟩:=h
 exact ⟨ps,h1,OwnN.fr h2 h3 hf hr,h3,fun p hp=>(h4 p hp).fr hf hd⟩
theorem RowS.set {xs:List PcX} {u u':Value} {r':Rl} (h:RowS w lab base r v xs) (hc:u'.ownBlock=u.ownBlock∨∃g,u'.ownBlock=some g∧w.heap.size≤g) (hl:Lab lab r' u):RowS w (setL lab u' r') base r v xs:=by
 obtain ⟨ps,h1,h2,h3,h4⟩:=h
 exact ⟨ps,h1,h2,h3.set (fun k hk=>(World.ownsRow.lt h2 k hk).2) hc hl,fun p hp=>(h4 p hp).set hc hl⟩
theorem RowM.set {xs:List (EnR × List Int)} {u u':Value} {r':Rl} (h:RowM w lab base r v xs) (hc:u'.ownBlock=u.ownBlock∨∃g,u'.ownBlock=some g∧w.heap.size≤g) (hl:Lab lab r' u):RowM w (setL lab u' r') base r v xs:=by
 obtain ⟨ps,h1,h2,h3,h4⟩:=h
 exact ⟨ps,h1,h2,h3.set (fun k hk=>(World.ownsRow.lt h2 k hk).2) hc hl,fun p hp=>(h4 p hp).set hc hl⟩
theorem RowS.nil:RowS w lab base r nilV []:=⟨[],rfl,OwnN.nil,Lab.nil _ _,fun _ h=>by cases h⟩
theorem RowM.nil:RowM w lab base r nilV []:=⟨[],rfl,OwnN.nil,Lab.nil _ _,fun _ h=>by cases h⟩
end
structure JSt (w:World) (lab:Nat→Rl) (s k kS kM:Nat) (x:Vw) (l:List EnR) (A:Option Addr) (n c:Nat) (mN mS mM:Lit→Value) (has:Int→Int→Bool) (pcs:Int→Int→Int→List PcX) (mts:Int→List (EnR × List Int)):Prop where
 vw:w.heap[s]? =some (.cells (cVw x) 29 (0,0))
 jd:w.heap[s+3]? =some (.cells (cJ x A n c (s+1) (s+2)) 168 (0,0))
 seen:MapV w 171 (s+4) k (.bool false) mN∧∀d q,int64 d→int64 q→mN (kN d q)= .bool (has d q)
 ent:OwnN fEn 6 55 w (s+5) (.slice A n c) l∧Lab lab .ent (.slice A n c)
 shm:MapV w 173 (s+1) kS nilV mS
 shr:∀d q y,int64 d→int64 q→int64 y→RowS w lab (s+5) (.sh (kR d q y)) (mS (kR d q y)) (pcs d q y)
 mtm:MapV w 3 (s+2) kM nilV mM
 mtr:∀y,int64 y→RowM w lab (s+5) (.mt (.int .i64 y)) (mM (.int .i64 y)) (mts y)
 fix:∀i,i < 5→lab (s+i)= .fix i
 lo:∀i,i < s→lab i= .fix 9
 hi:s+5≤w.heap.size∧∀i,w.heap.size≤i→lab i= .dat
section
variable {w w':World} {lab:Nat→Rl} {s k kS kM:Nat} {x:Vw} {l:List EnR} {A:Option Addr} {n c:Nat} {mN mS mM:Lit→Value} {has:Int→Int→Bool} {pcs:Int→Int→Int→List PcX} {mts:Int→List (EnR × List Int)}
theorem JSt.on (h:JSt w lab s k kS kM x l A n c mN mS mM has pcs mts) (hb:Below w.heap.size w w'):JSt w' lab s k kS kM x l A n c mN mS mM has pcs mts:=by
 have hz:=h.hi.1
 have hf:FrP lab (fun _=>False) w w':=FrP.below hb
 have hk:∀i,i < 5→w'.heap[s+i]? =w.heap[s+i]? :=fun i hi=>hb.block _ (by omega)
 exact ⟨(hk 0 (by omega)).trans h.vw,(hk 3 (by omega)).trans h.jd,⟨h.seen.1.fr hf (fun h=>h),h.seen.2⟩,⟨OwnN.fr h.ent.1 h.ent.2 hf (fun h=>h),h.ent.2⟩,h.shm.fr hf (fun h=>h),fun d q y hd hq hy=>(h.shr d q y hd hq hy).fr hf (fun h=>h) (fun h=>h),h.mtm.fr hf (fun h=>h),fun y hy=>(h.mtr y hy).fr hf (fun h=>h) (fun h=>h),h.fix,h.lo,⟨Nat.le_trans hz hb.size,fun i hi=>h.hi.2 i (Nat.le_trans hb.size hi)⟩⟩
theorem JSt.under (h:JSt w lab s k kS kM x l A n c mN mS mM has pcs mts) (hb:But (fun i=>i < s) w w'):JSt w' lab s k kS kM x l A n c mN mS mM has pcs mts:=by
 have hz:=h.hi.1
 have hf:FrP lab (fun r=>r= .fix 9) w w':=⟨hb.size,fun k hk hn=>hb.block k hk (fun hs=>hn (h.lo k hs))⟩
 have hk:∀i,i < 5→w'.heap[s+i]? =w.heap[s+i]? :=fun i hi=>hb.block _ (by omega) (by omega)
 exact ⟨(hk 0 (by omega)).trans h.vw,(hk 3 (by omega)).trans h.jd,⟨h.seen.1.fr hf (by rw [h.fix 4 (by omega)];simp),h.seen.2⟩,⟨OwnN.fr h.ent.1 h.ent.2 hf (by simp),h.ent.2⟩,h.shm.fr hf (by rw [h.fix 1 (by omega)];simp),fun d q y hd hq hy=>(h.shr d q y hd hq hy).fr hf (by simp) (by simp),h.mtm.fr hf (by rw [h.fix 2 (by omega)];simp),fun y hy=>(h.mtr y hy).fr hf (by simp) (by simp),h.fix,h.lo,⟨Nat.le_trans hz hb.size,fun i hi=>h.hi.2 i (Nat.le_trans hb.size hi)⟩⟩
theorem JSt.note {d q:Int} (h:JSt w lab s k kS kM x l A n c mN mS mM has pcs mts) (hd:int64 d) (hq:int64 q) (hg:w.grownBy w' (some (s+4))) (hm:MapV w' 171 (s+4) (k+1) (.bool false) (putM mN (kN d q) (.bool true))):
 JSt w' lab s (k+1) kS kM x l A n c (putM mN (kN d q) (.bool true)) mS mM (fun d' q'=>has d' q'||(decide (d'=d)&&decide (q'=q))) pcs mts:=by
 have hz:=h.hi.1
 have hf:FrP lab (fun r=>r= .fix 4) w w':=FrP.blk hg (h.fix 4 (by omega))
 have hk:∀i,i < 4→w'.heap[s+i]? =w.heap[s+i]? :=fun i hi=>hf.same _ (by omega) (by rw [h.fix i (by omega)];simp;omega)
 refine ⟨(hk 0 (by omega)).trans h.vw,(hk 3 (by omega)).trans h.jd,⟨hm,fun d' q' hd' hq'=>?_⟩,⟨OwnN.fr h.ent.1 h.ent.2 hf (by simp),h.ent.2⟩,h.shm.fr hf (by rw [h.fix 1 (by omega)];simp),fun d q y hd hq hy=>(h.shr d q y hd hq hy).fr hf (by simp) (by simp),h.mtm.fr hf (by rw [h.fix 2 (by omega)];simp),fun y hy=>(h.mtr y hy).fr hf (by simp) (by simp),h.fix,h.lo,⟨Nat.le_trans hz hg.size,fun i hi=>h.hi.2 i (Nat.le_trans hg.size hi)⟩⟩
 by_cases he:d'=d∧q'=q
 ·obtain ⟨rfl,rfl⟩:=he
  rw [putM_same];simp
 ·rw [putM_other (fun e=>he (kN_inj hd' hq' hd hq e)),h.seen.2 d' q' hd' hq']
  have:(decide (d'=d)&&decide (q'=q))=false:=by
   rcases Decidable.not_and_iff_not_or_not.1 he with h1 |h1<;>simp [h1]
  rw [this,Bool.or_false]
theorem JSt.more {k' kS' kM':Nat} (h:JSt w lab s k kS kM x l A n c mN mS mM has pcs mts) (h1:k≤k') (h2:kS≤kS') (h3:kM≤kM'):JSt w lab s k' kS' kM' x l A n c mN mS mM has pcs mts:=
 ⟨h.vw,h.jd,⟨h.seen.1.mono h1,h.seen.2⟩,h.ent,h.shm.mono h2,h.shr,h.mtm.mono h3,h.mtr,h.fix,h.lo,h.hi⟩
theorem JSt.put_ent {e:EnR} {A':Option Addr} {n' c':Nat} (h:JSt w lab s k kS kM x l A n c mN mS mM has pcs mts) (hf:FrP lab (fun r=>r= .ent∨r= .fix 3) w w') (hj:w'.heap[s+3]? =some (.cells (cJ x A' n' c' (s+1) (s+2)) 168 (0,0)))
 (ho:OwnN fEn 6 55 w' (s+5) (.slice A' n' c') (l++[e])) (hc:(Value.slice A' n' c').ownBlock=(Value.slice A n c).ownBlock∨∃g,(Value.slice A' n' c').ownBlock=some g∧w.heap.size≤g):
 JSt w' (setL lab (.slice A' n' c') .ent) s k kS kM x (l++[e]) A' n' c' mN mS mM has pcs mts:=by
 have hz:=h.hi.1
 have hl:=h.ent.2
 have hf':=hf.set hc hl
 have hlo:∀i,i < 5→setL lab (.slice A' n' c') .ent (s+i)= .fix i:=fun i hi=>by rw [setL_lt hc hl (by omega)];exact h.fix i hi
 have hk:∀i,i < 5→i≠3→w'.heap[s+i]? =w.heap[s+i]? :=fun i hi h3=>hf.same _ (by omega) (by rw [h.fix i hi];simp;exact h3)
 have hown:∀g,(Value.slice A' n' c').ownBlock=some g→g < w'.heap.size:=fun g hg=>(World.ownsRow.lt ho g hg).2
 refine ⟨(hk 0 (by omega) (by omega)).trans h.vw,hj,⟨h.seen.1.fr hf' (by rw [hlo 4 (by omega)];simp),h.seen.2⟩,⟨ho,setL_same _ _ _⟩,h.shm.fr hf' (by rw [hlo 1 (by omega)];simp),fun d q y hd hq hy=>((h.shr d q y hd hq hy).set hc hl).fr hf' (by simp) (by simp),h.mtm.fr hf' (by rw [hlo 2 (by omega)];simp),fun y hy=>((h.mtr y hy).set hc hl).fr hf' (by simp) (by simp),hlo,(fun i hi=>by rw [setL_lt hc hl (by omega)];exact h.lo i hi),⟨Nat.le_trans hz hf.le,fun i hi=>?_⟩⟩
 rw [setL_hi hown hi]
 exact h.hi.2 i (Nat.le_trans hf.le hi)
theorem JSt.put_pc {d q y:Int} {v':Value} {ps:List PcR} {p:PcR} {pcs':Int→Int→Int→List PcX} (h:JSt w lab s k kS kM x l A n c mN mS mM has pcs mts) (hd:int64 d) (hq:int64 q) (hy:int64 y)
 (hps:ps.map (·.x)=pcs d q y) (hpk:∀u∈ps,PcK w lab u) (hl:Lab lab (.sh (kR d q y)) (mS (kR d q y))) (hp:PcK w lab p)
 (hf:FrP lab (fun r=>r= .sh (kR d q y)∨r= .fix 1) w w') (hm:MapV w' 173 (s+1) (kS+1) nilV (putM mS (kR d q y) v'))
 (ho:OwnN fPc 4 42 w' (s+5) v' (ps++[p])) (hc:v'.ownBlock=(mS (kR d q y)).ownBlock∨∃g,v'.ownBlock=some g∧w.heap.size≤g)
 (hn:pcs' d q y=pcs d q y++[p.x]) (hn':∀d' q' y',¬(d'=d∧q'=q∧y'=y)→pcs' d' q' y'=pcs d' q' y'):
 JSt w' (setL lab v' (.sh (kR d q y))) s k (kS+1) kM x l A n c mN (putM mS (kR d q y) v') mM has pcs' mts:=by
 have hz:=h.hi.1
 have hf':=hf.set hc hl
 have hlo:∀i,i < 5→setL lab v' (.sh (kR d q y)) (s+i)= .fix i:=fun i hi=>by rw [setL_lt hc hl (by omega)];exact h.fix i hi
 have hk:∀i,i < 5→i≠1→w'.heap[s+i]? =w.heap[s+i]? :=fun i hi h3=>hf.same _ (by omega) (by rw [h.fix i hi];simp;exact h3)
 have hown:∀g,v'.ownBlock=some g→g < w'.heap.size:=fun g hg=>(World.ownsRow.lt ho g hg).2
 refine ⟨(hk 0 (by omega) (by omega)).trans h.vw,(hk 3 (by omega) (by omega)).trans h.jd,⟨h.seen.1.fr hf' (by rw [hlo 4 (by omega)];simp),h.seen.2⟩,⟨OwnN.fr h.ent.1 (h.ent.2.set (fun k hk=>(World.ownsRow.lt h.ent.1 k hk).2) hc hl) hf' (by simp),h.ent.2.set (fun k hk=>(World.ownsRow.lt h.ent.1 k hk).2) hc hl⟩,hm,fun d' q' y' hd' hq' hy'=>?_,h.mtm.fr hf' (by rw [hlo 2 (by omega)];simp),fun y hy=>((h.mtr y hy).set hc hl).fr hf' (by simp) (by simp),hlo,(fun i hi=>by rw [setL_lt hc hl (by omega)];exact h.lo i hi),⟨Nat.le_trans hz hf.le,fun i hi=>?_⟩⟩
 ·by_cases he:d'=d∧q'=q∧y'=y
  ·obtain ⟨rfl,rfl,rfl⟩:=he
   rw [putM_same,hn]
   refine ⟨ps++[p],by simp [hps],ho,setL_same _ _ _,fun u hu=>?_⟩
   rcases List.mem_append.1 hu with hu |hu
   ·exact ((hpk u hu).set hc hl).fr hf' (by simp)
   ·obtain rfl:u=p:=by simpa using hu
    exact (hp.set hc hl).fr hf' (by simp)
  ·rw [hn' d' q' y' he]
   have hne:kR d' q' y'≠kR d q y:=fun e=>he (kR_inj hd' hq' hy' hd hq hy e)
   rw [putM_other hne]
   exact ((h.shr d' q' y' hd' hq' hy').set hc hl).fr hf' (by simp [hne]) (by simp)
 ·rw [setL_hi hown hi]
  exact h.hi.2 i (Nat.le_trans hf.le hi)
theorem JSt.put_mt {y:Int} {v':Value} {ms:List MtR} {m:MtR} {mts':Int→List (EnR × List Int)} (h:JSt w lab s k kS kM x l A n c mN mS mM has pcs mts) (hy:int64 y)
 (hps:ms.map (fun m=>(m.e,m.v))=mts y) (hpk:∀u∈ms,MtK w lab u) (hl:Lab lab (.mt (.int .i64 y)) (mM (.int .i64 y))) (hp:MtK w lab m)
 (hf:FrP lab (fun r=>r= .mt (.int .i64 y)∨r= .fix 2) w w') (hm:MapV w' 3 (s+2) (kM+1) nilV (putM mM (.int .i64 y) v'))
 (ho:OwnN fMt 7 176 w' (s+5) v' (ms++[m])) (hc:v'.ownBlock=(mM (.int .i64 y)).ownBlock∨∃g,v'.ownBlock=some g∧w.heap.size≤g)
 (hn:mts' y=mts y++[(m.e,m.v)]) (hn':∀y',y'≠y→mts' y'=mts y'):
 JSt w' (setL lab v' (.mt (.int .i64 y))) s k kS (kM+1) x l A n c mN mS (putM mM (.int .i64 y) v') has pcs mts':=by
 have hz:=h.hi.1
 have hf':=hf.set hc hl
 have hlo:∀i,i < 5→setL lab v' (.mt (.int .i64 y)) (s+i)= .fix i:=fun i hi=>by rw [setL_lt hc hl (by omega)];exact h.fix i hi
 have hk:∀i,i < 5→i≠2→w'.heap[s+i]? =w.heap[s+i]? :=fun i hi h3=>hf.same _ (by omega) (by rw [h.fix i hi];simp;exact h3)
 have hown:∀g,v'.ownBlock=some g→g < w'.heap.size:=fun g hg=>(World.ownsRow.lt ho g hg).2
 refine ⟨(hk 0 (by omega) (by omega)).trans h.vw,(hk 3 (by omega) (by omega)).trans h.jd,⟨h.seen.1.fr hf' (by rw [hlo 4 (by omega)];simp),h.seen.2⟩,⟨OwnN.fr h.ent.1 (h.ent.2.set (fun k hk=>(World.ownsRow.lt h.ent.1 k hk).2) hc hl) hf' (by simp),h.ent.2.set (fun k hk=>(World.ownsRow.lt h.ent.1 k hk).2) hc hl⟩,h.shm.fr hf' (by rw [hlo 1 (by omega)];simp),fun d q y hd hq hy=>((h.shr d q y hd hq hy).set hc hl).fr hf' (by simp) (by simp),hm,fun y' hy'=>?_,hlo,(fun i hi=>by rw [setL_lt hc hl (by omega)];exact h.lo i hi),⟨Nat.le_trans hz hf.le,fun i hi=>?_⟩⟩
 ·by_cases he:y'=y
  ·subst he
   rw [putM_same,hn]
   refine ⟨ms++[m],by simp [hps],ho,setL_same _ _ _,fun u hu=>?_⟩
   rcases List.mem_append.1 hu with hu |hu
   ·exact ((hpk u hu).set hc hl).fr hf' (by simp)
   ·obtain rfl:u=m:=by simpa using hu
    exact (hp.set hc hl).fr hf' (by simp)
  ·rw [hn' y' he]
   have hne:(Lit.int .i64 y')≠Lit.int .i64 y:=fun e=>he (by injection e)
   rw [putM_other hne]
   exact ((h.mtr y' hy').set hc hl).fr hf' (by simp;exact he) (by simp)
 ·rw [setL_hi hown hi]
  exact h.hi.2 i (Nat.le_trans hf.le hi)
end
def hasE (l:List EnR) (d q:Int):Bool:=l.any fun e=>decide (e.dv=d)&&decide (e.sq=q)
def putE (l:List EnR) (e:EnR):List EnR:=if hasE l e.dv e.sq=true then l else l++[e]
def frE (es:List EnR):List EnR:=es.foldl putE []
theorem frE_snoc (l:List EnR) (e:EnR):frE (l++[e])=putE (frE l) e:=by simp [frE]
theorem putE_yes {l:List EnR} {e:EnR} (h:hasE l e.dv e.sq=true):putE l e=l:=by simp [putE,h]
theorem putE_no {l:List EnR} {e:EnR} (h:hasE l e.dv e.sq=false):putE l e=l++[e]:=by simp [putE,h]
theorem hasE_snoc (l:List EnR) (e:EnR) (d q:Int):hasE (l++[e]) d q=(hasE l d q||(decide (e.dv=d)&&decide (e.sq=q))):=by simp [hasE]
theorem frE_take {es:List EnR} {k:Nat} {e:EnR} (h:es[k]? =some e):frE (es.take (k+1))=putE (frE (es.take k)) e:=by
 rw [List.take_add_one,h];exact frE_snoc _ _
theorem putE_len (l:List EnR) (e:EnR):(putE l e).length≤l.length+1:=by unfold putE;split<;>simp
theorem frE_len:∀(es:List EnR) (k:Nat),(frE (es.take k)).length≤k
 |es,0=>by simp [frE]
 |es,k+1=>by
  rcases h:es[k]? with _ |e
  ·have:es.take (k+1)=es.take k:=by rw [List.take_add_one,h];simp
   rw [this];have:=frE_len es k;omega
  ·rw [frE_take h];have:=putE_len (frE (es.take k)) e;have:=frE_len es k;omega
theorem putE_mem {l:List EnR} {e x:EnR} (h:x∈putE l e):x∈l∨x=e:=by
 unfold putE at h
 split at h
 ·exact .inl h
 ·simpa using h
structure AqX where
 er:Int
 d:Int
 q:Int
 x:PcX
structure MtX where
 er:Int
 q:Int
 v:List Int
section
variable (aq:EnR→AqX) (mt:EnR→MtX)
def pcE (e:EnR) (d q y:Int):Option PcX:=if e.k=7∧(aq e).er=0∧d=(aq e).d∧q=(aq e).q∧y=e.dv then some (aq e).x else none
def pcsE (l:List EnR) (d q y:Int):List PcX:=l.filterMap fun e=>pcE aq e d q y
def mtE (e:EnR) (y:Int):Option (EnR × List Int):=if e.k=9∧(mt e).er=0∧y=e.dv then some (e,(mt e).v) else none
def mtsE (l:List EnR) (y:Int):List (EnR × List Int):=l.filterMap fun e=>mtE mt e y
theorem pcsE_snoc (l:List EnR) (e:EnR) (d q y:Int):pcsE aq (l++[e]) d q y=pcsE aq l d q y++(pcE aq e d q y).toList:=by
 unfold pcsE
 rw [List.filterMap_append]
 cases h:pcE aq e d q y<;>simp [h]
theorem mtsE_snoc (l:List EnR) (e:EnR) (y:Int):mtsE mt (l++[e]) y=mtsE mt l y++(mtE mt e y).toList:=by
 unfold mtsE
 rw [List.filterMap_append]
 cases h:mtE mt e y<;>simp [h]
theorem pcsE_same {l:List EnR} {e:EnR} (h:¬(e.k=7∧(aq e).er=0)):pcsE aq (l++[e])=pcsE aq l:=by
 funext d q y
 rw [pcsE_snoc]
 have:pcE aq e d q y=none:=by unfold pcE;rw [if_neg (fun g=>h ⟨g.1,g.2.1⟩)]
 simp [this]
theorem mtsE_same {l:List EnR} {e:EnR} (h:¬(e.k=9∧(mt e).er=0)):mtsE mt (l++[e])=mtsE mt l:=by
 funext y
 rw [mtsE_snoc]
 have:mtE mt e y=none:=by unfold mtE;rw [if_neg (fun g=>h ⟨g.1,g.2.1⟩)]
 simp [this]
theorem pcsE_put {l:List EnR} {e:EnR} (h1:e.k=7) (h2:(aq e).er=0):pcsE aq (l++[e]) (aq e).d (aq e).q e.dv=pcsE aq l (aq e).d (aq e).q e.dv++[(aq e).x]:=by
 rw [pcsE_snoc]
 simp [pcE,h1,h2]
theorem pcsE_far {l:List EnR} {e:EnR} {d q y:Int} (h:¬(d=(aq e).d∧q=(aq e).q∧y=e.dv)):pcsE aq (l++[e]) d q y=pcsE aq l d q y:=by
 rw [pcsE_snoc]
 have:pcE aq e d q y=none:=by unfold pcE;rw [if_neg (fun g=>h g.2.2)]
 simp [this]
theorem mtsE_put {l:List EnR} {e:EnR} (h1:e.k=9) (h2:(mt e).er=0):mtsE mt (l++[e]) e.dv=mtsE mt l e.dv++[(e,(mt e).v)]:=by
 rw [mtsE_snoc]
 simp [mtE,h1,h2]
theorem mtsE_far {l:List EnR} {e:EnR} {y:Int} (h:y≠e.dv):mtsE mt (l++[e]) y=mtsE mt l y:=by
 rw [mtsE_snoc]
 have:mtE mt e y=none:=by unfold mtE;rw [if_neg (fun g=>h g.2.2)]
 simp [this]
end
