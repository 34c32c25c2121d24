/- The arguments opened: slices of integers. The arguments opened: rows of receipts. The arguments opened: bytes, strings, a piece. The arguments opened: a receipt with its lists' contents, a token. An entry of the log opened. The arguments opened: views, accusations. The judge's memory: what its boxes, rows and maps hold, and what a further entry, piece or meeting makes of it. Plainly: the entries of a view that count, the acquittals and meetings among them. -/
import Derived.Lib.SmallJoins
import Derived.Test.YtpdledjgbgalcaaGreatDoorRows
import Derived.Test.YtpdledjgbgalcaaGreatDoorMa
import Derived.WalkKit
import Derived.ProofKit
import Derived.OpenShut
import Derived.ChangeOld
import Derived.Below
import Derived.Test.YtpdledjgbgalcaaGreatDoorPm
import Derived.Deep.Slices
import Derived.Deep.Fields
import Derived.Test.YtpdledjgbgalcaaGreatDoorPh
import Derived.Test.YtpdledjgbgalcaaGreatDoorS4
import Derived.Test.YtpdledjgbgalcaaGreatDoorNP
import Derived.Test.YtpdledjgbgalcaaGreatDoorPc
namespace Go.Proofs.YtpdledjgbgalcaaGreatDoor
open Go.ChangeShapes Go.WideShapes Go.ChangeAt Go.RowKit
set_option linter.unusedVariables false
set_option linter.unusedSimpArgs false
def IsRow (k:IntKind) (w:World) (a:Option Addr) (len cap:Nat) (zs:List Int):Prop:=
 (a=none∧len=0∧cap=0∧zs=[])∨
 ∃x,a=some x∧len≤cap∧cap≤maxLen∧zs.length=cap∧(∀i,i < zs.length→w.cell? (x.add i)=some (.int k (zs.getD i 0)))∧∀n∈zs,(Lit.int k n).wf=true
theorem IsRow.sl {k:IntKind} {w:World} {a:Option Addr} {len cap:Nat} {zs:List Int} (h:IsRow k w a len cap zs):Sl (Value.int k) w w.heap.size a len (zs.take len)∧len≤cap:=by
 rcases h with ⟨rfl,rfl,rfl,rfl⟩ |⟨x,rfl,hl,_,hz,hc,_⟩
 ·exact ⟨⟨rfl,SL.nil⟩,Nat.le_refl _⟩
 ·have hlen:(zs.take len).length=len:=by rw [List.length_take];omega
  refine ⟨⟨hlen,fun hn=>?_⟩,hl⟩;have h0:=hc 0 om;obtain ⟨b,off,spot⟩:=x;have hspot:spot=none:=by simpa [Addr.add] using World.cell?_spot h0
  subst hspot;refine ⟨b,off,rfl,block_lt_of_cell (a:=⟨b,off,none⟩) (by simpa [Addr.add] using h0),fun i z hz'=>?_⟩;have hi:i < len:=by have:=(List.getElem?_eq_some_iff.1 hz').1;omega
  have:=hc i om
  rw [Addr.add_mid] at this;rw [this];rw [List.getElem?_take,if_pos hi] at hz';rw [ybg hz']
section
variable {H:Type} {enc:TypeId × Value→H} {W:World} {d:DataW H} {p:List MemPlace}
end
open Go.ChangeShapes Go.WideShapes Go.ChangeAt Go.RowKit Go.Deep
instance:Inhabited Hd:=⟨⟨none,0,0⟩⟩
instance:Inhabited Rcp:=⟨⟨0,0,⟨#[]⟩,0,0,0,0,0,0,⟨#[]⟩,⟨none,0,0⟩,0,⟨none,0,0⟩,⟨none,0,0⟩⟩⟩
section
variable {H:Type} {enc:TypeId × Value→H} {W:World} {d:DataW H} {p:List MemPlace}
theorem in_slice {α:Type} [Inhabited α] {f:α→List Value} {s:Nat} {t e:TypeId} (ht:Tryz.prog.underlying t=some (.slice e)) (hC:Tryz.prog.cellsOf e=s) (hs0:0 < s) (hf:∀x,(f x).length=s) {Pr:α→Prop}
 (hel:∀(fuel:Nat) (cs:List Value) (y:DataW H × List MemPlace),DataW.trod enc Tryz.prog W 0 (fun _=>true) true fuel e cs=some y→∃x,cs=f x∧Pr x) {fuel:Nat} {cs:List Value} {y:DataW H × List MemPlace}
 (h:DataW.trod enc Tryz.prog W 0 (fun _=>true) true fuel t cs=some y):∃a n c xs,cs=[.slice a n c]∧n≤c∧c≤maxLen∧SlN f s W W.heap.size a n xs∧∀x∈xs,Pr x:=by
 rcases open_slice ht h with ⟨rfl,_⟩ |⟨x,l,c,m,nn,D,Pl,rfl,_,hl,hm,hmm,_,hi⟩
 ·exact ⟨none,0,0,[],rfl,Nat.le_refl _,Nat.zero_le _,SlN.nil,fun x hx=>by cases hx⟩
 ·simp only [if_true] at hmm
  subst hmm
  have each:∀i,i < l→∃r:α,(∀j v,(f r)[j]? =some v→W.cell? (x.add (i*s+j))=some v)∧Pr r:=by
   intro i hil;obtain ⟨cs',hc,ht'⟩:=hi i om;rw [hC] at hc;obtain ⟨_,hcl,hat⟩:=World.cells?_some hc;obtain ⟨r,rfl,hr⟩:=hel _ _ _ ht';refine ⟨r,fun j v hv=>?_,hr⟩;have hj:j < s:=by have:=(List.getElem?_eq_some_iff.1 hv).1;rw [hf] at this;exact this
   rw [←Go.Deep.add_add,hat j hj];exact hv
  obtain ⟨R,hR⟩:=choose_lt each;refine ⟨some x,l,_,(List.range l).map R,rfl,hl,hm,⟨by simp,fun hn=>?_⟩,fun z hz=>?_⟩
  ·simp at hn
   obtain ⟨u,hu⟩:∃u,(f (R 0))[0]? =some u:=⟨_,List.getElem?_eq_getElem (by rw [hf];exact hs0)⟩
   have h0:=(hR 0 hn).1 0 u hu;obtain ⟨b,off,spot⟩:=x;have hspot:spot=none:=by simpa [Addr.add] using World.cell?_spot h0
   subst hspot;refine ⟨b,off,rfl,block_lt_of_cell (a:=⟨b,off,none⟩) (by simpa [Addr.add] using h0),fun i z hz' j v hv=>?_⟩;rw [List.getElem?_map] at hz'
   have hil:i < l:=by
    rcases Nat.lt_or_ge i l with h |h
    ·exact h
    ·rw [List.getElem?_eq_none (by simpa using h)] at hz';cases hz'
   rw [List.getElem?_range hil] at hz'
   cases hz'
   have:=(hR i hil).1 j v hv
   rw [Addr.add_mid] at this;exact this
  ·obtain ⟨i,hi',rfl⟩:=List.mem_map.1 hz
   exact (hR i (List.mem_range.1 hi')).2
end
theorem SlN.one {α:Type} {f:α→Value} {w:World} {B n:Nat} {A:Option Addr} {xs:List α} (h:SlN (fun x=>[f x]) 1 w B A n xs):Sl f w B A n xs:=⟨h.1,fun hn=>by
 obtain ⟨b,off,e,hlt,hc⟩:=h.2 (by simpa using hn);refine ⟨b,off,e,hlt,fun k x hk=>?_⟩
 have:=hc k x hk 0 (f x) rfl
 simpa using this⟩
instance:Inhabited ByteArray:=⟨⟨#[]⟩⟩
section
variable {H:Type} {enc:TypeId × Value→H} {W:World} {d:DataW H} {p:List MemPlace}
theorem Tryz.cellsB:Tryz.prog.cellsOf 5=1:=by kernel_rfl
end
section
variable {H:Type} {enc:TypeId × Value→H} {W:World} {d:DataW H} {p:List MemPlace}
end
section
variable {H:Type} {enc:TypeId × Value→H} {W:World} {d:DataW H} {p:List MemPlace}
end
structure EnR where
 dv:Int
 sq:Int
 k:Int
 dy:Int
 bd:Hd
 pr:ByteArray
 bs:List Int
abbrev fEn (e:EnR):List Value:=[.int .i64 e.dv,.int .i64 e.sq,.int .i64 e.k,.int .i64 e.dy,.slice e.bd.a e.bd.n e.bd.c,.string e.pr]
theorem yb6:∀e,(fEn e).length=6:=fun _=>rfl
def EnOk (w:World) (B:Nat) (e:EnR):Prop:=Sl fB w B e.bd.a e.bd.n e.bs∧Byt e.bs∧e.bd.n≤e.bd.c∧True∧int64 e.dv∧int64 e.sq
def EnIn (w:World) (B:Nat) (A:Option Addr) (n:Nat) (es:List EnR):Prop:=SlN fEn 6 w B A n es∧∀e∈es,EnOk w B e
theorem EnOk.up {w w':World} {B B':Nat} {e:EnR} (h:EnOk w B e) (hb:Below B' w w') (hB:B≤B'):EnOk w' B e:=⟨h.1.up hb hB,h.2⟩
theorem EnIn.up {w w':World} {B B' n:Nat} {A:Option Addr} {es:List EnR} (h:EnIn w B A n es) (hb:Below B' w w') (hB:B≤B'):EnIn w' B A n es:=⟨h.1.up hb hB,fun e he=>(h.2 e he).up hb hB⟩
structure VwIn (w:World) (B:Nat) (x:Vw) (es:List EnR) (vs:List VtR) (pubs drs:List ByteArray) (fks:List Int):Prop where
 E:EnIn w B x.E.a x.E.n es
 V:VtIn w B x.V.a x.V.n vs
 P:Sl fT w B x.P.a x.P.n pubs
 D:Sl fT w B x.D.a x.D.n drs
 F:Sl I w B x.F.a x.F.n fks
 cs:x.E.n≤9223372036854775807∧x.E.n≤x.E.c∧x.V.n≤x.V.c∧x.P.n≤x.P.c∧x.D.n≤x.D.c∧x.F.n≤x.F.c
theorem VwIn.up {w w':World} {B B':Nat} {x:Vw} {es:List EnR} {vs:List VtR} {pubs drs:List ByteArray} {fks:List Int} (h:VwIn w B x es vs pubs drs fks) (hb:Below B' w w') (hB:B≤B'):VwIn w' B x es vs pubs drs fks:=
 ⟨h.E.up hb hB,h.V.up hb hB,h.P.up hb hB,h.D.up hb hB,h.F.up hb hB,h.cs⟩
instance:Inhabited VtR:=⟨⟨0,⟨none,0,0⟩,0,0,0,⟨#[]⟩,0,0,0,0,0,0,0,0,0,[]⟩⟩
instance:Inhabited EnR:=⟨⟨0,0,0,0,⟨none,0,0⟩,⟨#[]⟩,[]⟩⟩
section
variable {H:Type} {enc:TypeId × Value→H} {W:World} {d:DataW H} {p:List MemPlace}
theorem in_btsM {fuel:Nat} {cs:List Value} {y:DataW H × List MemPlace} (h:DataW.trod enc Tryz.prog W 0 (fun _=>true) true fuel 40 cs=some y):∃a n c xs,cs=[.slice a n c]∧n≤c∧c≤maxLen∧Sl fB W W.heap.size a n xs∧Byt xs:=by
 obtain ⟨a,n,c,xs,e,h1,h0,h2,h3⟩:=in_slice (f:=fun s=>[fB s]) (s:=1) (Pr:=fun x:Int=>0≤x∧x < 256) Tryz.underlying40 Tryz.cellsB de (fun _=>rfl) (fun _ _ _ h=>by
  obtain ⟨z,e,_,hw⟩:=DataW.trod_int Tryz.underlying5 h;refine ⟨z,e,?_⟩;simp [Lit.wf,IntKind.min,IntKind.max,IntKind.signed,IntKind.bits] at hw
  omega) h
 exact ⟨a,n,c,xs,e,h1,h0,h2.one,h3⟩
end
open Go.RowKit
structure PcX where
 st:ByteArray
 ix:Int
 xs:List Int
 ys:List ByteArray
structure PcR where
 x:PcX
 d:Hd
 q:Hd
abbrev fPc (p:PcR):List Value:=[.string p.x.st,.int .i64 p.x.ix,.slice p.d.a p.d.n p.d.c,.slice p.q.a p.q.n p.q.c]
theorem fPc_len:∀p,(fPc p).length=4:=fun _=>rfl
structure MtR where
 e:EnR
 h:Hd
 v:List Int
abbrev fMt (m:MtR):List Value:=fEn m.e++[.slice m.h.a m.h.n m.h.c]
theorem fMt_len:∀m,(fMt m).length=7:=fun _=>rfl
def PcK (w:World) (lab:Nat→Rl) (p:PcR):Prop:=(Sl fB w w.heap.size p.d.a p.d.n p.x.xs∧DatB lab p.d.a p.d.n)∧(Sl fT w w.heap.size p.q.a p.q.n p.x.ys∧DatB lab p.q.a p.q.n)∧p.d.n≤p.d.c∧p.q.n≤p.q.c
def MtK (w:World) (lab:Nat→Rl) (m:MtR):Prop:=Sl I w w.heap.size m.h.a m.h.n m.v∧DatB lab m.h.a m.h.n
abbrev cJ (x:Vw) (A:Option Addr) (n c b1 b2:Nat):Array Value:=#[.slice x.E.a x.E.n x.E.c,.slice x.V.a x.V.n x.V.c,.slice x.P.a x.P.n x.P.c,.int .i64 x.b,.int .i64 x.h,.slice x.D.a x.D.n x.D.c,.slice x.F.a x.F.n x.F.c,.slice A n c,.map (some b1),.map (some b2)]
abbrev nilV:Value:= .slice none 0 0
section
variable {lab:Nat→Rl} {P:Rl→Prop} {w w':World}
theorem PcK.fr {p:PcR} (h:PcK w lab p) (hf:FrP lab P w w') (hr:¬P .dat):PcK w' lab p:=⟨⟨h.1.1.fr h.1.2 hf hr,h.1.2⟩,⟨h.2.1.1.fr h.2.1.2 hf hr,h.2.1.2⟩,h.2.2⟩
theorem MtK.fr {m:MtR} (h:MtK w lab m) (hf:FrP lab P w w') (hr:¬P .dat):MtK w' lab m:=⟨h.1.fr h.2 hf hr,h.2⟩
theorem PcK.set {p:PcR} {v v':Value} {r:Rl} (h:PcK w lab p) (hc:v'.ownBlock=v.ownBlock∨∃g,v'.ownBlock=some g∧w.heap.size≤g) (hl:Lab lab r v):PcK w (setL lab v' r) p:=⟨⟨h.1.1,h.1.2.set h.1.1 hc hl⟩,⟨h.2.1.1,h.2.1.2.set h.2.1.1 hc hl⟩,h.2.2⟩
theorem MtK.set {m:MtR} {v v':Value} {r:Rl} (h:MtK w lab m) (hc:v'.ownBlock=v.ownBlock∨∃g,v'.ownBlock=some g∧w.heap.size≤g) (hl:Lab lab r v):MtK w (setL lab v' r) m:=⟨h.1,h.2.set h.1 hc hl⟩
end
def RowS (w:World) (lab:Nat→Rl) (base:Nat) (r:Rl) (v:Value) (xs:List PcX):Prop:=
 ∃ps:List PcR,ps.map (·.x)=xs∧OwnN fPc 4 42 w base v ps∧Lab lab r v∧∀p∈ps,PcK w lab p
def RowM (w:World) (lab:Nat→Rl) (base:Nat) (r:Rl) (v:Value) (xs:List (EnR × List Int)):Prop:=
 ∃ms:List MtR,ms.map (fun m=>(m.e,m.v))=xs∧OwnN fMt 7 176 w base v ms∧Lab lab r v∧∀m∈ms,MtK w lab m
section
variable {lab:Nat→Rl} {P:Rl→Prop} {w w':World} {base:Nat} {r:Rl} {v:Value}
theorem RowS.fr {xs:List PcX} (h:RowS w lab base r v xs) (hf:FrP lab P w w') (hr:¬P r) (hd:¬P .dat):RowS w' lab base r v xs:=by
 obtain ⟨ps,h1,h2,h3,h4⟩:=h;exact ⟨ps,h1,OwnN.fr h2 h3 hf hr,h3,fun p hp=>(h4 p hp).fr hf hd⟩
theorem RowM.fr {xs:List (EnR × List Int)} (h:RowM w lab base r v xs) (hf:FrP lab P w w') (hr:¬P r) (hd:¬P .dat):RowM w' lab base r v xs:=by
 obtain ⟨ps,h1,h2,h3,h4⟩:=h;exact ⟨ps,h1,OwnN.fr h2 h3 hf hr,h3,fun p hp=>(h4 p hp).fr hf hd⟩
theorem RowS.set {xs:List PcX} {u u':Value} {r':Rl} (h:RowS w lab base r v xs) (hc:u'.ownBlock=u.ownBlock∨∃g,u'.ownBlock=some g∧w.heap.size≤g) (hl:Lab lab r' u):RowS w (setL lab u' r') base r v xs:=by
 obtain ⟨ps,h1,h2,h3,h4⟩:=h;exact ⟨ps,h1,h2,h3.set (fun k hk=>(World.ownsRow.lt h2 k hk).2) hc hl,fun p hp=>(h4 p hp).set hc hl⟩
theorem RowM.set {xs:List (EnR × List Int)} {u u':Value} {r':Rl} (h:RowM w lab base r v xs) (hc:u'.ownBlock=u.ownBlock∨∃g,u'.ownBlock=some g∧w.heap.size≤g) (hl:Lab lab r' u):RowM w (setL lab u' r') base r v xs:=by
 obtain ⟨ps,h1,h2,h3,h4⟩:=h;exact ⟨ps,h1,h2,h3.set (fun k hk=>(World.ownsRow.lt h2 k hk).2) hc hl,fun p hp=>(h4 p hp).set hc hl⟩
theorem RowS.nil:RowS w lab base r nilV []:=⟨[],rfl,OwnN.nil,Lab.nil _ _,fun _ h=>by cases h⟩
theorem RowM.nil:RowM w lab base r nilV []:=⟨[],rfl,OwnN.nil,Lab.nil _ _,fun _ h=>by cases h⟩
end
structure JSt (w:World) (lab:Nat→Rl) (s k kS kM:Nat) (x:Vw) (l:List EnR) (A:Option Addr) (n c:Nat) (mN mS mM:Lit→Value) (has:Int→Int→Bool) (pcs:Int→Int→Int→List PcX) (mts:Int→List (EnR × List Int)):Prop where
 vw:w.heap[s]? =some (.cells (cVw x) 29 (0,0))
 jd:w.heap[s+3]? =some (.cells (cJ x A n c (s+1) (s+2)) 168 (0,0))
 seen:MapV w 171 (s+4) k (.bool false) mN∧∀d q,int64 d→int64 q→mN (kN d q)= .bool (has d q)
 ent:OwnN fEn 6 55 w (s+5) (.slice A n c) l∧Lab lab .ent (.slice A n c)
 shm:MapV w 173 (s+1) kS nilV mS
 shr:∀d q y,int64 d→int64 q→int64 y→RowS w lab (s+5) (.sh (kR d q y)) (mS (kR d q y)) (pcs d q y)
 mtm:MapV w 3 (s+2) kM nilV mM
 mtr:∀y,int64 y→RowM w lab (s+5) (.mt (.int .i64 y)) (mM (.int .i64 y)) (mts y)
 fix:∀i,i < 5→lab (s+i)= .fix i
 lo:∀i,i < s→lab i= .fix 9
 hi:s+5≤w.heap.size∧∀i,w.heap.size≤i→lab i= .dat
section
variable {w w':World} {lab:Nat→Rl} {s k kS kM:Nat} {x:Vw} {l:List EnR} {A:Option Addr} {n c:Nat} {mN mS mM:Lit→Value} {has:Int→Int→Bool} {pcs:Int→Int→Int→List PcX} {mts:Int→List (EnR × List Int)}
theorem JSt.on (h:JSt w lab s k kS kM x l A n c mN mS mM has pcs mts) (hb:Below w.heap.size w w'):JSt w' lab s k kS kM x l A n c mN mS mM has pcs mts:=by
 have hz:=h.hi.1;have hf:FrP lab (fun _=>False) w w':=FrP.below hb;have hk:∀i,i < 5→w'.heap[s+i]? =w.heap[s+i]? :=fun i hi=>hb.block _ om
 exact ⟨(hk 0 om).trans h.vw,(hk 3 om).trans h.jd,⟨h.seen.1.fr hf (fun h=>h),h.seen.2⟩,⟨OwnN.fr h.ent.1 h.ent.2 hf (fun h=>h),h.ent.2⟩,h.shm.fr hf (fun h=>h),fun d q y hd hq hy=>(h.shr d q y hd hq hy).fr hf (fun h=>h) (fun h=>h),h.mtm.fr hf (fun h=>h),fun y hy=>(h.mtr y hy).fr hf (fun h=>h) (fun h=>h),h.fix,h.lo,⟨Nat.le_trans hz hb.size,fun i hi=>h.hi.2 i (Nat.le_trans hb.size hi)⟩⟩
theorem JSt.under (h:JSt w lab s k kS kM x l A n c mN mS mM has pcs mts) (hb:But (fun i=>i < s) w w'):JSt w' lab s k kS kM x l A n c mN mS mM has pcs mts:=by
 have hz:=h.hi.1;have hf:FrP lab (fun r=>r= .fix 9) w w':=⟨hb.size,fun k hk hn=>hb.block k hk (fun hs=>hn (h.lo k hs))⟩;have hk:∀i,i < 5→w'.heap[s+i]? =w.heap[s+i]? :=fun i hi=>hb.block _ om om
 exact ⟨(hk 0 om).trans h.vw,(hk 3 om).trans h.jd,⟨h.seen.1.fr hf (by rw [h.fix 4 om];simp),h.seen.2⟩,⟨OwnN.fr h.ent.1 h.ent.2 hf sI,h.ent.2⟩,h.shm.fr hf (by rw [h.fix 1 om];simp),fun d q y hd hq hy=>(h.shr d q y hd hq hy).fr hf sI sI,h.mtm.fr hf (by rw [h.fix 2 om];simp),fun y hy=>(h.mtr y hy).fr hf sI sI,h.fix,h.lo,⟨Nat.le_trans hz hb.size,fun i hi=>h.hi.2 i (Nat.le_trans hb.size hi)⟩⟩
theorem JSt.note {d q:Int} (h:JSt w lab s k kS kM x l A n c mN mS mM has pcs mts) (hd:int64 d) (hq:int64 q) (hg:w.grownBy w' (some (s+4))) (hm:MapV w' 171 (s+4) (k+1) (.bool false) (putM mN (kN d q) (.bool true))):
 JSt w' lab s (k+1) kS kM x l A n c (putM mN (kN d q) (.bool true)) mS mM (fun d' q'=>has d' q'||(decide (d'=d)&&decide (q'=q))) pcs mts:=by
 have hz:=h.hi.1;have hf:FrP lab (fun r=>r= .fix 4) w w':=FrP.blk hg (h.fix 4 om);have hk:∀i,i < 4→w'.heap[s+i]? =w.heap[s+i]? :=fun i hi=>hf.same _ om (by rw [h.fix i om];simp;omega)
 refine ⟨(hk 0 om).trans h.vw,(hk 3 om).trans h.jd,⟨hm,fun d' q' hd' hq'=>?_⟩,⟨OwnN.fr h.ent.1 h.ent.2 hf sI,h.ent.2⟩,h.shm.fr hf (by rw [h.fix 1 om];simp),fun d q y hd hq hy=>(h.shr d q y hd hq hy).fr hf sI sI,h.mtm.fr hf (by rw [h.fix 2 om];simp),fun y hy=>(h.mtr y hy).fr hf sI sI,h.fix,h.lo,⟨Nat.le_trans hz hg.size,fun i hi=>h.hi.2 i (Nat.le_trans hg.size hi)⟩⟩
 by_cases he:d'=d∧q'=q
 ·obtain ⟨rfl,rfl⟩:=he
  rw [ycV];simp
 ·rw [ycD (fun e=>he (kN_inj hd' hq' hd hq e)),h.seen.2 d' q' hd' hq']
  have:(decide (d'=d)&&decide (q'=q))=false:=by
   rcases Decidable.not_and_iff_not_or_not.1 he with h1 |h1<;>simp [h1]
  rw [this,Bool.or_false]
theorem JSt.more {k' kS' kM':Nat} (h:JSt w lab s k kS kM x l A n c mN mS mM has pcs mts) (h1:k≤k') (h2:kS≤kS') (h3:kM≤kM'):JSt w lab s k' kS' kM' x l A n c mN mS mM has pcs mts:=
 ⟨h.vw,h.jd,⟨h.seen.1.mono h1,h.seen.2⟩,h.ent,h.shm.mono h2,h.shr,h.mtm.mono h3,h.mtr,h.fix,h.lo,h.hi⟩
theorem JSt.put_ent {e:EnR} {A':Option Addr} {n' c':Nat} (h:JSt w lab s k kS kM x l A n c mN mS mM has pcs mts) (hf:FrP lab (fun r=>r= .ent∨r= .fix 3) w w') (hj:w'.heap[s+3]? =some (.cells (cJ x A' n' c' (s+1) (s+2)) 168 (0,0)))
 (ho:OwnN fEn 6 55 w' (s+5) (.slice A' n' c') (l++[e])) (hc:(Value.slice A' n' c').ownBlock=(Value.slice A n c).ownBlock∨∃g,(Value.slice A' n' c').ownBlock=some g∧w.heap.size≤g):
 JSt w' (setL lab (.slice A' n' c') .ent) s k kS kM x (l++[e]) A' n' c' mN mS mM has pcs mts:=by
 have hz:=h.hi.1;have hl:=h.ent.2;have hf':=hf.set hc hl;have hlo:∀i,i < 5→setL lab (.slice A' n' c') .ent (s+i)= .fix i:=fun i hi=>by rw [yb5 hc hl om];exact h.fix i hi
 have hk:∀i,i < 5→i≠3→w'.heap[s+i]? =w.heap[s+i]? :=fun i hi h3=>hf.same _ om (by rw [h.fix i hi];simp;exact h3)
 have hown:∀g,(Value.slice A' n' c').ownBlock=some g→g < w'.heap.size:=fun g hg=>(World.ownsRow.lt ho g hg).2
 refine ⟨(hk 0 om om).trans h.vw,hj,⟨h.seen.1.fr hf' (by rw [hlo 4 om];simp),h.seen.2⟩,⟨ho,setL_same _ _ _⟩,h.shm.fr hf' (by rw [hlo 1 om];simp),fun d q y hd hq hy=>((h.shr d q y hd hq hy).set hc hl).fr hf' sI sI,h.mtm.fr hf' (by rw [hlo 2 om];simp),fun y hy=>((h.mtr y hy).set hc hl).fr hf' sI sI,hlo,(fun i hi=>by rw [yb5 hc hl om];exact h.lo i hi),⟨Nat.le_trans hz hf.le,fun i hi=>?_⟩⟩;rw [setL_hi hown hi];exact h.hi.2 i (Nat.le_trans hf.le hi)
theorem JSt.put_pc {d q y:Int} {v':Value} {ps:List PcR} {p:PcR} {pcs':Int→Int→Int→List PcX} (h:JSt w lab s k kS kM x l A n c mN mS mM has pcs mts) (hd:int64 d) (hq:int64 q) (hy:int64 y)
 (hps:ps.map (·.x)=pcs d q y) (hpk:∀u∈ps,PcK w lab u) (hl:Lab lab (.sh (kR d q y)) (mS (kR d q y))) (hp:PcK w lab p)
 (hf:FrP lab (fun r=>r= .sh (kR d q y)∨r= .fix 1) w w') (hm:MapV w' 173 (s+1) (kS+1) nilV (putM mS (kR d q y) v'))
 (ho:OwnN fPc 4 42 w' (s+5) v' (ps++[p])) (hc:v'.ownBlock=(mS (kR d q y)).ownBlock∨∃g,v'.ownBlock=some g∧w.heap.size≤g)
 (hn:pcs' d q y=pcs d q y++[p.x]) (hn':∀d' q' y',¬(d'=d∧q'=q∧y'=y)→pcs' d' q' y'=pcs d' q' y'):
 JSt w' (setL lab v' (.sh (kR d q y))) s k (kS+1) kM x l A n c mN (putM mS (kR d q y) v') mM has pcs' mts:=by
 have hz:=h.hi.1;have hf':=hf.set hc hl;have hlo:∀i,i < 5→setL lab v' (.sh (kR d q y)) (s+i)= .fix i:=fun i hi=>by rw [yb5 hc hl om];exact h.fix i hi
 have hk:∀i,i < 5→i≠1→w'.heap[s+i]? =w.heap[s+i]? :=fun i hi h3=>hf.same _ om (by rw [h.fix i hi];simp;exact h3)
 have hown:∀g,v'.ownBlock=some g→g < w'.heap.size:=fun g hg=>(World.ownsRow.lt ho g hg).2
 refine ⟨(hk 0 om om).trans h.vw,(hk 3 om om).trans h.jd,⟨h.seen.1.fr hf' (by rw [hlo 4 om];simp),h.seen.2⟩,⟨OwnN.fr h.ent.1 (h.ent.2.set (fun k hk=>(World.ownsRow.lt h.ent.1 k hk).2) hc hl) hf' sI,h.ent.2.set (fun k hk=>(World.ownsRow.lt h.ent.1 k hk).2) hc hl⟩,hm,fun d' q' y' hd' hq' hy'=>?_,h.mtm.fr hf' (by rw [hlo 2 om];simp),fun y hy=>((h.mtr y hy).set hc hl).fr hf' sI sI,hlo,(fun i hi=>by rw [yb5 hc hl om];exact h.lo i hi),⟨Nat.le_trans hz hf.le,fun i hi=>?_⟩⟩
 ·by_cases he:d'=d∧q'=q∧y'=y
  ·obtain ⟨rfl,rfl,rfl⟩:=he
   rw [ycV,hn];refine ⟨ps++[p],by simp [hps],ho,setL_same _ _ _,fun u hu=>?_⟩;rcases List.mem_append.1 hu with hu |hu
   ·exact ((hpk u hu).set hc hl).fr hf' sI
   ·obtain rfl:u=p:=by simpa using hu
    exact (hp.set hc hl).fr hf' sI
  ·rw [hn' d' q' y' he]
   have hne:kR d' q' y'≠kR d q y:=fun e=>he (kR_inj hd' hq' hy' hd hq hy e)
   rw [ycD hne];exact ((h.shr d' q' y' hd' hq' hy').set hc hl).fr hf' (by simp [hne]) sI
 ·rw [setL_hi hown hi]
  exact h.hi.2 i (Nat.le_trans hf.le hi)
theorem JSt.put_mt {y:Int} {v':Value} {ms:List MtR} {m:MtR} {mts':Int→List (EnR × List Int)} (h:JSt w lab s k kS kM x l A n c mN mS mM has pcs mts) (hy:int64 y)
 (hps:ms.map (fun m=>(m.e,m.v))=mts y) (hpk:∀u∈ms,MtK w lab u) (hl:Lab lab (.mt (.int .i64 y)) (mM (.int .i64 y))) (hp:MtK w lab m)
 (hf:FrP lab (fun r=>r= .mt (.int .i64 y)∨r= .fix 2) w w') (hm:MapV w' 3 (s+2) (kM+1) nilV (putM mM (.int .i64 y) v'))
 (ho:OwnN fMt 7 176 w' (s+5) v' (ms++[m])) (hc:v'.ownBlock=(mM (.int .i64 y)).ownBlock∨∃g,v'.ownBlock=some g∧w.heap.size≤g)
 (hn:mts' y=mts y++[(m.e,m.v)]) (hn':∀y',y'≠y→mts' y'=mts y'):
 JSt w' (setL lab v' (.mt (.int .i64 y))) s k kS (kM+1) x l A n c mN mS (putM mM (.int .i64 y) v') has pcs mts':=by
 have hz:=h.hi.1;have hf':=hf.set hc hl;have hlo:∀i,i < 5→setL lab v' (.mt (.int .i64 y)) (s+i)= .fix i:=fun i hi=>by rw [yb5 hc hl om];exact h.fix i hi
 have hk:∀i,i < 5→i≠2→w'.heap[s+i]? =w.heap[s+i]? :=fun i hi h3=>hf.same _ om (by rw [h.fix i hi];simp;exact h3)
 have hown:∀g,v'.ownBlock=some g→g < w'.heap.size:=fun g hg=>(World.ownsRow.lt ho g hg).2
 refine ⟨(hk 0 om om).trans h.vw,(hk 3 om om).trans h.jd,⟨h.seen.1.fr hf' (by rw [hlo 4 om];simp),h.seen.2⟩,⟨OwnN.fr h.ent.1 (h.ent.2.set (fun k hk=>(World.ownsRow.lt h.ent.1 k hk).2) hc hl) hf' sI,h.ent.2.set (fun k hk=>(World.ownsRow.lt h.ent.1 k hk).2) hc hl⟩,h.shm.fr hf' (by rw [hlo 1 om];simp),fun d q y hd hq hy=>((h.shr d q y hd hq hy).set hc hl).fr hf' sI sI,hm,fun y' hy'=>?_,hlo,(fun i hi=>by rw [yb5 hc hl om];exact h.lo i hi),⟨Nat.le_trans hz hf.le,fun i hi=>?_⟩⟩
 ·by_cases he:y'=y
  ·subst he
   rw [ycV,hn];refine ⟨ms++[m],by simp [hps],ho,setL_same _ _ _,fun u hu=>?_⟩;rcases List.mem_append.1 hu with hu |hu
   ·exact ((hpk u hu).set hc hl).fr hf' sI
   ·obtain rfl:u=m:=by simpa using hu
    exact (hp.set hc hl).fr hf' sI
  ·rw [hn' y' he]
   have hne:(Lit.int .i64 y')≠Lit.int .i64 y:=fun e=>he (by injection e)
   rw [ycD hne];exact ((h.mtr y' hy').set hc hl).fr hf' (by simp;exact he) sI
 ·rw [setL_hi hown hi]
  exact h.hi.2 i (Nat.le_trans hf.le hi)
end
def hasE (l:List EnR) (d q:Int):Bool:=l.any fun e=>decide (e.dv=d)&&decide (e.sq=q)
def putE (l:List EnR) (e:EnR):List EnR:=if hasE l e.dv e.sq=true then l else l++[e]
def frE (es:List EnR):List EnR:=es.foldl putE []
theorem frE_snoc (l:List EnR) (e:EnR):frE (l++[e])=putE (frE l) e:=by simp [frE]
theorem frE_nil:frE []=[]:=rfl
theorem putE_yes {l:List EnR} {e:EnR} (h:hasE l e.dv e.sq=true):putE l e=l:=by simp [putE,h]
theorem putE_no {l:List EnR} {e:EnR} (h:hasE l e.dv e.sq=false):putE l e=l++[e]:=by simp [putE,h]
theorem hasE_snoc (l:List EnR) (e:EnR) (d q:Int):hasE (l++[e]) d q=(hasE l d q||(decide (e.dv=d)&&decide (e.sq=q))):=by simp [hasE]
theorem frE_take {es:List EnR} {k:Nat} {e:EnR} (h:es[k]? =some e):frE (es.take (k+1))=putE (frE (es.take k)) e:=by
 rw [List.take_add_one,h];exact frE_snoc _ _
theorem putE_len (l:List EnR) (e:EnR):(putE l e).length≤l.length+1:=by unfold putE;split<;>simp
theorem ydk:∀(es:List EnR) (k:Nat),(frE (es.take k)).length≤k
 |es,0=>by simp [frE]
 |es,k+1=>by
  rcases h:es[k]? with _ |e
  ·have:es.take (k+1)=es.take k:=by rw [List.take_add_one,h];simp
   rw [this];have:=ydk es k;omega
  ·rw [frE_take h];have:=putE_len (frE (es.take k)) e;have:=ydk es k;omega
theorem putE_mem {l:List EnR} {e x:EnR} (h:x∈putE l e):x∈l∨x=e:=by
 unfold putE at h
 split at h
 ·exact .inl h
 ·simpa using h
structure AqX where
 er:Int
 d:Int
 q:Int
 x:PcX
structure MtX where
 er:Int
 q:Int
 v:List Int
section
variable (aq:EnR→AqX) (mt:EnR→MtX)
def pcE (e:EnR) (d q y:Int):Option PcX:=if e.k=7∧(aq e).er=0∧d=(aq e).d∧q=(aq e).q∧y=e.dv then some (aq e).x else none
def pcsE (l:List EnR) (d q y:Int):List PcX:=l.filterMap fun e=>pcE aq e d q y
def mtE (e:EnR) (y:Int):Option (EnR × List Int):=if e.k=9∧(mt e).er=0∧y=e.dv then some (e,(mt e).v) else none
def mtsE (l:List EnR) (y:Int):List (EnR × List Int):=l.filterMap fun e=>mtE mt e y
theorem pcsE_snoc (l:List EnR) (e:EnR) (d q y:Int):pcsE aq (l++[e]) d q y=pcsE aq l d q y++(pcE aq e d q y).toList:=by
 unfold pcsE;rw [List.filterMap_append]
 cases h:pcE aq e d q y<;>simp [h]
theorem mtsE_snoc (l:List EnR) (e:EnR) (y:Int):mtsE mt (l++[e]) y=mtsE mt l y++(mtE mt e y).toList:=by
 unfold mtsE;rw [List.filterMap_append]
 cases h:mtE mt e y<;>simp [h]
theorem pcsE_same {l:List EnR} {e:EnR} (h:¬(e.k=7∧(aq e).er=0)):pcsE aq (l++[e])=pcsE aq l:=by
 funext d q y
 rw [pcsE_snoc]
 have:pcE aq e d q y=none:=by unfold pcE;rw [if_neg (fun g=>h ⟨g.1,g.2.1⟩)]
 simp [this]
theorem mtsE_same {l:List EnR} {e:EnR} (h:¬(e.k=9∧(mt e).er=0)):mtsE mt (l++[e])=mtsE mt l:=by
 funext y
 rw [mtsE_snoc]
 have:mtE mt e y=none:=by unfold mtE;rw [if_neg (fun g=>h ⟨g.1,g.2.1⟩)]
 simp [this]
theorem pcsE_put {l:List EnR} {e:EnR} (h1:e.k=7) (h2:(aq e).er=0):pcsE aq (l++[e]) (aq e).d (aq e).q e.dv=pcsE aq l (aq e).d (aq e).q e.dv++[(aq e).x]:=by
 rw [pcsE_snoc];simp [pcE,h1,h2]
theorem pcsE_far {l:List EnR} {e:EnR} {d q y:Int} (h:¬(d=(aq e).d∧q=(aq e).q∧y=e.dv)):pcsE aq (l++[e]) d q y=pcsE aq l d q y:=by
 rw [pcsE_snoc]
 have:pcE aq e d q y=none:=by unfold pcE;rw [if_neg (fun g=>h g.2.2)]
 simp [this]
theorem mtsE_put {l:List EnR} {e:EnR} (h1:e.k=9) (h2:(mt e).er=0):mtsE mt (l++[e]) e.dv=mtsE mt l e.dv++[(e,(mt e).v)]:=by
 rw [mtsE_snoc];simp [mtE,h1,h2]
theorem mtsE_far {l:List EnR} {e:EnR} {y:Int} (h:y≠e.dv):mtsE mt (l++[e]) y=mtsE mt l y:=by
 rw [mtsE_snoc]
 have:mtE mt e y=none:=by unfold mtE;rw [if_neg (fun g=>h g.2.2)]
 simp [this]
end
