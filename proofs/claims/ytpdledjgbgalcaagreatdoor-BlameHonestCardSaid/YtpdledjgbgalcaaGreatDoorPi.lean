/- The arguments opened: slices of integers. The arguments opened: rows of receipts. The arguments opened: bytes, strings, a piece. The arguments opened: a receipt with its lists' contents, a token. An entry of the log opened. The arguments opened: views, accusations. -/
import Derived.Lib.SmallJoins
import Derived.Test.YtpdledjgbgalcaaGreatDoorRows
import Derived.Test.YtpdledjgbgalcaaGreatDoorMa
import Derived.WalkKit
import Derived.ProofKit
import Derived.OpenShut
import Derived.ChangeOld
import Derived.Below
import Derived.Test.YtpdledjgbgalcaaGreatDoorZe
import Derived.Deep.Slices
import Derived.Deep.Fields
import Derived.Test.YtpdledjgbgalcaaGreatDoorPf
import Derived.Test.YtpdledjgbgalcaaGreatDoorS4
import Derived.Test.YtpdledjgbgalcaaGreatDoorNP
namespace Go.Proofs.YtpdledjgbgalcaaGreatDoor
set_option maxRecDepth 20000
open Go.ChangeShapes Go.WideShapes Go.ChangeAt Go.RowKit
set_option linter.unusedVariables false
set_option linter.unusedSimpArgs false
def IsRow (k:IntKind) (w:World) (a:Option Addr) (len cap:Nat) (zs:List Int):Prop:=
 (a=none∧len=0∧cap=0∧zs=[])∨
 ∃x,a=some x∧len≤cap∧cap≤maxLen∧zs.length=cap∧(∀i,i < zs.length→w.cell? (x.add i)=some (.int k (zs.getD i 0)))∧∀n∈zs,(Lit.int k n).wf=true
theorem IsRow.sl {k:IntKind} {w:World} {a:Option Addr} {len cap:Nat} {zs:List Int} (h:IsRow k w a len cap zs):Sl (Value.int k) w w.heap.size a len (zs.take len)∧len≤cap:=by
 rcases h with ⟨rfl,rfl,rfl,rfl⟩ |⟨x,rfl,hl,_,hz,hc,_⟩
 ·exact ⟨⟨rfl,SL.nil⟩,Nat.le_refl _⟩
 ·have hlen:(zs.take len).length=len:=by rw [List.length_take];omega
  refine ⟨⟨hlen,fun hn=>?_⟩,hl⟩
  have h0:=hc 0 (by omega)
  obtain ⟨b,off,spot⟩:=x
  have hspot:spot=none:=by simpa [Addr.add] using World.cell?_spot h0
  subst hspot
  refine ⟨b,off,rfl,block_lt_of_cell (a:=⟨b,off,none⟩) (by simpa [Addr.add] using h0),fun i z hz'=>?_⟩
  have hi:i < len:=by have:=(List.getElem?_eq_some_iff.1 hz').1;omega
  have:=hc i (by omega)
  rw [Addr.add_mid] at this
  rw [this]
  rw [List.getElem?_take,if_pos hi] at hz'
  rw [getD_of hz']
section
variable {H:Type} {enc:TypeId × Value→H} {W:World} {d:DataW H} {p:List MemPlace}
end
open Go.ChangeShapes Go.WideShapes Go.ChangeAt Go.RowKit Go.Deep
theorem Tryz.cellsI:Tryz.prog.cellsOf 3=1:=by kernel_rfl
theorem Tryz.cellsS:Tryz.prog.cellsOf 9=1:=by kernel_rfl
theorem Tryz.cellsLs:Tryz.prog.cellsOf 24=1:=by kernel_rfl
theorem Tryz.cellsPid:Tryz.prog.cellsOf 31=2:=by kernel_rfl
instance:Inhabited Hd:=⟨⟨none,0,0⟩⟩
instance:Inhabited Rcp:=⟨⟨0,0,⟨#[]⟩,0,0,0,0,0,0,⟨#[]⟩,⟨none,0,0⟩,0,⟨none,0,0⟩,⟨none,0,0⟩⟩⟩
theorem int64.of_wf {z:Int} (h:(Lit.int .i64 z).wf=true):int64 z:=by
 unfold int64
 simp [Lit.wf,IntKind.min,IntKind.max,IntKind.signed,IntKind.bits] at h
 omega
theorem list2 {l:List Value} (h:l.length=2):∃c0 c1,l=[c0,c1]:=by
 match l,h with
 | [c0,c1],_=>exact ⟨c0,c1,rfl⟩
theorem ylist2 {α:Type} {l:List α} (h:l.length=2):∃y0 y1,l=[y0,y1]:=by
 match l,h with
 | [y0,y1],_=>exact ⟨y0,y1,rfl⟩
theorem ylist3 {α:Type} {l:List α} (h:l.length=3):∃y0 y1 y2,l=[y0,y1,y2]:=by
 match l,h with
 | [y0,y1,y2],_=>exact ⟨y0,y1,y2,rfl⟩
section
variable {H:Type} {enc:TypeId × Value→H} {W:World} {d:DataW H} {p:List MemPlace}
theorem in_pid {fuel:Nat} {cs:List Value} {x:DataW H × List MemPlace} (h:DataW.trod enc Tryz.prog W 0 (fun _=>true) true fuel 31 cs=some x):∃(s:ByteArray) (y:Int),cs=[.string s,.int .i64 y]∧okP s y:=by
 obtain ⟨ys,n,_,_,hcl,hyl,hfld⟩:=DataW.trod_struct Tryz.underlying31 h
 rw [Tryz.cellsPid] at hcl
 obtain ⟨c0,c1,rfl⟩:=list2 hcl
 obtain ⟨y0,y1,rfl⟩:=ylist2 hyl
 have f0:DataW.trod enc Tryz.prog W 0 (fun _=>true) true n 9 (([c0,c1].drop 0).take (Tryz.prog.cellsOf 9))=[y0,y1][0]? :=hfld 0 _ rfl
 rw [Tryz.cellsS] at f0
 have f1:DataW.trod enc Tryz.prog W 0 (fun _=>true) true n 3 (([c0,c1].drop 1).take (Tryz.prog.cellsOf 3))=[y0,y1][1]? :=hfld 1 _ rfl
 rw [Tryz.cellsI] at f1
 obtain ⟨z0,e0,_,s0⟩:=DataW.trod_string Tryz.underlying9 f0
 simp at e0
 subst e0
 obtain ⟨z1,e1,_,s1⟩:=DataW.trod_int Tryz.underlying3 f1
 simp at e1
 subst e1
 exact ⟨z0,z1,rfl,s0,int64.of_wf s1⟩
theorem in_slice {α:Type} [Inhabited α] {f:α→List Value} {s:Nat} {t e:TypeId} (ht:Tryz.prog.underlying t=some (.slice e)) (hC:Tryz.prog.cellsOf e=s) (hs0:0 < s) (hf:∀x,(f x).length=s) {Pr:α→Prop}
 (hel:∀(fuel:Nat) (cs:List Value) (y:DataW H × List MemPlace),DataW.trod enc Tryz.prog W 0 (fun _=>true) true fuel e cs=some y→∃x,cs=f x∧Pr x) {fuel:Nat} {cs:List Value} {y:DataW H × List MemPlace}
 (h:DataW.trod enc Tryz.prog W 0 (fun _=>true) true fuel t cs=some y):∃a n c xs,cs=[.slice a n c]∧n≤c∧c≤maxLen∧SlN f s W W.heap.size a n xs∧∀x∈xs,Pr x:=by
 rcases open_slice ht h with ⟨rfl,_⟩ |⟨x,l,c,m,nn,D,Pl,rfl,_,hl,hm,hmm,_,hi⟩
 ·exact ⟨none,0,0,[],rfl,Nat.le_refl _,Nat.zero_le _,SlN.nil,fun x hx=>by cases hx⟩
 ·simp only [if_true] at hmm
  subst hmm
  have each:∀i,i < l→∃r:α,(∀j v,(f r)[j]? =some v→W.cell? (x.add (i*s+j))=some v)∧Pr r:=by
   intro i hil
   obtain ⟨cs',hc,ht'⟩:=hi i (by omega)
   rw [hC] at hc
   obtain ⟨_,hcl,hat⟩:=World.cells?_some hc
   obtain ⟨r,rfl,hr⟩:=hel _ _ _ ht'
   refine ⟨r,fun j v hv=>?_,hr⟩
   have hj:j < s:=by have:=(List.getElem?_eq_some_iff.1 hv).1;rw [hf] at this;exact this
   rw [←Go.Deep.add_add,hat j hj]
   exact hv
  obtain ⟨R,hR⟩:=choose_lt each
  refine ⟨some x,l,_,(List.range l).map R,rfl,hl,hm,⟨by simp,fun hn=>?_⟩,fun z hz=>?_⟩
  ·simp at hn
   obtain ⟨u,hu⟩:∃u,(f (R 0))[0]? =some u:=⟨_,List.getElem?_eq_getElem (by rw [hf];exact hs0)⟩
   have h0:=(hR 0 hn).1 0 u hu
   obtain ⟨b,off,spot⟩:=x
   have hspot:spot=none:=by simpa [Addr.add] using World.cell?_spot h0
   subst hspot
   refine ⟨b,off,rfl,block_lt_of_cell (a:=⟨b,off,none⟩) (by simpa [Addr.add] using h0),fun i z hz' j v hv=>?_⟩
   rw [List.getElem?_map] at hz'
   have hil:i < l:=by
    rcases Nat.lt_or_ge i l with h |h
    ·exact h
    ·rw [List.getElem?_eq_none (by simpa using h)] at hz';cases hz'
   rw [List.getElem?_range hil] at hz'
   cases hz'
   have:=(hR i hil).1 j v hv
   rw [Addr.add_mid] at this
   exact this
  ·obtain ⟨i,hi',rfl⟩:=List.mem_map.1 hz
   exact (hR i (List.mem_range.1 hi')).2
end
theorem SlN.one {α:Type} {f:α→Value} {w:World} {B n:Nat} {A:Option Addr} {xs:List α} (h:SlN (fun x=>[f x]) 1 w B A n xs):Sl f w B A n xs:=⟨h.1,fun hn=>by
 obtain ⟨b,off,e,hlt,hc⟩:=h.2 (by simpa using hn)
 refine ⟨b,off,e,hlt,fun k x hk=>?_⟩
 have:=hc k x hk 0 (f x) rfl
 simpa using this⟩
instance:Inhabited ByteArray:=⟨⟨#[]⟩⟩
section
variable {H:Type} {enc:TypeId × Value→H} {W:World} {d:DataW H} {p:List MemPlace}
theorem Tryz.cellsB:Tryz.prog.cellsOf 5=1:=by kernel_rfl
theorem Tryz.cellsLb:Tryz.prog.cellsOf 40=1:=by kernel_rfl
theorem Tryz.cellsPc:Tryz.prog.cellsOf 42=4:=by kernel_rfl
theorem in_strs {fuel:Nat} {cs:List Value} {y:DataW H × List MemPlace} (h:DataW.trod enc Tryz.prog W 0 (fun _=>true) true fuel 24 cs=some y):∃a n c xs,cs=[.slice a n c]∧n≤c∧Sl fT W W.heap.size a n xs:=by
 obtain ⟨a,n,c,xs,e,h1,_,h2,_⟩:=in_slice (f:=fun s=>[fT s]) (s:=1) (Pr:=fun _:ByteArray=>True) Tryz.underlying24 Tryz.cellsS (by decide) (fun _=>rfl) (fun _ _ _ h=>by
  obtain ⟨z,e,_,_⟩:=DataW.trod_string Tryz.underlying9 h
  exact ⟨z,e,trivial⟩) h
 exact ⟨a,n,c,xs,e,h1,h2.one⟩
theorem in_bts {fuel:Nat} {cs:List Value} {y:DataW H × List MemPlace} (h:DataW.trod enc Tryz.prog W 0 (fun _=>true) true fuel 40 cs=some y):∃a n c xs,cs=[.slice a n c]∧n≤c∧Sl fB W W.heap.size a n xs∧Byt xs:=by
 obtain ⟨a,n,c,xs,e,h1,_,h2,h3⟩:=in_slice (f:=fun s=>[fB s]) (s:=1) (Pr:=fun x:Int=>0≤x∧x < 256) Tryz.underlying40 Tryz.cellsB (by decide) (fun _=>rfl) (fun _ _ _ h=>by
  obtain ⟨z,e,_,hw⟩:=DataW.trod_int Tryz.underlying5 h
  refine ⟨z,e,?_⟩
  simp [Lit.wf,IntKind.min,IntKind.max,IntKind.signed,IntKind.bits] at hw
  omega) h
 exact ⟨a,n,c,xs,e,h1,h2.one,h3⟩
theorem list4 {l:List Value} (h:l.length=4):∃c0 c1 c2 c3,l=[c0,c1,c2,c3]:=by
 match l,h with
 | [c0,c1,c2,c3],_=>exact ⟨c0,c1,c2,c3,rfl⟩
theorem in_piece {fuel:Nat} {cs:List Value} {x:DataW H × List MemPlace} (h:DataW.trod enc Tryz.prog W 0 (fun _=>true) true fuel 42 cs=some x):∃(p:Pc) (xs:List Int) (ys:List ByteArray),cs=(cPc p).toList∧PcIn W W.heap.size p xs ys∧Byt xs∧okP p.s p.ix:=by
 obtain ⟨ys,n,_,_,hcl,hyl,hfld⟩:=DataW.trod_struct Tryz.underlying42 h
 rw [Tryz.cellsPc] at hcl
 obtain ⟨c0,c1,c2,c3,rfl⟩:=list4 hcl
 obtain ⟨y0,y1,y2,rfl⟩:=ylist3 hyl
 have f0:DataW.trod enc Tryz.prog W 0 (fun _=>true) true n 31 (([c0,c1,c2,c3].drop 0).take (Tryz.prog.cellsOf 31))=[y0,y1,y2][0]? :=hfld 0 _ rfl
 rw [Tryz.cellsPid] at f0
 have f1:DataW.trod enc Tryz.prog W 0 (fun _=>true) true n 40 (([c0,c1,c2,c3].drop 2).take (Tryz.prog.cellsOf 40))=[y0,y1,y2][1]? :=hfld 1 _ rfl
 rw [Tryz.cellsLb] at f1
 have f2:DataW.trod enc Tryz.prog W 0 (fun _=>true) true n 24 (([c0,c1,c2,c3].drop 3).take (Tryz.prog.cellsOf 24))=[y0,y1,y2][2]? :=hfld 2 _ rfl
 rw [Tryz.cellsLs] at f2
 obtain ⟨s,ix,e0,s0⟩:=in_pid f0
 simp at e0
 obtain ⟨rfl,rfl⟩:=e0
 obtain ⟨a,m,c,xs,e1,h1,h2,h3⟩:=in_bts f1
 simp at e1
 subst e1
 obtain ⟨a',m',c',zs,e2,h4,h5⟩:=in_strs f2
 simp at e2
 subst e2
 exact ⟨⟨s,ix,⟨a,m,c⟩,⟨a',m',c'⟩⟩,xs,zs,rfl,⟨h2,h5,h1,h4⟩,h3,s0⟩
end
section
variable {H:Type} {enc:TypeId × Value→H} {W:World} {d:DataW H} {p:List MemPlace}
end
section
variable {H:Type} {enc:TypeId × Value→H} {W:World} {d:DataW H} {p:List MemPlace}
theorem Tryz.cellsEn:Tryz.prog.cellsOf 55=6:=by kernel_rfl
end
theorem clist2 {α:Type} {l:List α} (h:l.length=2):∃c0 c1,l=[c0,c1]:=by
 match l,h with
 | [c0,c1],_=>exact ⟨c0,c1,rfl⟩
theorem clist4 {α:Type} {l:List α} (h:l.length=4):∃c0 c1 c2 c3,l=[c0,c1,c2,c3]:=by
 match l,h with
 | [c0,c1,c2,c3],_=>exact ⟨c0,c1,c2,c3,rfl⟩
theorem clist5 {α:Type} {l:List α} (h:l.length=5):∃c0 c1 c2 c3 c4,l=[c0,c1,c2,c3,c4]:=by
 match l,h with
 | [c0,c1,c2,c3,c4],_=>exact ⟨c0,c1,c2,c3,c4,rfl⟩
theorem clist6 {α:Type} {l:List α} (h:l.length=6):∃c0 c1 c2 c3 c4 c5,l=[c0,c1,c2,c3,c4,c5]:=by
 match l,h with
 | [c0,c1,c2,c3,c4,c5],_=>exact ⟨c0,c1,c2,c3,c4,c5,rfl⟩
theorem clist7 {α:Type} {l:List α} (h:l.length=7):∃c0 c1 c2 c3 c4 c5 c6,l=[c0,c1,c2,c3,c4,c5,c6]:=by
 match l,h with
 | [c0,c1,c2,c3,c4,c5,c6],_=>exact ⟨c0,c1,c2,c3,c4,c5,c6,rfl⟩
theorem clist8 {α:Type} {l:List α} (h:l.length=8):∃c0 c1 c2 c3 c4 c5 c6 c7,l=[c0,c1,c2,c3,c4,c5,c6,c7]:=by
 match l,h with
 | [c0,c1,c2,c3,c4,c5,c6,c7],_=>exact ⟨c0,c1,c2,c3,c4,c5,c6,c7,rfl⟩
theorem clist15 {α:Type} {l:List α} (h:l.length=15):∃c0 c1 c2 c3 c4 c5 c6 c7 c8 c9 c10 c11 c12 c13 c14,l=[c0,c1,c2,c3,c4,c5,c6,c7,c8,c9,c10,c11,c12,c13,c14]:=by
 match l,h with
 | [c0,c1,c2,c3,c4,c5,c6,c7,c8,c9,c10,c11,c12,c13,c14],_=>exact ⟨c0,c1,c2,c3,c4,c5,c6,c7,c8,c9,c10,c11,c12,c13,c14,rfl⟩
theorem Tryz.cellsLi:Tryz.prog.cellsOf 27=1:=by kernel_rfl
theorem Tryz.cellsU64:Tryz.prog.cellsOf 93=1:=by kernel_rfl
theorem Tryz.cellsCut:Tryz.prog.cellsOf 95=5:=by kernel_rfl
theorem Tryz.cellsRul:Tryz.prog.cellsOf 97=4:=by kernel_rfl
theorem Tryz.cellsSch:Tryz.prog.cellsOf 26=2:=by kernel_rfl
theorem Tryz.cellsLe:Tryz.prog.cellsOf 22=1:=by kernel_rfl
theorem Tryz.cellsLv:Tryz.prog.cellsOf 23=1:=by kernel_rfl
theorem Tryz.cellsVlt:Tryz.prog.cellsOf 99=15:=by kernel_rfl
theorem Tryz.cellsVw:Tryz.prog.cellsOf 29=7:=by kernel_rfl
structure EnR where
 dv:Int
 sq:Int
 k:Int
 dy:Int
 bd:Hd
 pr:ByteArray
 bs:List Int
abbrev fEn (e:EnR):List Value:=[.int .i64 e.dv,.int .i64 e.sq,.int .i64 e.k,.int .i64 e.dy,.slice e.bd.a e.bd.n e.bd.c,.string e.pr]
theorem fEn_len:∀e,(fEn e).length=6:=fun _=>rfl
def EnOk (w:World) (B:Nat) (e:EnR):Prop:=Sl fB w B e.bd.a e.bd.n e.bs∧Byt e.bs∧e.bd.n≤e.bd.c∧True∧int64 e.dv∧int64 e.sq
def EnIn (w:World) (B:Nat) (A:Option Addr) (n:Nat) (es:List EnR):Prop:=SlN fEn 6 w B A n es∧∀e∈es,EnOk w B e
theorem EnOk.up {w w':World} {B B':Nat} {e:EnR} (h:EnOk w B e) (hb:Below B' w w') (hB:B≤B'):EnOk w' B e:=⟨h.1.up hb hB,h.2⟩
theorem EnIn.up {w w':World} {B B' n:Nat} {A:Option Addr} {es:List EnR} (h:EnIn w B A n es) (hb:Below B' w w') (hB:B≤B'):EnIn w' B A n es:=⟨h.1.up hb hB,fun e he=>(h.2 e he).up hb hB⟩
structure VwIn (w:World) (B:Nat) (x:Vw) (es:List EnR) (vs:List VtR) (pubs drs:List ByteArray) (fks:List Int):Prop where
 E:EnIn w B x.E.a x.E.n es
 V:VtIn w B x.V.a x.V.n vs
 P:Sl fT w B x.P.a x.P.n pubs
 D:Sl fT w B x.D.a x.D.n drs
 F:Sl I w B x.F.a x.F.n fks
 cs:x.E.n≤9223372036854775807∧x.E.n≤x.E.c∧x.V.n≤x.V.c∧x.P.n≤x.P.c∧x.D.n≤x.D.c∧x.F.n≤x.F.c
theorem VwIn.up {w w':World} {B B':Nat} {x:Vw} {es:List EnR} {vs:List VtR} {pubs drs:List ByteArray} {fks:List Int} (h:VwIn w B x es vs pubs drs fks) (hb:Below B' w w') (hB:B≤B'):VwIn w' B x es vs pubs drs fks:=
 ⟨h.E.up hb hB,h.V.up hb hB,h.P.up hb hB,h.D.up hb hB,h.F.up hb hB,h.cs⟩
instance:Inhabited VtR:=⟨⟨0,⟨none,0,0⟩,0,0,0,⟨#[]⟩,0,0,0,0,0,0,0,0,0,[]⟩⟩
instance:Inhabited EnR:=⟨⟨0,0,0,0,⟨none,0,0⟩,⟨#[]⟩,[]⟩⟩
section
variable {H:Type} {enc:TypeId × Value→H} {W:World} {d:DataW H} {p:List MemPlace}
theorem in_ilist {fuel:Nat} {cs:List Value} {y:DataW H × List MemPlace} (h:DataW.trod enc Tryz.prog W 0 (fun _=>true) true fuel 27 cs=some y):∃a n c xs,cs=[.slice a n c]∧n≤c∧c≤maxLen∧Sl I W W.heap.size a n xs:=by
 obtain ⟨a,n,c,xs,e,h1,h0,h2,_⟩:=in_slice (f:=fun x:Int=>[I x]) (s:=1) (Pr:=fun _:Int=>True) Tryz.underlying27 Tryz.cellsI (by decide) (fun _=>rfl) (fun _ _ _ h=>by
  obtain ⟨z,e,_,_⟩:=DataW.trod_int Tryz.underlying3 h
  exact ⟨z,e,trivial⟩) h
 exact ⟨a,n,c,xs,e,h1,h0,h2.one⟩
theorem in_btsM {fuel:Nat} {cs:List Value} {y:DataW H × List MemPlace} (h:DataW.trod enc Tryz.prog W 0 (fun _=>true) true fuel 40 cs=some y):∃a n c xs,cs=[.slice a n c]∧n≤c∧c≤maxLen∧Sl fB W W.heap.size a n xs∧Byt xs:=by
 obtain ⟨a,n,c,xs,e,h1,h0,h2,h3⟩:=in_slice (f:=fun s=>[fB s]) (s:=1) (Pr:=fun x:Int=>0≤x∧x < 256) Tryz.underlying40 Tryz.cellsB (by decide) (fun _=>rfl) (fun _ _ _ h=>by
  obtain ⟨z,e,_,hw⟩:=DataW.trod_int Tryz.underlying5 h
  refine ⟨z,e,?_⟩
  simp [Lit.wf,IntKind.min,IntKind.max,IntKind.signed,IntKind.bits] at hw
  omega) h
 exact ⟨a,n,c,xs,e,h1,h0,h2.one,h3⟩
theorem in_cut {fuel:Nat} {cs:List Value} {x:DataW H × List MemPlace} (h:DataW.trod enc Tryz.prog W 0 (fun _=>true) true fuel 95 cs=some x):∃c0 c1 c2 c3 c4:Int,cs=[.int .i64 c0,.int .i64 c1,.int .i64 c2,.int .i64 c3,.int .u64 c4]:=by
 obtain ⟨ys,n,_,_,hcl,hyl,hfld⟩:=DataW.trod_struct Tryz.underlying95 h
 rw [Tryz.cellsCut] at hcl
 obtain ⟨c0,c1,c2,c3,c4,rfl⟩:=clist5 hcl
 obtain ⟨y0,y1,y2,y3,y4,rfl⟩:=clist5 hyl
 have f0:DataW.trod enc Tryz.prog W 0 (fun _=>true) true n 3 (([c0,c1,c2,c3,c4].drop 0).take (Tryz.prog.cellsOf 3))=[y0,y1,y2,y3,y4][0]? :=hfld 0 _ rfl
 rw [Tryz.cellsI] at f0
 have f1:DataW.trod enc Tryz.prog W 0 (fun _=>true) true n 3 (([c0,c1,c2,c3,c4].drop 1).take (Tryz.prog.cellsOf 3))=[y0,y1,y2,y3,y4][1]? :=hfld 1 _ rfl
 rw [Tryz.cellsI] at f1
 have f2:DataW.trod enc Tryz.prog W 0 (fun _=>true) true n 3 (([c0,c1,c2,c3,c4].drop 2).take (Tryz.prog.cellsOf 3))=[y0,y1,y2,y3,y4][2]? :=hfld 2 _ rfl
 rw [Tryz.cellsI] at f2
 have f3:DataW.trod enc Tryz.prog W 0 (fun _=>true) true n 3 (([c0,c1,c2,c3,c4].drop 3).take (Tryz.prog.cellsOf 3))=[y0,y1,y2,y3,y4][3]? :=hfld 3 _ rfl
 rw [Tryz.cellsI] at f3
 have f4:DataW.trod enc Tryz.prog W 0 (fun _=>true) true n 93 (([c0,c1,c2,c3,c4].drop 4).take (Tryz.prog.cellsOf 93))=[y0,y1,y2,y3,y4][4]? :=hfld 4 _ rfl
 rw [Tryz.cellsU64] at f4
 obtain ⟨z0,e0,_,s0⟩:=DataW.trod_int Tryz.underlying3 f0
 simp at e0
 subst e0
 obtain ⟨z1,e1,_,s1⟩:=DataW.trod_int Tryz.underlying3 f1
 simp at e1
 subst e1
 obtain ⟨z2,e2,_,s2⟩:=DataW.trod_int Tryz.underlying3 f2
 simp at e2
 subst e2
 obtain ⟨z3,e3,_,s3⟩:=DataW.trod_int Tryz.underlying3 f3
 simp at e3
 subst e3
 obtain ⟨z4,e4,_,s4⟩:=DataW.trod_int Tryz.underlying93 f4
 simp at e4
 subst e4
 exact ⟨z0,z1,z2,z3,z4,rfl⟩
theorem in_rul {fuel:Nat} {cs:List Value} {x:DataW H × List MemPlace} (h:DataW.trod enc Tryz.prog W 0 (fun _=>true) true fuel 97 cs=some x):∃c0 c1 c2 c3:Int,cs=[.int .i64 c0,.int .i64 c1,.int .i64 c2,.int .i64 c3]:=by
 obtain ⟨ys,n,_,_,hcl,hyl,hfld⟩:=DataW.trod_struct Tryz.underlying97 h
 rw [Tryz.cellsRul] at hcl
 obtain ⟨c0,c1,c2,c3,rfl⟩:=clist4 hcl
 obtain ⟨y0,y1,y2,y3,rfl⟩:=clist4 hyl
 have f0:DataW.trod enc Tryz.prog W 0 (fun _=>true) true n 3 (([c0,c1,c2,c3].drop 0).take (Tryz.prog.cellsOf 3))=[y0,y1,y2,y3][0]? :=hfld 0 _ rfl
 rw [Tryz.cellsI] at f0
 have f1:DataW.trod enc Tryz.prog W 0 (fun _=>true) true n 3 (([c0,c1,c2,c3].drop 1).take (Tryz.prog.cellsOf 3))=[y0,y1,y2,y3][1]? :=hfld 1 _ rfl
 rw [Tryz.cellsI] at f1
 have f2:DataW.trod enc Tryz.prog W 0 (fun _=>true) true n 3 (([c0,c1,c2,c3].drop 2).take (Tryz.prog.cellsOf 3))=[y0,y1,y2,y3][2]? :=hfld 2 _ rfl
 rw [Tryz.cellsI] at f2
 have f3:DataW.trod enc Tryz.prog W 0 (fun _=>true) true n 3 (([c0,c1,c2,c3].drop 3).take (Tryz.prog.cellsOf 3))=[y0,y1,y2,y3][3]? :=hfld 3 _ rfl
 rw [Tryz.cellsI] at f3
 obtain ⟨z0,e0,_,s0⟩:=DataW.trod_int Tryz.underlying3 f0
 simp at e0
 subst e0
 obtain ⟨z1,e1,_,s1⟩:=DataW.trod_int Tryz.underlying3 f1
 simp at e1
 subst e1
 obtain ⟨z2,e2,_,s2⟩:=DataW.trod_int Tryz.underlying3 f2
 simp at e2
 subst e2
 obtain ⟨z3,e3,_,s3⟩:=DataW.trod_int Tryz.underlying3 f3
 simp at e3
 subst e3
 exact ⟨z0,z1,z2,z3,rfl⟩
theorem in_sch {fuel:Nat} {cs:List Value} {x:DataW H × List MemPlace} (h:DataW.trod enc Tryz.prog W 0 (fun _=>true) true fuel 26 cs=some x):∃b h:Int,cs=[.int .i64 b,.int .i64 h]:=by
 obtain ⟨ys,n,_,_,hcl,hyl,hfld⟩:=DataW.trod_struct Tryz.underlying26 h
 rw [Tryz.cellsSch] at hcl
 obtain ⟨c0,c1,rfl⟩:=clist2 hcl
 obtain ⟨y0,y1,rfl⟩:=clist2 hyl
 have f0:DataW.trod enc Tryz.prog W 0 (fun _=>true) true n 3 (([c0,c1].drop 0).take (Tryz.prog.cellsOf 3))=[y0,y1][0]? :=hfld 0 _ rfl
 rw [Tryz.cellsI] at f0
 have f1:DataW.trod enc Tryz.prog W 0 (fun _=>true) true n 3 (([c0,c1].drop 1).take (Tryz.prog.cellsOf 3))=[y0,y1][1]? :=hfld 1 _ rfl
 rw [Tryz.cellsI] at f1
 obtain ⟨z0,e0,_,s0⟩:=DataW.trod_int Tryz.underlying3 f0
 simp at e0
 subst e0
 obtain ⟨z1,e1,_,s1⟩:=DataW.trod_int Tryz.underlying3 f1
 simp at e1
 subst e1
 exact ⟨z0,z1,rfl⟩
theorem in_vlt {fuel:Nat} {cs:List Value} {x:DataW H × List MemPlace} (h:DataW.trod enc Tryz.prog W 0 (fun _=>true) true fuel 99 cs=some x):∃v:VtR,cs=fVt v∧(Sl I W W.heap.size v.wr.a v.wr.n v.xs∧v.wr.n≤9223372036854775807):=by
 obtain ⟨ys,n,_,_,hcl,hyl,hfld⟩:=DataW.trod_struct Tryz.underlying99 h
 rw [Tryz.cellsVlt] at hcl
 obtain ⟨c0,c1,c2,c3,c4,c5,c6,c7,c8,c9,c10,c11,c12,c13,c14,rfl⟩:=clist15 hcl
 obtain ⟨y0,y1,y2,y3,y4,y5,y6,y7,rfl⟩:=clist8 hyl
 have f0:DataW.trod enc Tryz.prog W 0 (fun _=>true) true n 3 (([c0,c1,c2,c3,c4,c5,c6,c7,c8,c9,c10,c11,c12,c13,c14].drop 0).take (Tryz.prog.cellsOf 3))=[y0,y1,y2,y3,y4,y5,y6,y7][0]? :=hfld 0 _ rfl
 rw [Tryz.cellsI] at f0
 have f1:DataW.trod enc Tryz.prog W 0 (fun _=>true) true n 27 (([c0,c1,c2,c3,c4,c5,c6,c7,c8,c9,c10,c11,c12,c13,c14].drop 1).take (Tryz.prog.cellsOf 27))=[y0,y1,y2,y3,y4,y5,y6,y7][1]? :=hfld 1 _ rfl
 rw [Tryz.cellsLi] at f1
 have f2:DataW.trod enc Tryz.prog W 0 (fun _=>true) true n 3 (([c0,c1,c2,c3,c4,c5,c6,c7,c8,c9,c10,c11,c12,c13,c14].drop 2).take (Tryz.prog.cellsOf 3))=[y0,y1,y2,y3,y4,y5,y6,y7][2]? :=hfld 2 _ rfl
 rw [Tryz.cellsI] at f2
 have f3:DataW.trod enc Tryz.prog W 0 (fun _=>true) true n 3 (([c0,c1,c2,c3,c4,c5,c6,c7,c8,c9,c10,c11,c12,c13,c14].drop 3).take (Tryz.prog.cellsOf 3))=[y0,y1,y2,y3,y4,y5,y6,y7][3]? :=hfld 3 _ rfl
 rw [Tryz.cellsI] at f3
 have f4:DataW.trod enc Tryz.prog W 0 (fun _=>true) true n 3 (([c0,c1,c2,c3,c4,c5,c6,c7,c8,c9,c10,c11,c12,c13,c14].drop 4).take (Tryz.prog.cellsOf 3))=[y0,y1,y2,y3,y4,y5,y6,y7][4]? :=hfld 4 _ rfl
 rw [Tryz.cellsI] at f4
 have f5:DataW.trod enc Tryz.prog W 0 (fun _=>true) true n 9 (([c0,c1,c2,c3,c4,c5,c6,c7,c8,c9,c10,c11,c12,c13,c14].drop 5).take (Tryz.prog.cellsOf 9))=[y0,y1,y2,y3,y4,y5,y6,y7][5]? :=hfld 5 _ rfl
 rw [Tryz.cellsS] at f5
 have f6:DataW.trod enc Tryz.prog W 0 (fun _=>true) true n 95 (([c0,c1,c2,c3,c4,c5,c6,c7,c8,c9,c10,c11,c12,c13,c14].drop 6).take (Tryz.prog.cellsOf 95))=[y0,y1,y2,y3,y4,y5,y6,y7][6]? :=hfld 6 _ rfl
 rw [Tryz.cellsCut] at f6
 have f7:DataW.trod enc Tryz.prog W 0 (fun _=>true) true n 97 (([c0,c1,c2,c3,c4,c5,c6,c7,c8,c9,c10,c11,c12,c13,c14].drop 11).take (Tryz.prog.cellsOf 97))=[y0,y1,y2,y3,y4,y5,y6,y7][7]? :=hfld 7 _ rfl
 rw [Tryz.cellsRul] at f7
 obtain ⟨z0,e0,_,s0⟩:=DataW.trod_int Tryz.underlying3 f0
 simp at e0
 subst e0
 obtain ⟨a1,n1,c1,x1,e1,l1,m1,h1⟩:=in_ilist f1
 simp at e1
 subst e1
 obtain ⟨z2,e2,_,s2⟩:=DataW.trod_int Tryz.underlying3 f2
 simp at e2
 subst e2
 obtain ⟨z3,e3,_,s3⟩:=DataW.trod_int Tryz.underlying3 f3
 simp at e3
 subst e3
 obtain ⟨z4,e4,_,s4⟩:=DataW.trod_int Tryz.underlying3 f4
 simp at e4
 subst e4
 obtain ⟨z5,e5,_,s5⟩:=DataW.trod_string Tryz.underlying9 f5
 simp at e5
 subst e5
 obtain ⟨q0,q1,q2,q3,q4,e6⟩:=in_cut f6
 simp at e6
 obtain ⟨rfl,rfl,rfl,rfl,rfl⟩:=e6
 obtain ⟨r0,r1,r2,r3,e7⟩:=in_rul f7
 simp at e7
 obtain ⟨rfl,rfl,rfl,rfl⟩:=e7
 exact ⟨⟨z0,⟨a1,n1,c1⟩,z2,z3,z4,z5,q0,q1,q2,q3,q4,r0,r1,r2,r3,x1⟩,rfl,h1,Nat.le_trans l1 m1⟩
theorem in_enr {fuel:Nat} {cs:List Value} {x:DataW H × List MemPlace} (h:DataW.trod enc Tryz.prog W 0 (fun _=>true) true fuel 55 cs=some x):∃v:EnR,cs=fEn v∧EnOk W W.heap.size v:=by
 obtain ⟨ys,n,_,_,hcl,hyl,hfld⟩:=DataW.trod_struct Tryz.underlying55 h
 rw [Tryz.cellsEn] at hcl
 obtain ⟨c0,c1,c2,c3,c4,c5,rfl⟩:=clist6 hcl
 obtain ⟨y0,y1,y2,y3,y4,y5,rfl⟩:=clist6 hyl
 have f0:DataW.trod enc Tryz.prog W 0 (fun _=>true) true n 3 (([c0,c1,c2,c3,c4,c5].drop 0).take (Tryz.prog.cellsOf 3))=[y0,y1,y2,y3,y4,y5][0]? :=hfld 0 _ rfl
 rw [Tryz.cellsI] at f0
 have f1:DataW.trod enc Tryz.prog W 0 (fun _=>true) true n 3 (([c0,c1,c2,c3,c4,c5].drop 1).take (Tryz.prog.cellsOf 3))=[y0,y1,y2,y3,y4,y5][1]? :=hfld 1 _ rfl
 rw [Tryz.cellsI] at f1
 have f2:DataW.trod enc Tryz.prog W 0 (fun _=>true) true n 3 (([c0,c1,c2,c3,c4,c5].drop 2).take (Tryz.prog.cellsOf 3))=[y0,y1,y2,y3,y4,y5][2]? :=hfld 2 _ rfl
 rw [Tryz.cellsI] at f2
 have f3:DataW.trod enc Tryz.prog W 0 (fun _=>true) true n 3 (([c0,c1,c2,c3,c4,c5].drop 3).take (Tryz.prog.cellsOf 3))=[y0,y1,y2,y3,y4,y5][3]? :=hfld 3 _ rfl
 rw [Tryz.cellsI] at f3
 have f4:DataW.trod enc Tryz.prog W 0 (fun _=>true) true n 40 (([c0,c1,c2,c3,c4,c5].drop 4).take (Tryz.prog.cellsOf 40))=[y0,y1,y2,y3,y4,y5][4]? :=hfld 4 _ rfl
 rw [Tryz.cellsLb] at f4
 have f5:DataW.trod enc Tryz.prog W 0 (fun _=>true) true n 9 (([c0,c1,c2,c3,c4,c5].drop 5).take (Tryz.prog.cellsOf 9))=[y0,y1,y2,y3,y4,y5][5]? :=hfld 5 _ rfl
 rw [Tryz.cellsS] at f5
 obtain ⟨z0,e0,_,s0⟩:=DataW.trod_int Tryz.underlying3 f0
 simp at e0
 subst e0
 obtain ⟨z1,e1,_,s1⟩:=DataW.trod_int Tryz.underlying3 f1
 simp at e1
 subst e1
 obtain ⟨z2,e2,_,s2⟩:=DataW.trod_int Tryz.underlying3 f2
 simp at e2
 subst e2
 obtain ⟨z3,e3,_,s3⟩:=DataW.trod_int Tryz.underlying3 f3
 simp at e3
 subst e3
 obtain ⟨a4,n4,c4,x4,e4,l4,m4,h4,b4⟩:=in_btsM f4
 simp at e4
 subst e4
 obtain ⟨z5,e5,_,s5⟩:=DataW.trod_string Tryz.underlying9 f5
 simp at e5
 subst e5
 exact ⟨⟨z0,z1,z2,z3,⟨a4,n4,c4⟩,z5,x4⟩,rfl,h4,b4,l4,trivial,int64.of_wf s0,int64.of_wf s1⟩
theorem in_vlts {fuel:Nat} {cs:List Value} {y:DataW H × List MemPlace} (h:DataW.trod enc Tryz.prog W 0 (fun _=>true) true fuel 23 cs=some y):∃a n c xs,cs=[.slice a n c]∧n≤c∧VtIn W W.heap.size a n xs:=by
 obtain ⟨a,n,c,xs,e,h1,_,h2,h3⟩:=in_slice (f:=fVt) (s:=15) (Pr:=fun v:VtR=>Sl I W W.heap.size v.wr.a v.wr.n v.xs∧v.wr.n≤9223372036854775807) Tryz.underlying23 Tryz.cellsVlt (by decide) fVt_len (fun _ _ _ h=>in_vlt h) h
 exact ⟨a,n,c,xs,e,h1,h2,h3⟩
end
