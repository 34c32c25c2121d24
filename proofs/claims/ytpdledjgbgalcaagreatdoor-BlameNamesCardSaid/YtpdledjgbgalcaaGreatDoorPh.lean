import Derived.Lib.SmallJoins
import Derived.Test.YtpdledjgbgalcaaGreatDoorRows
import Derived.Test.YtpdledjgbgalcaaGreatDoorPk
namespace Go.Proofs.YtpdledjgbgalcaaGreatDoor
set_option maxRecDepth 20000
open Go.ChangeShapes Go.WideShapes Go.ChangeAt Go.RowKit Go.Proofs.Tryz
set_option linter.unusedVariables false
set_option linter.unusedSimpArgs false
def IsRow (k:IntKind) (w:World) (a:Option Addr) (len cap:Nat) (zs:List Int):Prop:=
 (a=none/\len=0/\cap=0/\zs=[])∨
 ∃x,a=some x/\len<=cap/\cap<=maxLen/\zs.length=cap/\(∀i,i < zs.length->w.cell? (x.add i)=some (.int k (zs.getD i 0)))/\∀n∈zs,(Lit.int k n).wf=true
theorem IsRow.sl {k:IntKind} {w:World} {a:Option Addr} {len cap:Nat} {M:List Int} (h:IsRow k w a len cap M):Sl (Value.int k) w w.heap.size a len (M.take len)/\len<=cap:=by
 rcases h with ⟨rfl,rfl,rfl,rfl⟩ |⟨x,rfl,hl,_,O,N,_⟩
 ·exact ⟨⟨rfl,SL.nil⟩,Nat.le_refl _⟩
 ·have L:(M.take len).length=len:=by rw [List.length_take];omega
  refine ⟨⟨L,fun hn=>?_⟩,hl⟩;have h0:=N 0 om;obtain ⟨b,J,K⟩:=x;have H:K=none:=by simpa [Addr.add] using World.cell?_spot h0
  subst H;refine ⟨b,J,rfl,block_lt_of_cell (a:=⟨b,J,none⟩) (by simpa [Addr.add] using h0),fun i z G=>?_⟩;have hi:i < len:=by have:=(List.getElem?_eq_some_iff.1 G).1;omega
  have:=N i om;rw [Addr.add_mid] at this;rw [this];rw [List.getElem?_take,if_pos hi] at G;rw [ybA G]
section
variable {H:Type} {enc:TypeId × Value->H} {W:World} {d:DataW H} {p:List MemPlace}
end
open Go.ChangeShapes Go.WideShapes Go.ChangeAt Go.RowKit Go.Deep
theorem Tryz.cellsI:prog.cellsOf 3=1:=by kernel_rfl
theorem Tryz.cellsS:prog.cellsOf 9=1:=by kernel_rfl
theorem Tryz.cellsLs:prog.cellsOf 24=1:=by kernel_rfl
instance:Inhabited Hd:=⟨⟨none,0,0⟩⟩
instance:Inhabited Rcp:=⟨⟨0,0,⟨#[]⟩,0,0,0,0,0,0,⟨#[]⟩,⟨none,0,0⟩,0,⟨none,0,0⟩,⟨none,0,0⟩⟩⟩
theorem int64.of_wf {z:Int} (h:(Lit.int .i64 z).wf=true):int64 z:=by
 unfold int64;simp [Lit.wf,IntKind.min,IntKind.max,IntKind.signed,IntKind.bits] at h;omega
section
variable {H:Type} {enc:TypeId × Value->H} {W:World} {d:DataW H} {p:List MemPlace}
theorem yeo {α:Type} [Inhabited α] {f:α->List Value} {s:Nat} {t e:TypeId} (ht:prog.underlying t=some (.slice e)) (hC:prog.cellsOf e=s) (aa:0 < s) (hf:∀x,(f x).length=s) {Pr:α->Prop}
 (ae:∀(fuel:Nat) (cs:List Value) (y:DataW H × List MemPlace),DataW.trod enc prog W 0 (fun _=>true) true fuel e cs=some y->∃x,cs=f x/\Pr x) {fuel:Nat} {cs:List Value} {y:DataW H × List MemPlace}
 (h:DataW.trod enc prog W 0 (fun _=>true) true fuel t cs=some y):∃a n c xs,cs=[.slice a n c]/\n<=c/\c<=maxLen/\SlN f s W W.heap.size a n xs/\∀x∈xs,Pr x:=by
 rcases open_slice ht h with ⟨rfl,_⟩ |⟨x,l,c,m,nn,D,Pl,rfl,_,hl,hm,N,_,hi⟩
 ·exact ⟨none,0,0,[],rfl,Nat.le_refl _,Nat.zero_le _,SlN.nil,fun x hx=>by cases hx⟩
 ·simp only [if_true] at N;subst N
  have U:∀i,i < l->∃r:α,(∀j v,(f r)[j]? =some v->W.cell? (x.add (i*s+j))=some v)/\Pr r:=by
   intro i J;obtain ⟨ag,hc,af⟩:=hi i om;rw [hC] at hc;obtain ⟨_,ah,Z⟩:=World.cells?_some hc;obtain ⟨r,rfl,hr⟩:=ae _ _ _ af;refine ⟨r,fun j v L=>?_,hr⟩;have hj:j < s:=by have:=(List.getElem?_eq_some_iff.1 L).1;rw [hf] at this;exact this
   rw [<-Go.Deep.add_add,Z j hj];exact L
  obtain ⟨R,Y⟩:=choose_lt U;refine ⟨some x,l,_,(List.range l).map R,rfl,hl,hm,⟨by simp,fun hn=>?_⟩,fun z hz=>?_⟩
  ·simp at hn;obtain ⟨u,hu⟩:∃u,(f (R 0))[0]? =some u:=⟨_,List.getElem?_eq_getElem (by rw [hf];exact aa)⟩
   have h0:=(Y 0 hn).1 0 u hu;obtain ⟨b,O,T⟩:=x;have K:T=none:=by simpa [Addr.add] using World.cell?_spot h0
   subst K;refine ⟨b,O,rfl,block_lt_of_cell (a:=⟨b,O,none⟩) (by simpa [Addr.add] using h0),fun i z G j v L=>?_⟩;rw [List.getElem?_map] at G
   have J:i < l:=by
    rcases Nat.lt_or_ge i l with h |h
    ·exact h
    ·rw [List.getElem?_eq_none (by simpa using h)] at G;cases G
   rw [List.getElem?_range J] at G;cases G
   have:=(Y i J).1 j v L;rw [Addr.add_mid] at this;exact this
  ·obtain ⟨i,ac,rfl⟩:=List.mem_map.1 hz;exact (Y i (List.mem_range.1 ac)).2
end
theorem SlN.one {α:Type} {f:α->Value} {w:World} {B n:Nat} {A:Option Addr} {xs:List α} (h:SlN (fun x=>[f x]) 1 w B A n xs):Sl f w B A n xs:=⟨h.1,fun hn=>by
 obtain ⟨b,G,e,hlt,H⟩:=h.2 (by simpa using hn);refine ⟨b,G,e,hlt,fun k x J=>?_⟩;have:=H k x J 0 (f x) rfl
 simpa using this⟩
instance:Inhabited ByteArray:=⟨⟨#[]⟩⟩
section
variable {H:Type} {enc:TypeId × Value->H} {W:World} {d:DataW H} {p:List MemPlace}
theorem Tryz.cellsB:prog.cellsOf 5=1:=by kernel_rfl
theorem Tryz.cellsLb:prog.cellsOf 40=1:=by kernel_rfl
theorem in_strs {fuel:Nat} {cs:List Value} {y:DataW H × List MemPlace} (h:DataW.trod enc prog W 0 (fun _=>true) true fuel 24 cs=some y):∃a n c xs,cs=[.slice a n c]/\n<=c/\Sl fT W W.heap.size a n xs:=by
 obtain ⟨a,n,c,xs,e,h1,_,h2,_⟩:=yeo (f:=fun s=>[fT s]) (s:=1) (Pr:=fun _:ByteArray=>True) underlying24 Tryz.cellsS de (fun _=>rfl) (fun _ _ _ h=>by
  obtain ⟨z,e,_,_⟩:=DataW.trod_string underlying9 h
  exact ⟨z,e,trivial⟩) h
 exact ⟨a,n,c,xs,e,h1,h2.one⟩
end
section
variable {H:Type} {enc:TypeId × Value->H} {W:World} {d:DataW H} {p:List MemPlace}
end
section
variable {H:Type} {enc:TypeId × Value->H} {W:World} {d:DataW H} {p:List MemPlace}
theorem Tryz.cellsEn:prog.cellsOf 55=6:=by kernel_rfl
end
theorem clist2 {α:Type} {l:List α} (h:l.length=2):∃c0 c1,l=[c0,c1]:=by
 match l,h with
 | [c0,c1],_=>exact ⟨c0,c1,rfl⟩
theorem clist4 {α:Type} {l:List α} (h:l.length=4):∃c0 c1 c2 c3,l=[c0,c1,c2,c3]:=by
 match l,h with
 | [c0,c1,c2,c3],_=>exact ⟨c0,c1,c2,c3,rfl⟩
theorem clist5 {α:Type} {l:List α} (h:l.length=5):∃c0 c1 c2 c3 c4,l=[c0,c1,c2,c3,c4]:=by
 match l,h with
 | [c0,c1,c2,c3,c4],_=>exact ⟨c0,c1,c2,c3,c4,rfl⟩
theorem clist6 {α:Type} {l:List α} (h:l.length=6):∃c0 c1 c2 c3 c4 c5,l=[c0,c1,c2,c3,c4,c5]:=by
 match l,h with
 | [c0,c1,c2,c3,c4,c5],_=>exact ⟨c0,c1,c2,c3,c4,c5,rfl⟩
theorem clist7 {α:Type} {l:List α} (h:l.length=7):∃c0 c1 c2 c3 c4 c5 c6,l=[c0,c1,c2,c3,c4,c5,c6]:=by
 match l,h with
 | [c0,c1,c2,c3,c4,c5,c6],_=>exact ⟨c0,c1,c2,c3,c4,c5,c6,rfl⟩
theorem clist8 {α:Type} {l:List α} (h:l.length=8):∃c0 c1 c2 c3 c4 c5 c6 c7,l=[c0,c1,c2,c3,c4,c5,c6,c7]:=by
 match l,h with
 | [c0,c1,c2,c3,c4,c5,c6,c7],_=>exact ⟨c0,c1,c2,c3,c4,c5,c6,c7,rfl⟩
theorem clist15 {α:Type} {l:List α} (h:l.length=15):∃c0 c1 c2 c3 c4 c5 c6 c7 c8 c9 c10 c11 c12 c13 c14,l=[c0,c1,c2,c3,c4,c5,c6,c7,c8,c9,c10,c11,c12,c13,c14]:=by
 match l,h with
 | [c0,c1,c2,c3,c4,c5,c6,c7,c8,c9,c10,c11,c12,c13,c14],_=>exact ⟨c0,c1,c2,c3,c4,c5,c6,c7,c8,c9,c10,c11,c12,c13,c14,rfl⟩
theorem Tryz.cellsLi:prog.cellsOf 27=1:=by kernel_rfl
theorem Tryz.cellsU64:prog.cellsOf 93=1:=by kernel_rfl
theorem Tryz.cellsCut:prog.cellsOf 95=5:=by kernel_rfl
theorem Tryz.cellsRul:prog.cellsOf 97=4:=by kernel_rfl
theorem Tryz.cellsSch:prog.cellsOf 26=2:=by kernel_rfl
theorem Tryz.cellsLe:prog.cellsOf 22=1:=by kernel_rfl
theorem Tryz.cellsLv:prog.cellsOf 23=1:=by kernel_rfl
theorem Tryz.cellsVlt:prog.cellsOf 99=15:=by kernel_rfl
theorem Tryz.cellsVw:prog.cellsOf 29=7:=by kernel_rfl
structure EnR where
 dv:Int
 sq:Int
 k:Int
 dy:Int
 bd:Hd
 pr:ByteArray
 bs:List Int
abbrev fEn (e:EnR):List Value:=[.int .i64 e.dv,.int .i64 e.sq,.int .i64 e.k,.int .i64 e.dy,.slice e.bd.a e.bd.n e.bd.c,.string e.pr]
theorem ycz:∀e,(fEn e).length=6:=fun _=>rfl
def EnOk (w:World) (B:Nat) (e:EnR):Prop:=Sl fB w B e.bd.a e.bd.n e.bs/\Byt e.bs/\e.bd.n<=e.bd.c/\True/\int64 e.dv/\int64 e.sq
def EnIn (w:World) (B:Nat) (A:Option Addr) (n:Nat) (es:List EnR):Prop:=SlN fEn 6 w B A n es/\∀e∈es,EnOk w B e
theorem EnOk.up {w w':World} {B B':Nat} {e:EnR} (h:EnOk w B e) (hb:Below B' w w') (hB:B<=B'):EnOk w' B e:=⟨h.1.up hb hB,h.2⟩
theorem EnIn.up {w w':World} {B B' n:Nat} {A:Option Addr} {es:List EnR} (h:EnIn w B A n es) (hb:Below B' w w') (hB:B<=B'):EnIn w' B A n es:=⟨h.1.up hb hB,fun e he=>(h.2 e he).up hb hB⟩
structure VwIn (w:World) (B:Nat) (x:Vw) (es:List EnR) (vs:List VtR) (pubs drs:List ByteArray) (fks:List Int):Prop where
 E:EnIn w B x.E.a x.E.n es
 V:VtIn w B x.V.a x.V.n vs
 P:Sl fT w B x.P.a x.P.n pubs
 D:Sl fT w B x.D.a x.D.n drs
 F:Sl I w B x.F.a x.F.n fks
 cs:x.E.n<=9223372036854775807/\x.E.n<=x.E.c/\x.V.n<=x.V.c/\x.P.n<=x.P.c/\x.D.n<=x.D.c/\x.F.n<=x.F.c
theorem VwIn.up {w L:World} {B M:Nat} {x:Vw} {N:List EnR} {vs:List VtR} {J K:List ByteArray} {fks:List Int} (h:VwIn w B x N vs J K fks) (H:Below M w L) (G:B<=M):VwIn L B x N vs J K fks:=
 ⟨h.E.up H G,h.V.up H G,h.P.up H G,h.D.up H G,h.F.up H G,h.cs⟩
instance:Inhabited VtR:=⟨⟨0,⟨none,0,0⟩,0,0,0,⟨#[]⟩,0,0,0,0,0,0,0,0,0,[]⟩⟩
instance:Inhabited EnR:=⟨⟨0,0,0,0,⟨none,0,0⟩,⟨#[]⟩,[]⟩⟩
section
variable {H:Type} {enc:TypeId × Value->H} {W:World} {d:DataW H} {p:List MemPlace}
theorem in_ilist {fuel:Nat} {cs:List Value} {y:DataW H × List MemPlace} (h:DataW.trod enc prog W 0 (fun _=>true) true fuel 27 cs=some y):∃a n c xs,cs=[.slice a n c]/\n<=c/\c<=maxLen/\Sl I W W.heap.size a n xs:=by
 obtain ⟨a,n,c,xs,e,h1,h0,h2,_⟩:=yeo (f:=fun x:Int=>[I x]) (s:=1) (Pr:=fun _:Int=>True) underlying27 Tryz.cellsI de (fun _=>rfl) (fun _ _ _ h=>by
  obtain ⟨z,e,_,_⟩:=DataW.trod_int underlying3 h
  exact ⟨z,e,trivial⟩) h
 exact ⟨a,n,c,xs,e,h1,h0,h2.one⟩
theorem in_btsM {fuel:Nat} {cs:List Value} {y:DataW H × List MemPlace} (h:DataW.trod enc prog W 0 (fun _=>true) true fuel 40 cs=some y):∃a n c xs,cs=[.slice a n c]/\n<=c/\c<=maxLen/\Sl fB W W.heap.size a n xs/\Byt xs:=by
 obtain ⟨a,n,c,xs,e,h1,h0,h2,J⟩:=yeo (f:=fun s=>[fB s]) (s:=1) (Pr:=fun x:Int=>0<=x/\x < 256) underlying40 Tryz.cellsB de (fun _=>rfl) (fun _ _ _ h=>by
  obtain ⟨z,e,_,G⟩:=DataW.trod_int underlying5 h;refine ⟨z,e,?_⟩;simp [Lit.wf,IntKind.min,IntKind.max,IntKind.signed,IntKind.bits] at G
  omega) h
 exact ⟨a,n,c,xs,e,h1,h0,h2.one,J⟩
theorem in_cut {fuel:Nat} {cs:List Value} {x:DataW H × List MemPlace} (h:DataW.trod enc prog W 0 (fun _=>true) true fuel 95 cs=some x):∃c0 c1 c2 c3 c4:Int,cs=[.int .i64 c0,.int .i64 c1,.int .i64 c2,.int .i64 c3,.int .u64 c4]:=by
 obtain ⟨ys,n,_,_,O,Y,G⟩:=DataW.trod_struct underlying95 h;rw [Tryz.cellsCut] at O;obtain ⟨c0,c1,c2,c3,c4,rfl⟩:=clist5 O;obtain ⟨M,J,N,K,L,rfl⟩:=clist5 Y;have U:DataW.trod enc prog W 0 (fun _=>true) true n 3 (([c0,c1,c2,c3,c4].drop 0).take (prog.cellsOf 3))=[M,J,N,K,L][0]? :=G 0 _ rfl;rw [Tryz.cellsI] at U;have Z:DataW.trod enc prog W 0 (fun _=>true) true n 3 (([c0,c1,c2,c3,c4].drop 1).take (prog.cellsOf 3))=[M,J,N,K,L][1]? :=G 1 _ rfl;rw [Tryz.cellsI] at Z;have f2:DataW.trod enc prog W 0 (fun _=>true) true n 3 (([c0,c1,c2,c3,c4].drop 2).take (prog.cellsOf 3))=[M,J,N,K,L][2]? :=G 2 _ rfl;rw [Tryz.cellsI] at f2;have f3:DataW.trod enc prog W 0 (fun _=>true) true n 3 (([c0,c1,c2,c3,c4].drop 3).take (prog.cellsOf 3))=[M,J,N,K,L][3]? :=G 3 _ rfl;rw [Tryz.cellsI] at f3;have f4:DataW.trod enc prog W 0 (fun _=>true) true n 93 (([c0,c1,c2,c3,c4].drop 4).take (prog.cellsOf 93))=[M,J,N,K,L][4]? :=G 4 _ rfl;rw [Tryz.cellsU64] at f4;obtain ⟨z0,T,_,s0⟩:=DataW.trod_int underlying3 U;simp at T;subst T;obtain ⟨z1,e1,_,s1⟩:=DataW.trod_int underlying3 Z;simp at e1;subst e1;obtain ⟨z2,z,_,s2⟩:=DataW.trod_int underlying3 f2;simp at z;subst z;obtain ⟨z3,e3,_,s3⟩:=DataW.trod_int underlying3 f3;simp at e3;subst e3;obtain ⟨z4,e4,_,s4⟩:=DataW.trod_int underlying93 f4;simp at e4;subst e4;exact ⟨z0,z1,z2,z3,z4,rfl⟩
theorem in_rul {fuel:Nat} {cs:List Value} {x:DataW H × List MemPlace} (h:DataW.trod enc prog W 0 (fun _=>true) true fuel 97 cs=some x):∃c0 c1 c2 c3:Int,cs=[.int .i64 c0,.int .i64 c1,.int .i64 c2,.int .i64 c3]:=by
 obtain ⟨ys,n,_,_,N,U,G⟩:=DataW.trod_struct underlying97 h;rw [Tryz.cellsRul] at N;obtain ⟨c0,c1,c2,c3,rfl⟩:=clist4 N;obtain ⟨L,J,M,K,rfl⟩:=clist4 U;have T:DataW.trod enc prog W 0 (fun _=>true) true n 3 (([c0,c1,c2,c3].drop 0).take (prog.cellsOf 3))=[L,J,M,K][0]? :=G 0 _ rfl;rw [Tryz.cellsI] at T;have Y:DataW.trod enc prog W 0 (fun _=>true) true n 3 (([c0,c1,c2,c3].drop 1).take (prog.cellsOf 3))=[L,J,M,K][1]? :=G 1 _ rfl;rw [Tryz.cellsI] at Y;have z:DataW.trod enc prog W 0 (fun _=>true) true n 3 (([c0,c1,c2,c3].drop 2).take (prog.cellsOf 3))=[L,J,M,K][2]? :=G 2 _ rfl;rw [Tryz.cellsI] at z;have f3:DataW.trod enc prog W 0 (fun _=>true) true n 3 (([c0,c1,c2,c3].drop 3).take (prog.cellsOf 3))=[L,J,M,K][3]? :=G 3 _ rfl;rw [Tryz.cellsI] at f3;obtain ⟨z0,O,_,s0⟩:=DataW.trod_int underlying3 T;simp at O;subst O;obtain ⟨z1,e1,_,s1⟩:=DataW.trod_int underlying3 Y;simp at e1;subst e1;obtain ⟨z2,Z,_,s2⟩:=DataW.trod_int underlying3 z;simp at Z;subst Z;obtain ⟨z3,e3,_,s3⟩:=DataW.trod_int underlying3 f3;simp at e3;subst e3;exact ⟨z0,z1,z2,z3,rfl⟩
theorem in_sch {fuel:Nat} {cs:List Value} {x:DataW H × List MemPlace} (h:DataW.trod enc prog W 0 (fun _=>true) true fuel 26 cs=some x):∃b h:Int,cs=[.int .i64 b,.int .i64 h]:=by
 obtain ⟨ys,n,_,_,J,L,G⟩:=DataW.trod_struct underlying26 h;rw [Tryz.cellsSch] at J;obtain ⟨c0,c1,rfl⟩:=clist2 J;obtain ⟨K,T,rfl⟩:=clist2 L;have U:DataW.trod enc prog W 0 (fun _=>true) true n 3 (([c0,c1].drop 0).take (prog.cellsOf 3))=[K,T][0]? :=G 0 _ rfl;rw [Tryz.cellsI] at U;have O:DataW.trod enc prog W 0 (fun _=>true) true n 3 (([c0,c1].drop 1).take (prog.cellsOf 3))=[K,T][1]? :=G 1 _ rfl;rw [Tryz.cellsI] at O;obtain ⟨Z,M,_,z⟩:=DataW.trod_int underlying3 U;simp at M;subst M;obtain ⟨Y,N,_,s1⟩:=DataW.trod_int underlying3 O;simp at N;subst N;exact ⟨Z,Y,rfl⟩
theorem in_vlt {fuel:Nat} {cs:List Value} {x:DataW H × List MemPlace} (h:DataW.trod enc prog W 0 (fun _=>true) true fuel 99 cs=some x):∃v:VtR,cs=fVt v/\(Sl I W W.heap.size v.wr.a v.wr.n v.xs/\v.wr.n<=9223372036854775807):=by
 obtain ⟨ys,n,_,_,aa,ac,G⟩:=DataW.trod_struct underlying99 h;rw [Tryz.cellsVlt] at aa;obtain ⟨c0,c1,c2,c3,c4,c5,c6,z,T,Y,M,L,J,N,K,rfl⟩:=clist15 aa;obtain ⟨y0,U,y2,Z,y4,y5,y6,O,rfl⟩:=clist8 ac;have f0:DataW.trod enc prog W 0 (fun _=>true) true n 3 (([c0,c1,c2,c3,c4,c5,c6,z,T,Y,M,L,J,N,K].drop 0).take (prog.cellsOf 3))=[y0,U,y2,Z,y4,y5,y6,O][0]? :=G 0 _ rfl;rw [Tryz.cellsI] at f0;have f1:DataW.trod enc prog W 0 (fun _=>true) true n 27 (([c0,c1,c2,c3,c4,c5,c6,z,T,Y,M,L,J,N,K].drop 1).take (prog.cellsOf 27))=[y0,U,y2,Z,y4,y5,y6,O][1]? :=G 1 _ rfl;rw [Tryz.cellsLi] at f1;have f2:DataW.trod enc prog W 0 (fun _=>true) true n 3 (([c0,c1,c2,c3,c4,c5,c6,z,T,Y,M,L,J,N,K].drop 2).take (prog.cellsOf 3))=[y0,U,y2,Z,y4,y5,y6,O][2]? :=G 2 _ rfl;rw [Tryz.cellsI] at f2;have f3:DataW.trod enc prog W 0 (fun _=>true) true n 3 (([c0,c1,c2,c3,c4,c5,c6,z,T,Y,M,L,J,N,K].drop 3).take (prog.cellsOf 3))=[y0,U,y2,Z,y4,y5,y6,O][3]? :=G 3 _ rfl;rw [Tryz.cellsI] at f3;have f4:DataW.trod enc prog W 0 (fun _=>true) true n 3 (([c0,c1,c2,c3,c4,c5,c6,z,T,Y,M,L,J,N,K].drop 4).take (prog.cellsOf 3))=[y0,U,y2,Z,y4,y5,y6,O][4]? :=G 4 _ rfl;rw [Tryz.cellsI] at f4;have f5:DataW.trod enc prog W 0 (fun _=>true) true n 9 (([c0,c1,c2,c3,c4,c5,c6,z,T,Y,M,L,J,N,K].drop 5).take (prog.cellsOf 9))=[y0,U,y2,Z,y4,y5,y6,O][5]? :=G 5 _ rfl;rw [Tryz.cellsS] at f5;have f6:DataW.trod enc prog W 0 (fun _=>true) true n 95 (([c0,c1,c2,c3,c4,c5,c6,z,T,Y,M,L,J,N,K].drop 6).take (prog.cellsOf 95))=[y0,U,y2,Z,y4,y5,y6,O][6]? :=G 6 _ rfl;rw [Tryz.cellsCut] at f6;have f7:DataW.trod enc prog W 0 (fun _=>true) true n 97 (([c0,c1,c2,c3,c4,c5,c6,z,T,Y,M,L,J,N,K].drop 11).take (prog.cellsOf 97))=[y0,U,y2,Z,y4,y5,y6,O][7]? :=G 7 _ rfl;rw [Tryz.cellsRul] at f7;obtain ⟨z0,e0,_,s0⟩:=DataW.trod_int underlying3 f0;simp at e0;subst e0;obtain ⟨a1,n1,c1,x1,e1,l1,m1,h1⟩:=in_ilist f1;simp at e1;subst e1;obtain ⟨z2,e2,_,s2⟩:=DataW.trod_int underlying3 f2;simp at e2;subst e2;obtain ⟨z3,e3,_,s3⟩:=DataW.trod_int underlying3 f3;simp at e3;subst e3;obtain ⟨z4,e4,_,s4⟩:=DataW.trod_int underlying3 f4;simp at e4;subst e4;obtain ⟨z5,e5,_,s5⟩:=DataW.trod_string underlying9 f5;simp at e5;subst e5;obtain ⟨q0,q1,q2,q3,q4,e6⟩:=in_cut f6;simp at e6;obtain ⟨rfl,rfl,rfl,rfl,rfl⟩:=e6;obtain ⟨r0,r1,r2,r3,e7⟩:=in_rul f7;simp at e7;obtain ⟨rfl,rfl,rfl,rfl⟩:=e7;exact ⟨⟨z0,⟨a1,n1,c1⟩,z2,z3,z4,z5,q0,q1,q2,q3,q4,r0,r1,r2,r3,x1⟩,rfl,h1,Nat.le_trans l1 m1⟩
theorem in_enr {fuel:Nat} {cs:List Value} {x:DataW H × List MemPlace} (h:DataW.trod enc prog W 0 (fun _=>true) true fuel 55 cs=some x):∃v:EnR,cs=fEn v/\EnOk W W.heap.size v:=by
 obtain ⟨ys,n,_,_,U,aa,G⟩:=DataW.trod_struct underlying55 h;rw [Tryz.cellsEn] at U;obtain ⟨c0,c1,c2,c3,c4,M,rfl⟩:=clist6 U;obtain ⟨O,J,T,K,N,L,rfl⟩:=clist6 aa;have z:DataW.trod enc prog W 0 (fun _=>true) true n 3 (([c0,c1,c2,c3,c4,M].drop 0).take (prog.cellsOf 3))=[O,J,T,K,N,L][0]? :=G 0 _ rfl;rw [Tryz.cellsI] at z;have f1:DataW.trod enc prog W 0 (fun _=>true) true n 3 (([c0,c1,c2,c3,c4,M].drop 1).take (prog.cellsOf 3))=[O,J,T,K,N,L][1]? :=G 1 _ rfl;rw [Tryz.cellsI] at f1;have f2:DataW.trod enc prog W 0 (fun _=>true) true n 3 (([c0,c1,c2,c3,c4,M].drop 2).take (prog.cellsOf 3))=[O,J,T,K,N,L][2]? :=G 2 _ rfl;rw [Tryz.cellsI] at f2;have f3:DataW.trod enc prog W 0 (fun _=>true) true n 3 (([c0,c1,c2,c3,c4,M].drop 3).take (prog.cellsOf 3))=[O,J,T,K,N,L][3]? :=G 3 _ rfl;rw [Tryz.cellsI] at f3;have f4:DataW.trod enc prog W 0 (fun _=>true) true n 40 (([c0,c1,c2,c3,c4,M].drop 4).take (prog.cellsOf 40))=[O,J,T,K,N,L][4]? :=G 4 _ rfl;rw [Tryz.cellsLb] at f4;have f5:DataW.trod enc prog W 0 (fun _=>true) true n 9 (([c0,c1,c2,c3,c4,M].drop 5).take (prog.cellsOf 9))=[O,J,T,K,N,L][5]? :=G 5 _ rfl;rw [Tryz.cellsS] at f5;obtain ⟨z0,Y,_,s0⟩:=DataW.trod_int underlying3 z;simp at Y;subst Y;obtain ⟨z1,e1,_,s1⟩:=DataW.trod_int underlying3 f1;simp at e1;subst e1;obtain ⟨z2,e2,_,s2⟩:=DataW.trod_int underlying3 f2;simp at e2;subst e2;obtain ⟨z3,e3,_,s3⟩:=DataW.trod_int underlying3 f3;simp at e3;subst e3;obtain ⟨a4,n4,c4,x4,e4,l4,m4,h4,b4⟩:=in_btsM f4;simp at e4;subst e4;obtain ⟨z5,Z,_,s5⟩:=DataW.trod_string underlying9 f5;simp at Z;subst Z;exact ⟨⟨z0,z1,z2,z3,⟨a4,n4,c4⟩,z5,x4⟩,rfl,h4,b4,l4,trivial,int64.of_wf s0,int64.of_wf s1⟩
theorem in_vlts {fuel:Nat} {cs:List Value} {y:DataW H × List MemPlace} (h:DataW.trod enc prog W 0 (fun _=>true) true fuel 23 cs=some y):∃a n c xs,cs=[.slice a n c]/\n<=c/\VtIn W W.heap.size a n xs:=by
 obtain ⟨a,n,c,xs,e,h1,_,h2,G⟩:=yeo (f:=fVt) (s:=15) (Pr:=fun v:VtR=>Sl I W W.heap.size v.wr.a v.wr.n v.xs/\v.wr.n<=9223372036854775807) underlying23 Tryz.cellsVlt de fVt_len (fun _ _ _ h=>in_vlt h) h;exact ⟨a,n,c,xs,e,h1,h2,G⟩
end
open Go.RowKit
structure PcX where
 st:ByteArray
 ix:Int
 xs:List Int
 ys:List ByteArray
structure PcR where
 x:PcX
 d:Hd
 q:Hd
abbrev fPc (p:PcR):List Value:=[.string p.x.st,.int .i64 p.x.ix,.slice p.d.a p.d.n p.d.c,.slice p.q.a p.q.n p.q.c]
theorem fPc_len:∀p,(fPc p).length=4:=fun _=>rfl
structure MtR where
 e:EnR
 h:Hd
 v:List Int
abbrev fMt (m:MtR):List Value:=fEn m.e++[.slice m.h.a m.h.n m.h.c]
theorem fMt_len:∀m,(fMt m).length=7:=fun _=>rfl
def PcK (w:World) (lab:Nat->Rl) (p:PcR):Prop:=(Sl fB w w.heap.size p.d.a p.d.n p.x.xs/\DatB lab p.d.a p.d.n)/\(Sl fT w w.heap.size p.q.a p.q.n p.x.ys/\DatB lab p.q.a p.q.n)/\p.d.n<=p.d.c/\p.q.n<=p.q.c
def MtK (w:World) (lab:Nat->Rl) (m:MtR):Prop:=Sl I w w.heap.size m.h.a m.h.n m.v/\DatB lab m.h.a m.h.n
abbrev cJ (x:Vw) (A:Option Addr) (n c b1 b2:Nat):Array Value:=#[.slice x.E.a x.E.n x.E.c,.slice x.V.a x.V.n x.V.c,.slice x.P.a x.P.n x.P.c,.int .i64 x.b,.int .i64 x.h,.slice x.D.a x.D.n x.D.c,.slice x.F.a x.F.n x.F.c,.slice A n c,.map (some b1),.map (some b2)]
abbrev nilV:Value:= .slice none 0 0
section
variable {lab:Nat->Rl} {P:Rl->Prop} {w w':World}
theorem PcK.fr {p:PcR} (h:PcK w lab p) (hf:FrP lab P w w') (hr:¬P .dat):PcK w' lab p:=⟨⟨h.1.1.fr h.1.2 hf hr,h.1.2⟩,⟨h.2.1.1.fr h.2.1.2 hf hr,h.2.1.2⟩,h.2.2⟩
theorem MtK.fr {m:MtR} (h:MtK w lab m) (hf:FrP lab P w w') (hr:¬P .dat):MtK w' lab m:=⟨h.1.fr h.2 hf hr,h.2⟩
theorem PcK.set {p:PcR} {v G:Value} {r:Rl} (h:PcK w lab p) (H:G.ownBlock=v.ownBlock∨∃g,G.ownBlock=some g/\w.heap.size<=g) (hl:Lab lab r v):PcK w (setL lab G r) p:=⟨⟨h.1.1,h.1.2.set h.1.1 H hl⟩,⟨h.2.1.1,h.2.1.2.set h.2.1.1 H hl⟩,h.2.2⟩
theorem MtK.set {m:MtR} {v v':Value} {r:Rl} (h:MtK w lab m) (hc:v'.ownBlock=v.ownBlock∨∃g,v'.ownBlock=some g/\w.heap.size<=g) (hl:Lab lab r v):MtK w (setL lab v' r) m:=⟨h.1,h.2.set h.1 hc hl⟩
end
def RowS (w:World) (lab:Nat->Rl) (base:Nat) (r:Rl) (v:Value) (xs:List PcX):Prop:=
 ∃ps:List PcR,ps.map (·.x)=xs/\OwnN fPc 4 42 w base v ps/\Lab lab r v/\∀p∈ps,PcK w lab p
def RowM (w:World) (lab:Nat->Rl) (base:Nat) (r:Rl) (v:Value) (xs:List (EnR × List Int)):Prop:=
 ∃ms:List MtR,ms.map (fun m=>(m.e,m.v))=xs/\OwnN fMt 7 176 w base v ms/\Lab lab r v/\∀m∈ms,MtK w lab m
section
variable {lab:Nat->Rl} {P:Rl->Prop} {w w':World} {base:Nat} {r:Rl} {v:Value}
theorem RowS.fr {xs:List PcX} (h:RowS w lab base r v xs) (hf:FrP lab P w w') (hr:¬P r) (hd:¬P .dat):RowS w' lab base r v xs:=by
 obtain ⟨ps,h1,h2,G,H⟩:=h;exact ⟨ps,h1,OwnN.fr h2 G hf hr,G,fun p hp=>(H p hp).fr hf hd⟩
theorem RowM.fr {xs:List (EnR × List Int)} (h:RowM w lab base r v xs) (hf:FrP lab P w w') (hr:¬P r) (hd:¬P .dat):RowM w' lab base r v xs:=by
 obtain ⟨ps,h1,h2,G,H⟩:=h;exact ⟨ps,h1,OwnN.fr h2 G hf hr,G,fun p hp=>(H p hp).fr hf hd⟩
theorem RowS.set {xs:List PcX} {u G:Value} {H:Rl} (h:RowS w lab base r v xs) (J:G.ownBlock=u.ownBlock∨∃g,G.ownBlock=some g/\w.heap.size<=g) (hl:Lab lab H u):RowS w (setL lab G H) base r v xs:=by
 obtain ⟨ps,h1,h2,M,L⟩:=h;exact ⟨ps,h1,h2,M.set (fun k K=>(ol h2 k K).2) J hl,fun p hp=>(L p hp).set J hl⟩
theorem RowM.set {xs:List (EnR × List Int)} {u G:Value} {H:Rl} (h:RowM w lab base r v xs) (J:G.ownBlock=u.ownBlock∨∃g,G.ownBlock=some g/\w.heap.size<=g) (hl:Lab lab H u):RowM w (setL lab G H) base r v xs:=by
 obtain ⟨ps,h1,h2,M,L⟩:=h;exact ⟨ps,h1,h2,M.set (fun k K=>(ol h2 k K).2) J hl,fun p hp=>(L p hp).set J hl⟩
theorem RowS.nil:RowS w lab base r nilV []:=⟨[],rfl,OwnN.nil,Lab.nil _ _,fun _ h=>by cases h⟩
theorem RowM.nil:RowM w lab base r nilV []:=⟨[],rfl,OwnN.nil,Lab.nil _ _,fun _ h=>by cases h⟩
end
structure JSt (w:World) (lab:Nat->Rl) (s k kS kM:Nat) (x:Vw) (l:List EnR) (A:Option Addr) (n c:Nat) (mN mS mM:Lit->Value) (has:Int->Int->Bool) (pcs:Int->Int->Int->List PcX) (mts:Int->List (EnR × List Int)):Prop where
 vw:w.heap[s]? =some (.cells (cVw x) 29 (0,0))
 jd:w.heap[s+3]? =some (.cells (cJ x A n c (s+1) (s+2)) 168 (0,0))
 seen:MapV w 171 (s+4) k (.bool false) mN/\∀d q,int64 d->int64 q->mN (kN d q)= .bool (has d q)
 ent:OwnN fEn 6 55 w (s+5) (.slice A n c) l/\Lab lab .ent (.slice A n c)
 shm:MapV w 173 (s+1) kS nilV mS
 shr:∀d q y,int64 d->int64 q->int64 y->RowS w lab (s+5) (.sh (kR d q y)) (mS (kR d q y)) (pcs d q y)
 mtm:MapV w 3 (s+2) kM nilV mM
 mtr:∀y,int64 y->RowM w lab (s+5) (.mt (.int .i64 y)) (mM (.int .i64 y)) (mts y)
 fix:∀i,i < 5->lab (s+i)= .fix i
 lo:∀i,i < s->lab i= .fix 9
 hi:s+5<=w.heap.size/\∀i,w.heap.size<=i->lab i= .dat
section
variable {w w':World} {lab:Nat->Rl} {s k kS kM:Nat} {x:Vw} {l:List EnR} {A:Option Addr} {n c:Nat} {mN mS mM:Lit->Value} {has:Int->Int->Bool} {pcs:Int->Int->Int->List PcX} {mts:Int->List (EnR × List Int)}
theorem JSt.on (h:JSt w lab s k kS kM x l A n c mN mS mM has pcs mts) (G:Below w.heap.size w w'):JSt w' lab s k kS kM x l A n c mN mS mM has pcs mts:=by
 have L:=h.hi.1;have hf:FrP lab (fun _=>False) w w':=FrP.below G;have J:∀i,i < 5->w'.heap[s+i]? =w.heap[s+i]? :=fun i hi=>G.block _ om;exact ⟨(J 0 om).trans h.vw,(J 3 om).trans h.jd,⟨h.seen.1.fr hf (fun h=>h),h.seen.2⟩,⟨OwnN.fr h.ent.1 h.ent.2 hf (fun h=>h),h.ent.2⟩,h.shm.fr hf (fun h=>h),fun d q y hd K H=>(h.shr d q y hd K H).fr hf (fun h=>h) (fun h=>h),h.mtm.fr hf (fun h=>h),fun y H=>(h.mtr y H).fr hf (fun h=>h) (fun h=>h),h.fix,h.lo,⟨lT L G.size,fun i hi=>h.hi.2 i (lT G.size hi)⟩⟩
theorem JSt.under (h:JSt w lab s k kS kM x l A n c mN mS mM has pcs mts) (G:But (fun i=>i < s) w w'):JSt w' lab s k kS kM x l A n c mN mS mM has pcs mts:=by
 have L:=h.hi.1;have hf:FrP lab (fun r=>r= .fix 9) w w':=⟨G.size,fun k H hn=>G.block k H (fun hs=>hn (h.lo k hs))⟩;have H:∀i,i < 5->w'.heap[s+i]? =w.heap[s+i]? :=fun i hi=>G.block _ om om;exact ⟨(H 0 om).trans h.vw,(H 3 om).trans h.jd,⟨h.seen.1.fr hf (by rw [h.fix 4 om];simp),h.seen.2⟩,⟨OwnN.fr h.ent.1 h.ent.2 hf sI,h.ent.2⟩,h.shm.fr hf (by rw [h.fix 1 om];simp),fun d q y hd K J=>(h.shr d q y hd K J).fr hf sI sI,h.mtm.fr hf (by rw [h.fix 2 om];simp),fun y J=>(h.mtr y J).fr hf sI sI,h.fix,h.lo,⟨lT L G.size,fun i hi=>h.hi.2 i (lT G.size hi)⟩⟩
theorem JSt.note {d q:Int} (h:JSt w lab s k kS kM x l A n c mN mS mM has pcs mts) (hd:int64 d) (M:int64 q) (T:w.grownBy w' (some (s+4))) (W:MapV w' 171 (s+4) (k+1) (.bool false) (putM mN (kN d q) (.bool true))):
 JSt w' lab s (k+1) kS kM x l A n c (putM mN (kN d q) (.bool true)) mS mM (fun G H=>has G H||(decide (G=d)&&decide (H=q))) pcs mts:=by
 have Y:=h.hi.1;have hf:FrP lab (fun r=>r= .fix 4) w w':=FrP.blk T (h.fix 4 om);have U:∀i,i < 4->w'.heap[s+i]? =w.heap[s+i]? :=fun i hi=>hf.same _ om (by rw [h.fix i om];simp;omega);refine ⟨(U 0 om).trans h.vw,(U 3 om).trans h.jd,⟨W,fun G H J K=>?_⟩,⟨OwnN.fr h.ent.1 h.ent.2 hf sI,h.ent.2⟩,h.shm.fr hf (by rw [h.fix 1 om];simp),fun d q y hd M O=>(h.shr d q y hd M O).fr hf sI sI,h.mtm.fr hf (by rw [h.fix 2 om];simp),fun y O=>(h.mtr y O).fr hf sI sI,h.fix,h.lo,⟨lT Y T.size,fun i hi=>h.hi.2 i (lT T.size hi)⟩⟩
 by_cases N:G=d/\H=q
 ·obtain ⟨rfl,rfl⟩:=N;rw [ydD];simp
 ·rw [yda (fun e=>N (kN_inj J K hd M e)),h.seen.2 G H J K]
  have:(decide (G=d)&&decide (H=q))=false:=by
   rcases Decidable.not_and_iff_not_or_not.1 N with h1 |h1<;>simp [h1]
  rw [this,Bool.or_false]
theorem JSt.more {J G H:Nat} (h:JSt w lab s k kS kM x l A n c mN mS mM has pcs mts) (h1:k<=J) (h2:kS<=G) (K:kM<=H):JSt w lab s J G H x l A n c mN mS mM has pcs mts:=
 ⟨h.vw,h.jd,⟨h.seen.1.mono h1,h.seen.2⟩,h.ent,h.shm.mono h2,h.shr,h.mtm.mono K,h.mtr,h.fix,h.lo,h.hi⟩
theorem JSt.put_ent {e:EnR} {K:Option Addr} {G H:Nat} (h:JSt w lab s k kS kM x l A n c mN mS mM has pcs mts) (hf:FrP lab (fun r=>r= .ent∨r= .fix 3) w w') (hj:w'.heap[s+3]? =some (.cells (cJ x K G H (s+1) (s+2)) 168 (0,0)))
 (T:OwnN fEn 6 55 w' (s+5) (.slice K G H) (l++[e])) (M:(Value.slice K G H).ownBlock=(Value.slice A n c).ownBlock∨∃g,(Value.slice K G H).ownBlock=some g/\w.heap.size<=g):
 JSt w' (setL lab (.slice K G H) .ent) s k kS kM x (l++[e]) K G H mN mS mM has pcs mts:=by
 have z:=h.hi.1;have hl:=h.ent.2;have J:=hf.set M hl;have L:∀i,i < 5->setL lab (.slice K G H) .ent (s+i)= .fix i:=fun i hi=>by rw [ycy M hl om];exact h.fix i hi
 have U:∀i,i < 5->i≠3->w'.heap[s+i]? =w.heap[s+i]? :=fun i hi Y=>hf.same _ om (by rw [h.fix i hi];simp;exact Y);have N:∀g,(Value.slice K G H).ownBlock=some g->g < w'.heap.size:=fun g Z=>(ol T g Z).2;refine ⟨(U 0 om om).trans h.vw,hj,⟨h.seen.1.fr J (by rw [L 4 om];simp),h.seen.2⟩,⟨T,setL_same _ _ _⟩,h.shm.fr J (by rw [L 1 om];simp),fun d q y hd W O=>((h.shr d q y hd W O).set M hl).fr J sI sI,h.mtm.fr J (by rw [L 2 om];simp),fun y O=>((h.mtr y O).set M hl).fr J sI sI,L,(fun i hi=>by rw [ycy M hl om];exact h.lo i hi),⟨lT z hf.le,fun i hi=>?_⟩⟩;rw [setL_hi N hi];exact h.hi.2 i (lT hf.le hi)
theorem JSt.put_pc {d q y:Int} {J:Value} {ps:List PcR} {p:PcR} {N:Int->Int->Int->List PcX} (h:JSt w lab s k kS kM x l A n c mN mS mM has pcs mts) (hd:int64 d) (hq:int64 q) (hy:int64 y)
 (af:ps.map (·.x)=pcs d q y) (ae:∀u∈ps,PcK w lab u) (hl:Lab lab (.sh (kR d q y)) (mS (kR d q y))) (hp:PcK w lab p)
 (hf:FrP lab (fun r=>r= .sh (kR d q y)∨r= .fix 1) w w') (hm:MapV w' 173 (s+1) (kS+1) nilV (putM mS (kR d q y) J))
 (ho:OwnN fPc 4 42 w' (s+5) J (ps++[p])) (H:J.ownBlock=(mS (kR d q y)).ownBlock∨∃g,J.ownBlock=some g/\w.heap.size<=g)
 (hn:N d q y=pcs d q y++[p.x]) (ac:∀L M K,¬(L=d/\M=q/\K=y)->N L M K=pcs L M K):
 JSt w' (setL lab J (.sh (kR d q y))) s k (kS+1) kM x l A n c mN (putM mS (kR d q y) J) mM has N mts:=by
 have hz:=h.hi.1;have G:=hf.set H hl;have U:∀i,i < 5->setL lab J (.sh (kR d q y)) (s+i)= .fix i:=fun i hi=>by rw [ycy H hl om];exact h.fix i hi
 have O:∀i,i < 5->i≠1->w'.heap[s+i]? =w.heap[s+i]? :=fun i hi h3=>hf.same _ om (by rw [h.fix i hi];simp;exact h3);have aa:∀g,J.ownBlock=some g->g < w'.heap.size:=fun g hg=>(ol ho g hg).2;refine ⟨(O 0 om om).trans h.vw,(O 3 om om).trans h.jd,⟨h.seen.1.fr G (by rw [U 4 om];simp),h.seen.2⟩,⟨OwnN.fr h.ent.1 (h.ent.2.set (fun k O=>(ol h.ent.1 k O).2) H hl) G sI,h.ent.2.set (fun k O=>(ol h.ent.1 k O).2) H hl⟩,hm,fun L M K z Z Y=>?_,h.mtm.fr G (by rw [U 2 om];simp),fun y hy=>((h.mtr y hy).set H hl).fr G sI sI,U,(fun i hi=>by rw [ycy H hl om];exact h.lo i hi),⟨lT hz hf.le,fun i hi=>?_⟩⟩
 ·by_cases he:L=d/\M=q/\K=y
  ·obtain ⟨rfl,rfl,rfl⟩:=he;rw [ydD,hn];refine ⟨ps++[p],by simp [af],ho,setL_same _ _ _,fun u T=>?_⟩;rcases List.mem_append.1 T with T |T
   ·exact ((ae u T).set H hl).fr G sI
   ·obtain rfl:u=p:=by simpa using T
    exact (hp.set H hl).fr G sI
  ·rw [ac L M K he];have W:kR L M K≠kR d q y:=fun e=>he (kR_inj z Z Y hd hq hy e);rw [yda W];exact ((h.shr L M K z Z Y).set H hl).fr G (by simp [W]) sI
 ·rw [setL_hi aa hi];exact h.hi.2 i (lT hf.le hi)
theorem JSt.put_mt {y:Int} {J:Value} {T:List MtR} {m:MtR} {L:Int->List (EnR × List Int)} (h:JSt w lab s k kS kM x l A n c mN mS mM has pcs mts) (hy:int64 y)
 (ae:T.map (fun m=>(m.e,m.v))=mts y) (aa:∀u∈T,MtK w lab u) (hl:Lab lab (.mt (.int .i64 y)) (mM (.int .i64 y))) (hp:MtK w lab m)
 (hf:FrP lab (fun r=>r= .mt (.int .i64 y)∨r= .fix 2) w w') (hm:MapV w' 3 (s+2) (kM+1) nilV (putM mM (.int .i64 y) J))
 (z:OwnN fMt 7 176 w' (s+5) J (T++[m])) (H:J.ownBlock=(mM (.int .i64 y)).ownBlock∨∃g,J.ownBlock=some g/\w.heap.size<=g)
 (hn:L y=mts y++[(m.e,m.v)]) (Z:∀K,K≠y->L K=mts K):
 JSt w' (setL lab J (.mt (.int .i64 y))) s k kS (kM+1) x l A n c mN mS (putM mM (.int .i64 y) J) has pcs L:=by
 have hz:=h.hi.1;have G:=hf.set H hl;have O:∀i,i < 5->setL lab J (.mt (.int .i64 y)) (s+i)= .fix i:=fun i hi=>by rw [ycy H hl om];exact h.fix i hi
 have M:∀i,i < 5->i≠2->w'.heap[s+i]? =w.heap[s+i]? :=fun i hi h3=>hf.same _ om (by rw [h.fix i hi];simp;exact h3);have W:∀g,J.ownBlock=some g->g < w'.heap.size:=fun g hg=>(ol z g hg).2;refine ⟨(M 0 om om).trans h.vw,(M 3 om om).trans h.jd,⟨h.seen.1.fr G (by rw [O 4 om];simp),h.seen.2⟩,⟨OwnN.fr h.ent.1 (h.ent.2.set (fun k M=>(ol h.ent.1 k M).2) H hl) G sI,h.ent.2.set (fun k M=>(ol h.ent.1 k M).2) H hl⟩,h.shm.fr G (by rw [O 1 om];simp),fun d q y hd hq hy=>((h.shr d q y hd hq hy).set H hl).fr G sI sI,hm,fun K ac=>?_,O,(fun i hi=>by rw [ycy H hl om];exact h.lo i hi),⟨lT hz hf.le,fun i hi=>?_⟩⟩
 ·by_cases U:K=y
  ·subst U;rw [ydD,hn];refine ⟨T++[m],by simp [ae],z,setL_same _ _ _,fun u N=>?_⟩;rcases List.mem_append.1 N with N |N
   ·exact ((aa u N).set H hl).fr G sI
   ·obtain rfl:u=m:=by simpa using N
    exact (hp.set H hl).fr G sI
  ·rw [Z K U];have Y:(Lit.int .i64 K)≠Lit.int .i64 y:=fun e=>U (by injection e);rw [yda Y];exact ((h.mtr K ac).set H hl).fr G (by simp;exact U) sI
 ·rw [setL_hi W hi];exact h.hi.2 i (lT hf.le hi)
end
def hasE (l:List EnR) (d q:Int):Bool:=l.any fun e=>decide (e.dv=d)&&decide (e.sq=q)
def putE (l:List EnR) (e:EnR):List EnR:=if hasE l e.dv e.sq=true then l else l++[e]
def frE (es:List EnR):List EnR:=es.foldl putE []
theorem frE_snoc (l:List EnR) (e:EnR):frE (l++[e])=putE (frE l) e:=by simp [frE]
theorem putE_yes {l:List EnR} {e:EnR} (h:hasE l e.dv e.sq=true):putE l e=l:=by simp [putE,h]
theorem putE_no {l:List EnR} {e:EnR} (h:hasE l e.dv e.sq=false):putE l e=l++[e]:=by simp [putE,h]
theorem hasE_snoc (l:List EnR) (e:EnR) (d q:Int):hasE (l++[e]) d q=(hasE l d q||(decide (e.dv=d)&&decide (e.sq=q))):=by simp [hasE]
theorem ydM {es:List EnR} {k:Nat} {e:EnR} (h:es[k]? =some e):frE (es.take (k+1))=putE (frE (es.take k)) e:=by
 rw [List.take_add_one,h];exact frE_snoc _ _
theorem putE_len (l:List EnR) (e:EnR):(putE l e).length<=l.length+1:=by unfold putE;split<;>simp
theorem ydp:∀(G:List EnR) (k:Nat),(frE (G.take k)).length<=k
 |G,0=>by simp [frE]
 |G,k+1=>by
  rcases h:G[k]? with _ |e
  ·have:G.take (k+1)=G.take k:=by rw [List.take_add_one,h];simp
   rw [this];have:=ydp G k;omega
  ·rw [ydM h];have:=putE_len (frE (G.take k)) e;have:=ydp G k;omega
theorem putE_mem {l:List EnR} {e x:EnR} (h:x∈putE l e):x∈l∨x=e:=by
 unfold putE at h
 split at h
 ·exact .inl h
 ·simpa using h
structure AqX where
 er:Int
 d:Int
 q:Int
 x:PcX
structure MtX where
 er:Int
 q:Int
 v:List Int
section
variable (aq:EnR->AqX) (mt:EnR->MtX)
def pcE (e:EnR) (d q y:Int):Option PcX:=if e.k=7/\(aq e).er=0/\d=(aq e).d/\q=(aq e).q/\y=e.dv then some (aq e).x else none
def pcsE (l:List EnR) (d q y:Int):List PcX:=l.filterMap fun e=>pcE aq e d q y
def mtE (e:EnR) (y:Int):Option (EnR × List Int):=if e.k=9/\(mt e).er=0/\y=e.dv then some (e,(mt e).v) else none
def mtsE (l:List EnR) (y:Int):List (EnR × List Int):=l.filterMap fun e=>mtE mt e y
theorem pcsE_snoc (l:List EnR) (e:EnR) (d q y:Int):pcsE aq (l++[e]) d q y=pcsE aq l d q y++(pcE aq e d q y).toList:=by
 unfold pcsE;rw [List.filterMap_append];cases h:pcE aq e d q y<;>simp [h]
theorem mtsE_snoc (l:List EnR) (e:EnR) (y:Int):mtsE mt (l++[e]) y=mtsE mt l y++(mtE mt e y).toList:=by
 unfold mtsE;rw [List.filterMap_append];cases h:mtE mt e y<;>simp [h]
theorem pcsE_same {l:List EnR} {e:EnR} (h:¬(e.k=7/\(aq e).er=0)):pcsE aq (l++[e])=pcsE aq l:=by
 funext d q y
 rw [pcsE_snoc];have:pcE aq e d q y=none:=by unfold pcE;rw [if_neg (fun g=>h ⟨g.1,g.2.1⟩)]
 simp [this]
theorem mtsE_same {l:List EnR} {e:EnR} (h:¬(e.k=9/\(mt e).er=0)):mtsE mt (l++[e])=mtsE mt l:=by
 funext y
 rw [mtsE_snoc];have:mtE mt e y=none:=by unfold mtE;rw [if_neg (fun g=>h ⟨g.1,g.2.1⟩)]
 simp [this]
theorem pcsE_put {l:List EnR} {e:EnR} (h1:e.k=7) (h2:(aq e).er=0):pcsE aq (l++[e]) (aq e).d (aq e).q e.dv=pcsE aq l (aq e).d (aq e).q e.dv++[(aq e).x]:=by
 rw [pcsE_snoc];simp [pcE,h1,h2]
theorem pcsE_far {l:List EnR} {e:EnR} {d q y:Int} (h:¬(d=(aq e).d/\q=(aq e).q/\y=e.dv)):pcsE aq (l++[e]) d q y=pcsE aq l d q y:=by
 rw [pcsE_snoc];have:pcE aq e d q y=none:=by unfold pcE;rw [if_neg (fun g=>h g.2.2)]
 simp [this]
theorem mtsE_put {l:List EnR} {e:EnR} (h1:e.k=9) (h2:(mt e).er=0):mtsE mt (l++[e]) e.dv=mtsE mt l e.dv++[(e,(mt e).v)]:=by
 rw [mtsE_snoc];simp [mtE,h1,h2]
theorem mtsE_far {l:List EnR} {e:EnR} {y:Int} (h:y≠e.dv):mtsE mt (l++[e]) y=mtsE mt l y:=by
 rw [mtsE_snoc];have:mtE mt e y=none:=by unfold mtE;rw [if_neg (fun g=>h g.2.2)]
 simp [this]
end
