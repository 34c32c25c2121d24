/- What the law of honest devices needs, plainly: an acquittal's entry read; entries behind a variable. A view opened, with its weights: no body is greater than any machine can hold. The arguments opened: a slice of pieces. -/
import Derived.Test.YtpdledjgbgalcaaGreatDoorJQ
import Derived.Test.YtpdledjgbgalcaaGreatDoorJP
import Derived.Test.YtpdledjgbgalcaaGreatDoorPu
import Derived.Test.YtpdledjgbgalcaaGreatDoorPi
import Derived.SizedLaws
namespace Go.Proofs.YtpdledjgbgalcaaGreatDoor
set_option maxRecDepth 20000
open Go.RowKit Go.Lib
set_option linter.unusedVariables false
set_option linter.unusedSimpArgs false
abbrev PcR.pc (p:PcR):Pc:=⟨p.x.st,p.x.ix,p.d,p.q⟩
def PsIn (w:World) (B:Nat) (A:Option Addr) (n:Nat) (prs:List PcR):Prop:=SlN fPc 4 w B A n prs∧∀p∈prs,PcIn w B p.pc p.x.xs p.x.ys∧Byt p.x.xs
theorem PsIn.up {w w':World} {B B' n:Nat} {A:Option Addr} {prs:List PcR} (h:PsIn w B A n prs) (hb:Below B' w w') (hB:B≤B'):PsIn w' B A n prs:=⟨h.1.up hb hB,fun p hp=>⟨(h.2 p hp).1.up hb hB,(h.2 p hp).2⟩⟩
theorem aqB_facts {R:Rcp} {s:ByteArray} {ix:Int} {xs:List Int} {ys:List ByteArray} (h:aqB R s ix xs ys=true):s.size=32∧(1≤ys.length∧ys.length≤16)∧(∀y∈ys,y.size=32)∧(0≤ix∧ix≤15)∧(1≤xs.length∧xs.length≤65536):=by
 unfold aqB vrB at h
 simp only [Bool.and_eq_true,decide_eq_true_eq] at h
 obtain ⟨_,_,_,⟨h1,h2⟩,h3,⟨h4,h5⟩,_⟩:=h
 exact ⟨h1,h2,al32_iff.1 h3,⟨h4.1,by omega⟩,h5⟩
theorem numB_nat {d q:Int} (h:numB d q=true):(d.toNat:Int)=d∧(q.toNat:Int)=q∧d.toNat≤11∧1≤q.toNat∧q.toNat≤1099511627776:=by
 unfold numB at h
 have:=of_decide_eq_true h
 omega
theorem aqX_enc {dv sq dy d q ix:Int} {bd:Hd} {pr s:ByteArray} {R:Rcp} {xs:List Int} {ys:List ByteArray} (hn:numB d q=true) (h:aqB R s ix xs ys=true):
 aqX ⟨dv,sq,7,dy,bd,pr,encA d.toNat q.toNat s ix.toNat xs ys⟩=⟨0,d,q,⟨s,ix,xs,ys⟩⟩:=by
 obtain ⟨h1,h2,h3,h4,h5⟩:=aqB_facts h
 obtain ⟨n1,n2,n3,n4,n5⟩:=numB_nat hn
 obtain ⟨g0,g1,g2,g3,g4,g5⟩:=encA_read (d:=d.toNat) (q:=q.toNat) (ix:=ix.toNat) n3 n4 n5 h1 (by omega) h5.1 h5.2 h2.1 h2.2 h3
 unfold aqX aqF
 rw [if_pos rfl]
 dsimp only
 rw [if_pos g0,g1,g2,g3,g4,g5,n1,n2]
 have:(ix.toNat:Int)=ix:=by omega
 rw [this]
theorem shB_of {R:Rcp} {p:PcR} (h:aqB R p.x.st p.x.ix p.x.xs p.x.ys=true) (h1:p.x.xs.length=p.d.n) (h2:p.x.ys.length=p.q.n):shB p.pc p.x.ys=true:=by
 obtain ⟨g1,g2,g3,g4,g5⟩:=aqB_facts h
 unfold shB
 refine decide_eq_true ⟨⟨g1,g4⟩,⟨by show 1≤p.d.n;omega,by show p.d.n≤_;omega⟩,⟨by show 1≤p.q.n;omega,by show p.q.n≤_;omega⟩,sumsB_iff.2 g3⟩
theorem encA_byt {d q ix:Nat} {s:ByteArray} {xs:List Int} {ys:List ByteArray} (hx:Byt xs):Byt (encA d q s ix xs ys):=by
 unfold encA
 refine Byt.app (enc_rng _) (Byt.app (enc_rng _) (Byt.app (sB_rng _) (Byt.app (enc_rng _) (Byt.app (enc_rng _) (Byt.app hx (Byt.app (enc_rng _) ?_))))))
 intro b hb
 obtain ⟨x,_,h⟩:=List.mem_flatMap.1 hb
 exact sB_rng x b h
theorem encA_len {d q ix:Nat} {s:ByteArray} {xs:List Int} {ys:List ByteArray} (hs:s.size=32) (hx:xs.length≤65536) (hy:ys.length≤16) (hys:∀y∈ys,y.size=32):(encA d q s ix xs ys).length≤1000000:=by
 unfold encA
 simp only [List.length_append,flat_len32 hys,sB_len]
 have h1:=enc_len d
 have h2:=enc_len q
 have h3:=enc_len ix
 have h4:=enc_len xs.length
 have h5:=enc_len ys.length
 omega
theorem aqB_hd (R:Rcp) (a b c:Hd) (s:ByteArray) (ix:Int) (xs:List Int) (ys:List ByteArray):aqB (rHd R a b c) s ix xs ys=aqB R s ix xs ys:=rfl
def EnB (g:Nat) (w:World) (A:Option Addr) (n:Nat) (es:List EnR):Prop:=∀V,But (fun i=>i=g) w V→EnIn V V.heap.size A n es
theorem EnB.but {g n:Nat} {w w':World} {A:Option Addr} {es:List EnR} (h:EnB g w A n es) (hb:But (fun i=>i=g) w w'):EnB g w' A n es:=fun V hv=>h V (hb.trans hv fun i hi=> .inl hi)
theorem EnB.on {g n:Nat} {w w':World} {A:Option Addr} {es:List EnR} (h:EnB g w A n es) (hb:Below w.heap.size w w'):EnB g w' A n es:=h.but (But.of_below hb)
theorem EnB.new {g n B:Nat} {w:World} {A:Option Addr} {es:List EnR} (h:EnIn w B A n es) (hg:B≤g) (hB:B≤w.heap.size):EnB g w A n es:=fun V hv=>by
 have hb:Below B w V:=hv.below hB fun i hi=>by omega
 have h1:=h.up hb (Nat.le_refl _)
 have h2:B≤V.heap.size:=Nat.le_trans hB hb.size
 exact ⟨h1.1.more h2,fun e he=>⟨(h1.2 e he).1.more' h2,(h1.2 e he).2⟩⟩
theorem Sl.offV {w V:World} {A:Option Addr} {n g:Nat} {xs:List Int} {x:Vw} {t:TypeId} (h:Sl fB w w.heap.size A n xs) (hg:w.heap[g]? =some (.cells (cVw x) t (0,0))) (hb:But (fun i=>i=g) w V):Sl fB V V.heap.size A n xs:=⟨h.1,fun hn=>by
 obtain ⟨b,off,e,hlt,hc⟩:=h.2 hn
 have hne:b≠g:=by
  rintro rfl
  obtain ⟨z,zs,rfl⟩:∃z zs,xs=z::zs:=by cases xs with |nil=>simp at hn |cons z zs=>exact ⟨z,zs,rfl⟩
  have h1:=hc 0 z rfl
  rw [cell_of_row w b (off+0) _ _ _ hg] at h1
  match off,h1 with
  |0,h=>simp at h
  |1,h=>simp at h
  |2,h=>simp at h
  |3,h=>simp at h
  |4,h=>simp at h
  |5,h=>simp at h
  |6,h=>simp at h
  |k+7,h=>simp at h
 exact ⟨b,off,e,Nat.lt_of_lt_of_le hlt hb.size,fun i z hz=>(World.cell?_of_block (hb.block b hlt hne)).trans (hc i z hz)⟩⟩
theorem EnB.snoc {g n c base:Nat} {w w1 w2 w3:World} {A0 A:Option Addr} {n0:Nat} {es:List EnR} {e:EnR} (h:EnB g w A0 n0 es) (h1:Below w.heap.size w w1) (hfr:∀V,But (fun i=>i=g) w1 V→Sl fB V V.heap.size e.bd.a e.bd.n e.bs) (hok:Byt e.bs∧e.bd.n≤e.bd.c∧int64 e.dv∧int64 e.sq)
 (h2:Below w1.heap.size w1 w2) (ho:OwnN fEn 6 55 w2 base (.slice A n c) (es++[e])) (hg:g < base) (h3:But (fun i=>i=g) w2 w3):EnB g w3 A n (es++[e]):=fun V hv=>by
 have hbV:But (fun i=>i=g) w2 V:=h3.trans hv fun i hi=> .inl hi
 have ho':OwnN fEn 6 55 V base (.slice A n c) (es++[e]):=World.ownsRow.kept ho hbV.grownBy (.inr fun e=>by have:=(World.ownsRow.lt ho _ e).1;omega)
 obtain ⟨A',c',hv',_,hs,_⟩:=OwnN.shape fEn_len ho'
 injection hv' with e1 e2 e3
 subst e1 e2
 refine ⟨hs,fun x hx=>?_⟩
 have hb1:But (fun i=>i=g) w1 V:=(But.of_below (p:=fun i=>i=g) h2).trans hbV fun i hi=> .inl hi
 rcases List.mem_append.1 hx with hx |hx
 ·exact (h V ((But.of_below (p:=fun i=>i=g) h1).trans hb1 fun i hi=> .inl hi)).2 x hx
 ·obtain rfl:x=e:=by simpa using hx
  exact ⟨hfr V hb1,hok.1,hok.2.1,trivial,hok.2.2.1,hok.2.2.2⟩
def Hon (g:Nat) (t:TypeId) (x:Vw) (es:List EnR) (al:List Ac) (dev:Int) (w:World) (k j:Nat):Prop:=
 ∃ms A n c,AqM dev 0 (al.take k) ms∧(acqs ms).length=j∧n≤c∧(∀e∈acqs ms,e.bd.n≤1000000)∧EnB g w A n (es++acqs ms)∧w.heap[g]? =some (.cells (cVw (x.setE A n c)) t (0,0))
theorem Hon.start {g:Nat} {t:TypeId} {x:Vw} {es:List EnR} {al:List Ac} {dev:Int} {w:World} (h:EnB g w x.E.a x.E.n es) (hc:x.E.n≤x.E.c) (hg:w.heap[g]? =some (.cells (cVw x) t (0,0))):Hon g t x es al dev w 0 0:=
 ⟨[],x.E.a,x.E.n,x.E.c,trivial,rfl,hc,(fun e he=>by cases he),(by rw [show es++acqs []=es from List.append_nil es];exact h),hg⟩
theorem Hon.on {g:Nat} {t:TypeId} {x:Vw} {es:List EnR} {al:List Ac} {dev:Int} {w w':World} {k j:Nat} (h:Hon g t x es al dev w k j) (hb:Below w.heap.size w w'):Hon g t x es al dev w' k j:=by
 obtain ⟨ms,A,n,c,h1,h2,h3,h4,h5,h6⟩:=h
 exact ⟨ms,A,n,c,h1,h2,h3,h4,h5.on hb,(hb.block _ (lt_of_block h6)).trans h6⟩
theorem take_at {al:List Ac} {k:Nat} {a:Ac} (hk:al[k]? =some a):al.take (k+1)=al.take k++[a]∧(al.take k).length=k:=by
 have h1:=(List.getElem?_eq_some_iff.1 hk).1
 refine ⟨by rw [List.take_add_one,hk];rfl,?_⟩
 rw [List.length_take];omega
theorem Hon.skip {g:Nat} {t:TypeId} {x:Vw} {es:List EnR} {al:List Ac} {dev:Int} {w w':World} {k j:Nat} {a:Ac} (h:Hon g t x es al dev w k j) (hk:al[k]? =some a) (hb:Below w.heap.size w w'):Hon g t x es al dev w' (k+1) j:=by
 obtain ⟨ms,A,n,c,h1,h2,h3,h4,h5,h6⟩:=h.on hb
 obtain ⟨k1,k2⟩:=take_at hk
 have e1:acqs (ms++[none])=acqs ms:=by rw [acqs_snoc];exact List.append_nil _
 exact ⟨ms++[none],A,n,c,(by rw [k1];exact AqM.snoc h1 (fun e he=>by cases he)),(by rw [e1];exact h2),h3,(by rw [e1];exact h4),(by rw [e1];exact h5),h6⟩
theorem Hon.more {g:Nat} {t:TypeId} {x:Vw} {es:List EnR} {al:List Ac} {dev:Int} {w0 w1 w2 w3:World} {k j base n n' c':Nat} {A A':Option Addr} {a:Ac} {e:EnR} {ms:List (Option EnR)} (h1:AqM dev 0 (al.take k) ms) (h2:(acqs ms).length=j) (h4:∀e∈acqs ms,e.bd.n≤1000000) (h5:EnB g w0 A n (es++acqs ms)) (hk:al[k]? =some a)
 (hf:AqFor dev k a e) (hl:e.bd.n≤1000000) (hb01:Below w0.heap.size w0 w1) (hfr:∀V,But (fun i=>i=g) w1 V→Sl fB V V.heap.size e.bd.a e.bd.n e.bs) (hok:Byt e.bs∧e.bd.n≤e.bd.c∧int64 e.dv∧int64 e.sq)
 (hb12:Below w1.heap.size w1 w2) (ho:OwnN fEn 6 55 w2 base (.slice A' n' c') ((es++acqs ms)++[e])) (hg:g < base) (hb23:But (fun i=>i=g) w2 w3) (hc:w3.heap[g]? =some (.cells (cVw (x.setE A' n' c')) t (0,0))):Hon g t x es al dev w3 (k+1) (j+1):=by
 obtain ⟨k1,k2⟩:=take_at hk
 have e1:acqs (ms++[some e])=acqs ms++[e]:=acqs_snoc _ _
 obtain ⟨A9,c9,hv,h9,_,_⟩:=OwnN.shape fEn_len ho
 injection hv with v1 v2 v3
 refine ⟨ms++[some e],A',n',c',?_,(by rw [e1,List.length_append,h2];rfl),(by omega),?_,?_,hc⟩
 ·rw [k1]
  refine AqM.snoc h1 (fun e' he=>?_)
  injection he with he
  subst he
  rwa [k2,Nat.zero_add]
 ·rw [e1]
  intro e' he
  rcases List.mem_append.1 he with he |he
  ·exact h4 e' he
  ·obtain rfl:e'=e:=by simpa using he
   exact hl
 ·rw [e1,←List.append_assoc]
  exact h5.snoc hb01 hfr hok hb12 ho hg hb23
theorem aqFor_enc {dev:Int} {k:Nat} {a:Ac} {p:PcR} {bd:Hd} (hn:numB a.d a.q=true) (h:aqB a.R p.x.st p.x.ix p.x.xs p.x.ys=true):AqFor dev k a ⟨dev,1000+(k:Int),7,0,bd,⟨#[]⟩,encA a.d.toNat a.q.toNat p.x.st p.x.ix.toNat p.x.xs p.x.ys⟩:=
 ⟨⟨rfl,rfl,rfl⟩,by rw [aqX_enc hn h];exact ⟨rfl,rfl,rfl⟩,by rw [aqX_enc hn h];exact h⟩
theorem hdL_sub {S:Int→Bool} {x:Int} (h:S x=false):(hdL S).contains x=false:=by
 cases hc:(hdL S).contains x with
 |false=>rfl
 |true=>
  have h1:=List.contains_iff_mem.1 hc
  unfold hdL at h1
  rw [(List.mem_filter.1 h1).2] at h
  exact absurd h (by decide)
theorem fkB_in {fks:List Int} {d:Int} (h:fks.contains d=false):fkB fks d=false:=by
 unfold fkB
 rw [List.any_eq_false]
 intro f hf hc
 rw [Bool.and_eq_true] at hc
 have h1:f=d:=of_decide_eq_true hc.1
 subst h1
 rw [List.contains_iff_mem.2 hf] at h
 exact absurd h (by decide)
open Go.ChangeShapes Go.WideShapes Go.ChangeAt Go.RowKit Go.Deep
theorem wAll_mem {H:Type} {P:Program} {e:TypeId}:∀ {l:List (DataW H)} {d:DataW H},d∈l→∀n∈d.weights P e,n∈DataW.weightsAll P e l
 |d'::r,d,hd,n,hn=>by
  simp only [DataW.weightsAll,List.mem_append]
  rcases List.mem_cons.1 hd with rfl |h
  ·exact Or.inl hn
  ·exact Or.inr (wAll_mem h n hn)
theorem Tryz.bytesB:Tryz.prog.bytesOf 5=1:=by kernel_rfl
section
variable {H:Type} {enc:TypeId × Value→H} {W:World} {d:DataW H} {p:List MemPlace}
theorem w_btsM {fuel:Nat} {a:Option Addr} {n c:Nat} {x:DataW H × List MemPlace} (h:DataW.trod enc Tryz.prog W 0 (fun _=>true) true fuel 40 [.slice a n c]=some x)
 (hw:∀m∈x.1.weights Tryz.prog 40,m≤reachBytes):n≤reachBytes:=by
 rcases open_slice Tryz.underlying40 h with ⟨e,_⟩ |⟨x,l,c',m,nn,D,Pl,e,_,hl,hm,hmm,hx,hi⟩
 ·simp only [List.cons.injEq,Value.slice.injEq,and_true] at e
  obtain ⟨_,rfl,_⟩:=e
  exact Nat.zero_le _
 ·simp only [List.cons.injEq,Value.slice.injEq,and_true] at e
  obtain ⟨_,rfl,rfl⟩:=e
  simp only [if_true] at hmm
  subst hmm hx
  have:=hw _ (by simp only [DataW.weights,Tryz.underlying40];exact List.mem_cons_self)
  simp only [List.length_map,List.length_range,Tryz.bytesB,Nat.mul_one] at this
  omega
theorem w_enr {fuel:Nat} {v:EnR} {x:DataW H × List MemPlace} (h:DataW.trod enc Tryz.prog W 0 (fun _=>true) true fuel 55 (fEn v)=some x)
 (hw:∀m∈x.1.weights Tryz.prog 55,m≤reachBytes):v.bd.n≤reachBytes:=by
 obtain ⟨ys,n,_,hx,hcl,hyl,hfld⟩:=DataW.trod_struct Tryz.underlying55 h
 obtain ⟨y0,y1,y2,y3,y4,y5,rfl⟩:=clist6 hyl
 have f4:DataW.trod enc Tryz.prog W 0 (fun _=>true) true n 40 (((fEn v).drop 4).take (Tryz.prog.cellsOf 40))=[y0,y1,y2,y3,y4,y5][4]? :=hfld 4 _ rfl
 rw [Tryz.cellsLb] at f4
 have f4':DataW.trod enc Tryz.prog W 0 (fun _=>true) true n 40 [.slice v.bd.a v.bd.n v.bd.c]=some y4:=f4
 subst hx
 refine w_btsM f4' fun m hm=>hw m ?_
 simp only [DataW.weights,Tryz.underlying55]
 exact DataW.weights_mem_each (j:=4) rfl rfl m hm
theorem w_slice {α:Type} [Inhabited α] {f:α→List Value} {s:Nat} {t e:TypeId} (ht:Tryz.prog.underlying t=some (.slice e)) (hC:Tryz.prog.cellsOf e=s) (hs0:0 < s) (hf:∀x,(f x).length=s) {Pr:α→Prop}
 (hel:∀(fuel:Nat) (cs:List Value) (y:DataW H × List MemPlace),DataW.trod enc Tryz.prog W 0 (fun _=>true) true fuel e cs=some y→(∀m∈y.1.weights Tryz.prog e,m≤reachBytes)→∃x,cs=f x∧Pr x) {fuel:Nat} {cs:List Value} {y:DataW H × List MemPlace}
 (h:DataW.trod enc Tryz.prog W 0 (fun _=>true) true fuel t cs=some y) (hw:∀m∈y.1.weights Tryz.prog t,m≤reachBytes):∃a n c xs,cs=[.slice a n c]∧n≤c∧c≤maxLen∧SlN f s W W.heap.size a n xs∧∀x∈xs,Pr x:=by
 rcases open_slice ht h with ⟨rfl,_⟩ |⟨x,l,c,m,nn,D,Pl,rfl,_,hl,hm,hmm,hx,hi⟩
 ·exact ⟨none,0,0,[],rfl,Nat.le_refl _,Nat.zero_le _,SlN.nil,fun x hx=>by cases hx⟩
 ·simp only [if_true] at hmm
  subst hmm hx
  have each:∀i,i < l→∃r:α,(∀j v,(f r)[j]? =some v→W.cell? (x.add (i*s+j))=some v)∧Pr r:=by
   intro i hil
   obtain ⟨cs',hc,ht'⟩:=hi i (by omega)
   rw [hC] at hc
   obtain ⟨_,hcl,hat⟩:=World.cells?_some hc
   obtain ⟨r,rfl,hr⟩:=hel _ _ _ ht' (fun m hm'=>hw m (by
    simp only [DataW.weights,ht,List.mem_cons,List.mem_append]
    exact Or.inr (Or.inl (wAll_mem (List.mem_map.2 ⟨i,List.mem_range.2 hil,rfl⟩) m hm'))))
   refine ⟨r,fun j v hv=>?_,hr⟩
   have hj:j < s:=by have:=(List.getElem?_eq_some_iff.1 hv).1;rw [hf] at this;exact this
   rw [←Go.Deep.add_add,hat j hj]
   exact hv
  obtain ⟨R,hR⟩:=choose_lt each
  refine ⟨some x,l,_,(List.range l).map R,rfl,hl,hm,⟨by simp,fun hn=>?_⟩,fun z hz=>?_⟩
  ·simp at hn
   obtain ⟨u,hu⟩:∃u,(f (R 0))[0]? =some u:=⟨_,List.getElem?_eq_getElem (by rw [hf];exact hs0)⟩
   have h0:=(hR 0 hn).1 0 u hu
   obtain ⟨b,off,spot⟩:=x
   have hspot:spot=none:=by simpa [Addr.add] using World.cell?_spot h0
   subst hspot
   refine ⟨b,off,rfl,block_lt_of_cell (a:=⟨b,off,none⟩) (by simpa [Addr.add] using h0),fun i z hz' j v hv=>?_⟩
   rw [List.getElem?_map] at hz'
   have hil:i < l:=by
    rcases Nat.lt_or_ge i l with h |h
    ·exact h
    ·rw [List.getElem?_eq_none (by simpa using h)] at hz';cases hz'
   rw [List.getElem?_range hil] at hz'
   cases hz'
   have:=(hR i hil).1 j v hv
   rw [Addr.add_mid] at this
   exact this
  ·obtain ⟨i,hi',rfl⟩:=List.mem_map.1 hz
   exact (hR i (List.mem_range.1 hi')).2
theorem in_enrsS {fuel:Nat} {cs:List Value} {y:DataW H × List MemPlace} (h:DataW.trod enc Tryz.prog W 0 (fun _=>true) true fuel 22 cs=some y) (hw:∀m∈y.1.weights Tryz.prog 22,m≤reachBytes):∃a n c xs,cs=[.slice a n c]∧n≤c∧c≤maxLen∧EnIn W W.heap.size a n xs∧smB xs:=by
 obtain ⟨a,n,c,xs,e,h1,h0,h2,h3⟩:=w_slice (f:=fEn) (s:=6) (Pr:=fun v:EnR=>EnOk W W.heap.size v∧v.bd.n≤reachBytes) Tryz.underlying22 Tryz.cellsEn (by decide) fEn_len (fun _ _ _ h hw=>by obtain ⟨v,rfl,hv⟩:=in_enr h;exact ⟨v,rfl,hv,w_enr h hw⟩) h hw
 have h4:∀x∈xs,EnOk W W.heap.size x∧x.bd.n≤reachBytes:=h3
 have h5:reachBytes≤140737488355328:=of_decide_eq_true (by kernel_rfl)
 have h6:∀x∈xs,x.bd.n≤140737488355328:=fun x hx=>Nat.le_trans (h4 x hx).2 h5
 exact ⟨a,n,c,xs,e,h1,h0,⟨h2,fun x hx=>And.left (h4 x hx)⟩,h6⟩
theorem in_viewS {fuel:Nat} {cs:List Value} {x:DataW H × List MemPlace} (h:DataW.trod enc Tryz.prog W 0 (fun _=>true) true fuel 29 cs=some x) (hw:∀m∈x.1.weights Tryz.prog 29,m≤reachBytes):∃(q:Vw) (es:List EnR) (vs:List VtR) (pubs drs:List ByteArray) (fks:List Int),cs=(cVw q).toList∧VwIn W W.heap.size q es vs pubs drs fks∧smB es:=by
 obtain ⟨ys,n,_,hxd,hcl,hyl,hfld⟩:=DataW.trod_struct Tryz.underlying29 h
 rw [Tryz.cellsVw] at hcl
 obtain ⟨c0,c1,c2,c3,c4,c5,c6,rfl⟩:=clist7 hcl
 obtain ⟨y0,y1,y2,y3,y4,y5,rfl⟩:=clist6 hyl
 have f0:DataW.trod enc Tryz.prog W 0 (fun _=>true) true n 22 (([c0,c1,c2,c3,c4,c5,c6].drop 0).take (Tryz.prog.cellsOf 22))=[y0,y1,y2,y3,y4,y5][0]? :=hfld 0 _ rfl
 rw [Tryz.cellsLe] at f0
 have f1:DataW.trod enc Tryz.prog W 0 (fun _=>true) true n 23 (([c0,c1,c2,c3,c4,c5,c6].drop 1).take (Tryz.prog.cellsOf 23))=[y0,y1,y2,y3,y4,y5][1]? :=hfld 1 _ rfl
 rw [Tryz.cellsLv] at f1
 have f2:DataW.trod enc Tryz.prog W 0 (fun _=>true) true n 24 (([c0,c1,c2,c3,c4,c5,c6].drop 2).take (Tryz.prog.cellsOf 24))=[y0,y1,y2,y3,y4,y5][2]? :=hfld 2 _ rfl
 rw [Tryz.cellsLs] at f2
 have f3:DataW.trod enc Tryz.prog W 0 (fun _=>true) true n 26 (([c0,c1,c2,c3,c4,c5,c6].drop 3).take (Tryz.prog.cellsOf 26))=[y0,y1,y2,y3,y4,y5][3]? :=hfld 3 _ rfl
 rw [Tryz.cellsSch] at f3
 have f4:DataW.trod enc Tryz.prog W 0 (fun _=>true) true n 24 (([c0,c1,c2,c3,c4,c5,c6].drop 5).take (Tryz.prog.cellsOf 24))=[y0,y1,y2,y3,y4,y5][4]? :=hfld 4 _ rfl
 rw [Tryz.cellsLs] at f4
 have f5:DataW.trod enc Tryz.prog W 0 (fun _=>true) true n 27 (([c0,c1,c2,c3,c4,c5,c6].drop 6).take (Tryz.prog.cellsOf 27))=[y0,y1,y2,y3,y4,y5][5]? :=hfld 5 _ rfl
 rw [Tryz.cellsLi] at f5
 obtain ⟨a0,n0,c0,x0,e0,l0,m0,h0,hs0⟩:=in_enrsS f0 (fun m hm=>hw m (by
  subst hxd
  simp only [DataW.weights,Tryz.underlying29]
  exact DataW.weights_mem_each (j:=0) rfl rfl m hm))
 simp at e0
 subst e0
 obtain ⟨a1,n1,c1,x1,e1,l1,h1⟩:=in_vlts f1
 simp at e1
 subst e1
 obtain ⟨a2,n2,c2,x2,e2,l2,h2⟩:=in_strs f2
 simp at e2
 subst e2
 obtain ⟨zb,zh,e3⟩:=in_sch f3
 simp at e3
 obtain ⟨rfl,rfl⟩:=e3
 obtain ⟨a4,n4,c4,x4,e4,l4,h4⟩:=in_strs f4
 simp at e4
 subst e4
 obtain ⟨a5,n5,c5,x5,e5,l5,m5,h5⟩:=in_ilist f5
 simp at e5
 subst e5
 exact ⟨⟨⟨a0,n0,c0⟩,⟨a1,n1,c1⟩,⟨a2,n2,c2⟩,zb,zh,⟨a4,n4,c4⟩,⟨a5,n5,c5⟩⟩,x0,x1,x2,x4,x5,rfl,⟨h0,h1,h2,h4,h5,Nat.le_trans l0 m0,l0,l1,l2,l4,l5⟩,hs0⟩
theorem w_viewS {r:Reach} {b0:Nat} {v:Value} (hv:Value.okWide Tryz.prog W r b0 29 v) (h:DataW.Trod enc Tryz.prog W 0 (fun _=>true) true 29 v d p) (hw:∀m∈d.weights Tryz.prog 29,m≤reachBytes):∃(q:Vw) (es:List EnR) (vs:List VtR) (pubs drs:List ByteArray) (fks:List Int),v= .agg (cVw q)∧VwIn W W.heap.size q es vs pubs drs fks∧smB es:=by
 obtain ⟨cs,rfl,_⟩:=okWide_struct Tryz.underlying29 hv
 obtain ⟨fuel,hf⟩:=h
 obtain ⟨q,es,vs,pubs,drs,fks,e,h1⟩:=in_viewS hf hw
 refine ⟨q,es,vs,pubs,drs,fks,?_,h1⟩
 congr 1
 have e':cs.toList=(cVw q).toList:=e
 have:=congrArg List.toArray e'
 simpa using this
end
instance:Inhabited PcR:=⟨⟨⟨⟨#[]⟩,0,[],[]⟩,⟨none,0,0⟩,⟨none,0,0⟩⟩⟩
section
variable {H:Type} {enc:TypeId × Value→H} {W:World} {d:DataW H} {p:List MemPlace}
theorem w_pieces {r:Reach} {b0:Nat} {v:Value} (hv:Value.okWide Tryz.prog W r b0 83 v) (h:DataW.Trod enc Tryz.prog W 0 (fun _=>true) true 83 v d p):∃A n c prs,v= .slice A n c∧n≤c∧c≤maxLen∧PsIn W W.heap.size A n prs:=by
 obtain ⟨a,len,cap,rfl⟩:=okWide_slice Tryz.underlying83 hv
 obtain ⟨fuel,hf⟩:=h
 obtain ⟨A,n,c,prs,e,h1,h0,h2,h3⟩:=in_slice (f:=fPc) (s:=4) (Pr:=fun p=>PcIn W W.heap.size p.pc p.x.xs p.x.ys∧Byt p.x.xs) Tryz.underlying83 Tryz.cellsPc (by decide) fPc_len (fun _ _ _ h=>by
  obtain ⟨q,xs,ys,e,h1,h2,_⟩:=in_piece h
  exact ⟨⟨⟨q.s,q.ix,xs,ys⟩,q.d,q.q⟩,e,h1,h2⟩) hf
 simp [Value.cells] at e
 obtain ⟨rfl,rfl,rfl⟩:=e
 exact ⟨_,_,_,prs,rfl,h1,h0,h2,h3⟩
end
