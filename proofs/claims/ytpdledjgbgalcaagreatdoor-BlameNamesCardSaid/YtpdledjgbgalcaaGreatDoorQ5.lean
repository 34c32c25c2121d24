import Derived.Test.YtpdledjgbgalcaaGreatDoorPe
namespace Go.Proofs.YtpdledjgbgalcaaGreatDoor
set_option maxRecDepth 100000
set_option maxHeartbeats 8000000
open Go.RowKit Go.Lib Go.Proofs.Tryz
set_option linter.unusedVariables false
set_option linter.unusedSimpArgs false
theorem ybM {P:Program} {L:Func} {a b p d:Tmp} {H:TypeId} (h:L.results=#[.tmp a,.tmp b,.cell p H,.tmp d]) (G:Array Value) (w:World) (g:Nat) (t:TypeId) (cs:Array Value) (fr:Nat × Nat) (J:TypeDesc)
 (hp:G.getD p undef= .pointer (some ⟨g,0,none⟩)) (N:w.heap[g]? =some (.cells cs t fr))
 (M:P.underlying H=some J) (hd:(match J with | .struct _ | .array _ _=>true |_=>false)=true) (hi:(P.info? H).map (·.size)=some cs.size):
 (results L G).run P w= .ok (.tuple #[G.getD a undef,G.getD b undef,.agg cs,G.getD d undef]) w:=by
 have K:G[p]?.getD undef= .pointer (some ⟨g,0,none⟩):=by simpa using hp
 simp [results,h,K,asAddr,run_loadVar_row w g t H cs fr J N M hd hi]
theorem yci (A:Option Addr) (n c:Nat) (bs:List Int) (w:World) (J:Sl fB w w.heap.size A n bs) (hn:n<=1000000):
 Calls prog 81 #[.slice A n c] w fun e L=>∃g A1 c1,e= .returned (.pointer (some ⟨g,0,none⟩))/\Rd L g A1 n c1 0 0 0/\Sl fB L g A1 n bs/\w.heap.size<=g/\Below w.heap.size w L/\n<=c1/\∀a,A1=some a->w.heap.size<=a.block/\a.block < L.heap.size:=by
 obtain ⟨i0,hi,N,O,T⟩:=info_parts Tryz.infoB;have HI:=lh hi;have aj:=lh N;have ak:=lh O;have af:=lh T;clear hi N O T;have Y:Hid (Own fB 5 (w.alloc (.cells #[] 5)) w.heap.size (.slice (some ⟨w.heap.size,0,none⟩) 0 0) []):=World.ownsRow_lit w #[] 0 nl ybd rfl;have H:Hid (Below w.heap.size w (w.alloc (.cells #[] 5))):=bl;have ah:Hid (Sl fB (w.alloc (.cells #[] 5)) (w.alloc (.cells #[] 5)).heap.size A n bs):=J.on H.out;have ai:Hid ((([]:List Int).length+bs.length)*1<=140737488355328):=by show _<=_;rw [J.1];simp;omega
 have aa:Hid (([]:List Int).length+bs.length<=maxLen):=by show _<=_;rw [J.1];unfold maxLen;simp;omega
 have HLN:Hid (bs.length=n):=J.1;clear J;go_enter func81,ntmps81;go_wp2_with (refine ybE (o:=⟨some 5,_,_,_,_,_⟩) rfl (.tmp 3) (.tmp 4) 40 rfl 5 i0 (.int .u8 0) 1 underlying40 HI.out aj.out ak.out af.out rfl (.slice (some ⟨w.heap.size,0,none⟩) 0 0) ([]:List Int) w.heap.size rfl Y.out A n c (w.alloc (.cells #[] 5)).heap.size bs rfl ah.out fB1 ai.out aa.out H.out.size ?_;intro v6 G U ac _;obtain ⟨M,c6,K,z,W,am⟩:=U.out.shape;have Z:Hid (∀a,M=some a->w.heap.size<=a.block/\a.block < G.heap.size):=(fun a ha=>by subst ha;exact ol U.out a.block (by rw [K];rfl));clear am;have ag:Hid (Sl fB G G.heap.size M n bs):=⟨HLN.out,W⟩;have HB6:Hid (Below w.heap.size w G):=Y.out.below H.out nl H.out.size ac.out;rw [List.nil_append,HLN.out] at K;(have ae:Hid (n<=c6):=lT (Nat.le_of_eq HLN.out.symm) z);clear z W;subst K);go_ret;have al:Below w.heap.size w (G.alloc (.cells #[.slice M n c6,.int .i64 0,.int .i64 0,.int .i64 0] 220)):=HB6.out.alloc HB6.out.size _;exact ⟨G.heap.size,M,c6,rfl,heap_alloc_new G _,ag.out.up bl nl,HB6.out.size,al,ae.out,fun a ha=>⟨(Z.out a ha).1,Nat.lt_of_lt_of_le (Z.out a ha).2 sI⟩⟩
theorem RdS.but2 {g:Nat} {A:Option Addr} {n c:Nat} {bs:List Int} {s:RS} {w G:World} {p:Nat->Prop} (h:RdS g A n c bs s w) (J:But p w G) (L:¬p g) (M:∀a,A=some a->¬p a.block):RdS g A n c bs s G:=by
 have hl:=h.lt;obtain ⟨⟨N,h1⟩,h2⟩:=h;refine ⟨⟨N,(J.block g hl L).trans h1⟩,h2.1,fun hn=>?_⟩;obtain ⟨b,H,e,hlt,K⟩:=h2.2 hn;exact ⟨b,H,e,hlt,K.keep (J.block b (Nat.lt_trans hlt hl) (M _ e))⟩
theorem Own.butG {α:Type} {f:α->Value} {w H:World} {base:Nat} {e:TypeId} {v:Value} {xs:List α} {p:Nat->Prop} (h:Own f e w base v xs) (L:But p w H) (K:∀k,v.ownBlock=some k->¬p k):Own f e H base v xs:=by
 rcases h.2 with ⟨rfl,h0⟩ |⟨g,cap,G,rfl,h1,J,h2⟩
 ·exact ⟨h.1,.inl ⟨rfl,h0⟩⟩
 ·exact ⟨h.1,.inr ⟨g,cap,G,rfl,h1,(L.block g (lb J) (K g rfl)).trans J,h2⟩⟩
theorem own_apart {α β:Type} {f:α->Value} {N:β->Value} {w:World} {base base':Nat} {e K:TypeId} {v J:Value} {xs:List α} {ys:List β} (h:Own f e w base v xs) (L:Own N K w base' J ys) (H:e≠K):v.ownBlock=none∨v.ownBlock≠J.ownBlock:=by
 rcases h.2 with ⟨rfl,h0⟩ |⟨g,cap,Y,rfl,h1,U,h2⟩
 ·exact .inl rfl
 ·right
  rcases L.2 with ⟨rfl,h0⟩ |⟨W,O,T,rfl,z,G,Z⟩
  ·intro e;cases e
  ·intro e;have M:g=W:=by injection e
   subst M;rw [U] at G;injection G with G;injection G with _ ht _;exact H ht
theorem ycY (g:Nat) (t:TypeId):∀(vs:List Value) (o:Nat) (w:World) (G:Array Value),w.heap[g]? =some (.cells G t (0,0))->o+vs.length=G.size->
 ∃cs,(w.setCells g o vs).heap[g]? =some (.cells cs t (0,0))/\cs.size=G.size/\(∀j,j < o->cs[j]? =G[j]?)/\(∀j,j < vs.length->cs[o+j]? =vs[j]?)/\But (fun k=>k=g) w (w.setCells g o vs)
 | [],o,w,G,hg,hl=>⟨G,hg,rfl,fun _ _=>rfl,fun j hj=>absurd hj sI,But.refl _ _⟩
 |v::vs,o,w,G,hg,hl=>by
  have h1:=heap_setCell_same w g o _ _ v hg;have J:But (fun k=>k=g) w (w.setCell ⟨g,o,none⟩ v):=But.setCell (p:=fun k=>k=g) (x:=⟨g,o,none⟩) (But.refl _ _) (.inl rfl) _;obtain ⟨cs,L,N,H,M,K⟩:=ycY g t vs (o+1) (w.setCell ⟨g,o,none⟩ v) _ h1 (by simp at hl ⊢;omega);refine ⟨cs,L,by simpa using N,fun j hj=>?_,fun j hj=>?_,J.trans K (fun i hi=> .inl hi)⟩
  ·rw [H j om];simp only [Array.getElem?_setIfInBounds];rw [if_neg om]
  ·rcases j with _ |j
   ·rw [Nat.add_zero,H o om];simp only [List.length_cons] at hl;simp only [Array.getElem?_setIfInBounds,if_true,List.getElem?_cons_zero];rw [if_pos om]
   ·rw [show o+(j+1)=o+1+j by omega,M j (by simpa using hj),List.getElem?_cons_succ]
theorem setCells_row (w:World) (g:Nat) (vs:List Value) (G:Array Value) (t:TypeId) (L:w.heap[g]? =some (.cells G t (0,0))) (hl:vs.length=G.size):(w.setCells g 0 vs).heap[g]? =some (.cells vs.toArray t (0,0))/\But (fun k=>k=g) w (w.setCells g 0 vs):=by
 obtain ⟨cs,J,M,_,K,H⟩:=ycY g t vs 0 w G L om;refine ⟨?_,H⟩;rw [J]
 congr 2
 apply Array.ext_getElem?;intro j
 by_cases hj:j < vs.length
 ·have:=K j hj;rw [Nat.zero_add] at this;rw [this];simp
 ·rw [Array.getElem?_eq_none om,Array.getElem?_eq_none ybh]
theorem yd8 {P:Program} {w:World} {ops:Array Oper} {J:List Oper} {o:Oper} {a:Act} {Q:Exit->Act->World->Prop} (M:o.guard=none) (K:TypeId) (x y:Operand) (W:o.op= .store K x y)
 (b:Nat) (t:TypeId) (Z u1 N O H G:Value) (z:a.eval x= .pointer (some ⟨b,0,none⟩)) (Y:a.eval y= .agg #[H,G]) (L:w.heap[b]? =some (.cells #[Z,u1,N,O] t (0,0))) (hi:(P.info? K).map (·.size)=some 2)
 (h1:(#[H,G]:Array Value).all (·.oneCell')=true)
 (h:∀w',Hid (w'.heap[b]? =some (.cells #[H,G,N,O] t (0,0)))->Hid (But (fun k=>k=b) w w')->wpList P ops Q J (a.put o.dst undef) w'):wpList P ops Q (o::J) a w:=by
 refine wpList_store_mid M K x y W b 0 #[H,G] z Y ?_ hi h1 ?_
 ·intro j hj;have aa:j < 2:=hj;refine ⟨?_,frozen_of_row w b _ _ _ L⟩;rw [Nat.zero_add,cell_of_row w b _ _ _ _ L];rcases (show j=0∨j=1 by omega) with rfl |rfl<;>rfl
 ·have T:=heap_setCell_same w b 0 _ _ H L;have U:=heap_setCell_same _ b 1 _ _ G T;exact h _ U (But.setCell (p:=fun k=>k=b) (x:=⟨b,1,none⟩) (But.setCell (p:=fun k=>k=b) (x:=⟨b,0,none⟩) (But.refl _ _) (.inl rfl) _) (.inl rfl) _)
theorem ybu {P:Program} {w:World} {ops:Array Oper} {o:Oper} {a:Act} {K:Act->World->Prop} {Q:Exit->Act->World->Prop} {E:Prop} (L:o.guard=none) (H:TypeId) (x y:Operand) (N:o.op= .store H x y)
 (g:Nat) (t:TypeId) (G cells:Array Value) (T:a.eval x= .pointer (some ⟨g,0,none⟩)) (O:a.eval y= .agg cells) (J:w.heap[g]? =some (.cells G t (0,0))) (hi:(P.info? H).map (·.size)=some cells.size)
 (hs:G.size=cells.size) (h1:cells.all (·.oneCell')=true)
 (h:∀w',Hid (w'.heap[g]? =some (.cells cells t (0,0)))->Hid (But (fun k=>k=g) w w')->K (a.put o.dst undef) w'):if Region.wanted o (yielded ops a.tmps)=true then Oper.wp P o a w K Q else E:=by
 have M:Region.wanted o (yielded ops a.tmps)=true:=by simp [Region.wanted,L]
 rw [if_pos M];refine wp_store_mid H x y N g 0 cells T O (fun j hj=>⟨?_,frozen_of_row w g _ _ _ J⟩) hi h1 ?_
 ·rw [Nat.zero_add,cell_of_row w g _ _ _ _ J];rw [Array.getElem?_eq_getElem om];rfl
 ·have e:=setCells_row w g cells.toList G t J (by rw [hs];simp);exact h _ (by show _=_;simpa using e.1) e.2
def rSums (bs:List Int):Nat->RS->List ByteArray × RS
 |0,s=>([],s)
 |k+1,s=>((rSums bs k s).1++[(rS bs (rSums bs k s).2).1],(rS bs (rSums bs k s).2).2)
theorem ycl (bs:List Int):∀(k:Nat) (s:RS),(rSums bs k s).1.length=k
 |0,_=>rfl
 |k+1,s=>by rw [rSums,List.length_append,ycl bs k s];rfl
theorem ydG {bs:List Int} {n:Nat} (hl:bs.length=n):∀(k:Nat) {s:RS},s.1<=n->(rSums bs k s).2.1<=n
 |0,_,h=>h
 |k+1,_,h=>rS_le hl (ydG hl k h)
theorem limF_range (m:Nat) (N:Int × Int × Nat) (h:0<=N.1):0<=(limF m N).1/\(limF m N).1<=(m:Int):=by
 unfold limF
 split
 ·split
  ·exact ⟨Int.le_refl _,Int.natCast_nonneg _⟩
  ·next h2=>exact ⟨h,by dsimp only;omega⟩
 ·exact ⟨Int.le_refl _,Int.natCast_nonneg _⟩
theorem ycL {bs:List Int} {m:Nat} {s:RS}:0<=(rC bs m s).1/\(rC bs m s).1<=(m:Int):=by
 have hn:=limF_range m _ (ybY bs 10 0 0 s.1);unfold rC rV
 split
 ·split
  ·exact hn
  ·exact ⟨Int.le_refl _,Int.natCast_nonneg _⟩
 ·exact ⟨Int.le_refl _,Int.natCast_nonneg _⟩
def dA1 (bs:List Int):Int × RS:=rN 0 11 bs (0,0)
def dA2 (bs:List Int):Int × RS:=rN 1 1099511627776 bs (dA1 bs).2
def dA3 (bs:List Int):(ByteArray × Int) × RS:=rId bs (dA2 bs).2
def dA4 (bs:List Int):List Int × RS:=rY bs 65536 (dA3 bs).2
def dA5 (bs:List Int):Int × RS:=rC bs 16 (dA4 bs).2
def dA6 (bs:List Int):List ByteArray × RS:=rSums bs (dA5 bs).1.toNat (dA5 bs).2
def shL (s:ByteArray) (ix:Int) (xs:List Int) (ys:List ByteArray):Bool:=decide ((s.size=32/\0<=ix/\ix<=15)/\(1<=xs.length/\xs.length<=65536)/\(1<=ys.length/\ys.length<=16)/\sumsB ys=true)
theorem shL_eq {w:World} {B:Nat} {p:Pc} {xs:List Int} {ys:List ByteArray} (h:PcIn w B p xs ys):shB p ys=shL p.s p.ix xs ys:=by
 unfold shB shL;rw [h.1.1,h.2.1.1]
def okA (bs:List Int):Bool:=decide ((dA6 bs).2.2=0/\¬(dA6 bs).2.1 < bs.length)&&shL (dA3 bs).1.1 (dA3 bs).1.2 (dA4 bs).1 (dA6 bs).1
abbrev zPc:Array Value:=#[.string ⟨#[]⟩,.int .i64 0,.slice none 0 0,.slice none 0 0]
def DAPost (bs:List Int) (w:World) (e:Ending) (w':World):Prop:=
 (okA bs=true/\∃p:Pc,p.s=(dA3 bs).1.1/\p.ix=(dA3 bs).1.2/\e= .returned (.tuple #[.int .i64 (dA1 bs).1,.int .i64 (dA2 bs).1,.agg (cPc p),.int .i64 0])/\PcIn w' w'.heap.size p (dA4 bs).1 (dA6 bs).1/\Below w.heap.size w w'/\(∀t,p.d.a=some t->w.heap.size<=t.block)/\∀t,p.q.a=some t->w.heap.size<=t.block)
 ∨(okA bs=false/\e= .returned (.tuple #[.int .i64 0,.int .i64 0,.agg zPc,.int .i64 3])/\Below w.heap.size w w')
theorem yek (p:Pc):(prog.info? 42).map (·.size)=some (cPc p).size:=Tryz.sizePiece
theorem pc4_one (p:Pc):(cPc p).all (·.oneCell')=true:=by
 rw [Array.all_eq_true'];intro x hx;simp at hx;rcases hx with rfl |rfl |rfl |rfl<;>rfl
theorem yb7:(prog.info? 42).map (·.size)=some zPc.size:=Tryz.sizePiece
theorem dacq_no (dv sq k dy:Int) (pr:ByteArray) (A:Option Addr) (n c:Nat) (w:World) (J:k≠7):
 Calls prog 103 #[.agg #[.int .i64 dv,.int .i64 sq,.int .i64 k,.int .i64 dy,.slice A n c,.string pr]] w fun e K=>e= .returned (.tuple #[.int .i64 0,.int .i64 0,.agg zPc,.int .i64 1])/\Below w.heap.size w K:=by
 have L:(k != 7)=true:=by simp [J]
 obtain ⟨H,G⟩:∃H:World,H=(w.alloc (.cells #[.int .i64 dv,.int .i64 sq,.int .i64 k,.int .i64 dy,.slice A n c,.string pr] 55)).alloc (.cells zPc 42):=⟨_,rfl⟩
 have HB1:Hid (Below w.heap.size w H):=by show Below _ _ _;rw [G];exact bl.alloc sI _
 have HG3:Hid (H.heap[w.heap.size+1]? =some (.cells zPc 42 (0,0))):=by
  show _=_;rw [G];have:=zy (w.alloc (.cells #[.int .i64 dv,.int .i64 sq,.int .i64 k,.int .i64 dy,.slice A n c,.string pr] 55)) (.cells zPc 42);simpa using this
 have HWE:=lh G;clear G;go_enter func103,ntmps103;go_wp2_with ((with_reducible refine ybk (o:=⟨none,_,_,_,_,_⟩) rfl 42 (.tmp 4) (.tmp 12) rfl (w.heap.size+1) 42 _ _ rfl rfl ya7 (pc_size _ _ _ _ _ _ _) (pc_sz _ _ _ _ _ _ _) (pc_one _ _ _ _ _ _ _) ?_);intro M HG7 HB7);rw [<-HWE.out] at HB7;refine bodyPost_ret (ybM rfl _ _ _ _ _ _ _ rfl HG7.out underlying42 rfl yb7) rfl ⟨rfl,HB1.out.trans (HB7.out.below HB1.out.size (fun i hi=>by subst hi;omega))⟩
structure DS (V0 V:World) (g:Nat) (A1:Option Addr) (n c1:Nat) (bs:List Int) (s:RS) (b:Nat) (cs:Array Value):Prop where
 rd:RdS g A1 n c1 bs s V
 pc:V.heap[b]? =some (.cells cs 42 (0,0))
 but:But (fun k=>k=g∨k=b) V0 V
 gb:b≠g
 ab:∀a,A1=some a->b < a.block
theorem DS.read {K V H:World} {g:Nat} {G:Option Addr} {n c1:Nat} {bs:List Int} {s J:RS} {b:Nat} {cs:Array Value} (h:DS K V g G n c1 bs s b cs) (hr:RdS g G n c1 bs J H) (L:But (fun k=>k=g) V H):DS K H g G n c1 bs J b cs:=
 ⟨hr,(L.block _ (lb h.pc) h.gb).trans h.pc,h.but.trans L (fun i hi=> .inl (.inl hi)),h.gb,h.ab⟩
theorem DS.set {K V H:World} {g:Nat} {J:Option Addr} {n c1:Nat} {bs:List Int} {s:RS} {b:Nat} {cs G:Array Value} (h:DS K V g J n c1 bs s b cs) (hp:H.heap[b]? =some (.cells G 42 (0,0))) (L:But (fun k=>k=b) V H):DS K H g J n c1 bs s b G:=
 ⟨h.rd.but2 L (fun e=>h.gb e.symm) (fun a ha e=>by have:=h.ab a ha;omega),hp,h.but.trans L (fun i hi=> .inl (.inr hi)),h.gb,h.ab⟩
theorem DS.grow {G V L:World} {g:Nat} {K:Option Addr} {n c1:Nat} {bs:List Int} {s:RS} {b:Nat} {cs:Array Value} (h:DS G V g K n c1 bs s b cs) {B:Nat} (H:Below B V L) (O:G.heap.size<=B) (T:g < G.heap.size) (hl:b < G.heap.size) (M:∀a,K=some a->a.block < G.heap.size):DS G L g K n c1 bs s b cs:=by
 have J:But (fun k=>B<=k) V L:=⟨H.os,H.tape,H.output,H.size,fun k N hn=>H.block k om⟩;exact ⟨h.rd.but2 J om (fun a ha=>by have:=M a ha;omega),(H.block _ om).trans h.pc,h.but.trans J (fun i hi=> .inr om),h.gb,h.ab⟩
theorem dacq_any (dv sq dy:Int) (pr:ByteArray) (A:Option Addr) (n c B:Nat) (bs:List Int) (w:World) (hx:Sl fB w B A n bs) (hB:B<=w.heap.size) (hn:n<=1000000) (aj:∀b∈bs,0<=b/\b < 256):
 Calls prog 103 #[.agg #[.int .i64 dv,.int .i64 sq,.int .i64 7,.int .i64 dy,.slice A n c,.string pr]] w (DAPost bs w):=by
 obtain ⟨i0,hi,am,bL,bB⟩:=info_parts Tryz.infoS;have HI:=lh hi;have aQ:=lh am;have aR:=lh bL;have aL:=lh bB;have hl:bs.length=n:=hx.1;have bh:(0,(0:Int)).1<=n:=Nat.zero_le _;have be:(dA1 bs).2.1<=n:=rN_le hl bh;have a9:(dA2 bs).2.1<=n:=rN_le hl be;have aY:(dA3 bs).2.1<=n:=rId_le hl a9;have a1:(dA4 bs).2.1<=n:=rY_le hl aY;have bJ:(dA5 bs).2.1<=n:=rC_le hl a1
 obtain ⟨k5,ay,b3⟩:∃k:Nat,(dA5 bs).1=k/\k<=16:=by
  have h:=ycL (bs:=bs) (m:=16) (s:=(dA4 bs).2);exact ⟨(dA5 bs).1.toNat,(Int.toNat_of_nonneg h.1).symm,by have h2:(dA5 bs).1<=16:=h.2;omega⟩
 have a4:Hid (∀k,(rSums bs k (dA5 bs).2).2.1<=n):=fun k=>ydG hl k bJ;obtain ⟨W1,au⟩:∃W1:World,W1=(w.alloc (.cells #[.int .i64 dv,.int .i64 sq,.int .i64 7,.int .i64 dy,.slice A n c,.string pr] 55)).alloc (.cells zPc 42):=⟨_,rfl⟩
 have aT:Below w.heap.size w W1:=by rw [au];exact bl.alloc sI _
 have bC:W1.heap.size=w.heap.size+1+1:=by rw [au];simp
 have br:W1.heap[w.heap.size+1]? =some (.cells zPc 42 (0,0)):=by
  rw [au];have:=zy (w.alloc (.cells #[.int .i64 dv,.int .i64 sq,.int .i64 7,.int .i64 dy,.slice A n c,.string pr] 55)) (.cells zPc 42);simpa using this
 have bb:=lh (yci A n c bs W1 ((hx.up aT hB).more' (lT hB aT.size)) hn);have HB1:=lh aT;have HS1:=lh bC;have HG3:=lh br;have HWE:=lh au;have b4:=lh aj;have HL:=lh hl;rw [au] at bb;have H1:Hid (∀g H c1 V,n<=c1->RdS g H n c1 bs (0,0) V->Calls prog 169 #[.pointer (some ⟨g,0,none⟩),.int .i64 0,.int .i64 11] V (RPost g H n c1 bs (.int .i64 (dA1 bs).1) (dA1 bs).2 V)):=fun g H c1 V hc h=>rn_any 0 11 de de g H n c1 bs (0,0) V h ⟨aj,hn,hc⟩ bh;have H2:Hid (∀g H c1 V,n<=c1->RdS g H n c1 bs (dA1 bs).2 V->Calls prog 169 #[.pointer (some ⟨g,0,none⟩),.int .i64 1,.int .i64 1099511627776] V (RPost g H n c1 bs (.int .i64 (dA2 bs).1) (dA2 bs).2 V)):=fun g H c1 V hc h=>rn_any 1 1099511627776 de de g H n c1 bs _ V h ⟨aj,hn,hc⟩ be;have H3:Hid (∀g H c1 V,n<=c1->RdS g H n c1 bs (dA2 bs).2 V->Calls prog 170 #[.pointer (some ⟨g,0,none⟩)] V (RPost g H n c1 bs (.agg #[.string (dA3 bs).1.1,.int .i64 (dA3 bs).1.2]) (dA3 bs).2 V)):=fun g H c1 V hc h=>rid_any g H n c1 bs _ V h ⟨aj,hn,hc⟩ a9;have H4:Hid (∀g H c1 V,n<=c1->RdS g H n c1 bs (dA3 bs).2 V->Calls prog 171 #[.pointer (some ⟨g,0,none⟩),.int .i64 65536] V (RYPost g H n c1 bs (dA4 bs).1 (dA4 bs).2 V)):=fun g H c1 V hc h=>ry_any g H n c1 bs _ 65536 de V h ⟨aj,hn,hc⟩ aY;have H5:Hid (∀g H c1 V,n<=c1->RdS g H n c1 bs (dA4 bs).2 V->Calls prog 141 #[.pointer (some ⟨g,0,none⟩),.int .i64 16] V (RPost g H n c1 bs (.int .i64 (dA5 bs).1) (dA5 bs).2 V)):=fun g H c1 V hc h=>rc_any g H n c1 bs _ 16 de V h ⟨aj,hn,hc⟩ a1;have H6:Hid (∀k g H c1 V,n<=c1->RdS g H n c1 bs (rSums bs k (dA5 bs).2).2 V->Calls prog 172 #[.pointer (some ⟨g,0,none⟩)] V (RPost g H n c1 bs (.string (rS bs (rSums bs k (dA5 bs).2).2).1) (rS bs (rSums bs k (dA5 bs).2).2).2 V)):=fun k g H c1 V hc h=>rs_any g H n c1 bs _ V h ⟨aj,hn,hc⟩ (a4.out k);have a2:Hid (dA6 bs=rSums bs (dA5 bs).1.toNat (dA5 bs).2):=rfl;have Z:Hid (okA bs=(decide ((dA6 bs).2.2=0/\¬(dA6 bs).2.1 < n)&&shL (dA3 bs).1.1 (dA3 bs).1.2 (dA4 bs).1 (dA6 bs).1)):=by show okA bs=_;unfold okA;rw [hl]
 unfold DAPost;rw [ay] at H5;rw [a2.out,ay,Int.toNat_natCast] at Z;have a5:Hid (dA6 bs=rSums bs k5 (dA5 bs).2):=by show _=_;rw [a2.out,ay,Int.toNat_natCast]
 rw [a5.out];clear a2 a5 ay;generalize dA1 bs=R1 at*;generalize dA2 bs=R2 at*;generalize dA3 bs=R3 at*;generalize dA4 bs=R4 at*;generalize dA5 bs=R5 at*;obtain ⟨d1,s1⟩:=R1;obtain ⟨q1,s2⟩:=R2;obtain ⟨⟨st,ix⟩,s3⟩:=R3;obtain ⟨xs,s4⟩:=R4;obtain ⟨z5,M⟩:=R5;dsimp only at H1 H2 H3 H4 H5 H6 Z a4 ⊢;clear hi am bL bB hx hB aj hl bh be a9 aY a1 bJ aT bC br au;go_enter func103,ntmps103
 go_wp2_with (first
  |(go_at_call 81;(with_reducible refine bb.out.mono ?_);rintro e W ⟨g,H,c1,rfl,r0,x0,a3,aN,bz,aM⟩
    rw [<-HWE.out] at a3 aN aM;have D0:Hid (DS W W g H n c1 bs (0,0) (w.heap.size+1) zPc):=⟨⟨⟨_,r0⟩,x0⟩,(aN.block _ (lb HG3.out)).trans HG3.out,But.refl _ _,by have:=HS1.out;omega,fun a ha=>by have:=(aM a ha).1;have:=HS1.out;omega⟩;have aZ:Hid (∀a,H=some a->a.block < W.heap.size):=fun a ha=>(aM a ha).2;have ao:=lh bz;have bG:=lh a3;have a6:=lh aN;have HGL:Hid (g < W.heap.size):=lb r0
    clear r0 x0 a3 aN bz aM)
  |(go_at_call 169;(with_reducible refine (H1.out g H c1 _ ao.out D0.out.rd).mono ?_);rintro e V1 ⟨rfl,r,b⟩
    have D1:=lh (D0.out.read r b)
    clear r b)
  |(go_at_call 169;(with_reducible refine (H2.out g H c1 _ ao.out D1.out.rd).mono ?_);rintro e V2 ⟨rfl,r,b⟩
    have D2:=lh (D1.out.read r b)
    clear r b)
  |(go_at_call 170;(with_reducible refine (H3.out g H c1 _ ao.out D2.out.rd).mono ?_);rintro e V3 ⟨rfl,r,b⟩
    have D3:=lh (D2.out.read r b)
    clear r b)
  |((with_reducible refine yd8 (o:=⟨none,_,_,_,_,_⟩) rfl 31 (.tmp 22) (.tmp 21) rfl (w.heap.size+1) 42 _ _ _ _ _ _ rfl rfl D3.out.pc Tryz.sizePid (pid_one _ _) ?_);intro V4 bw bF
    have D4:=lh (D3.out.set bw.out bF.out)
    clear bw bF)
  |(go_at_call 171;(with_reducible refine (H4.out g H c1 _ ao.out D4.out.rd).mono ?_);rintro e V5 ⟨O,T,U,rfl,ho,r,b⟩
    have D5:=D4.out.read r b;have bE:Hid (W.heap.size<=V4.heap.size):=D4.out.but.size;have bx:=zz V5 (w.heap.size+1) 2 _ _ _ D5.pc;have bZ:=frozen_of_row V5 (w.heap.size+1) 2 _ _ D5.pc;simp at bx;have D6:Hid (DS W (V5.setCell ⟨w.heap.size+1,2,none⟩ (.slice O T U)) g H n c1 bs s4 (w.heap.size+1) #[.string st,.int .i64 ix,.slice O T U,.slice none 0 0]):=D5.set (heap_setCell_same V5 _ 2 _ _ (.slice O T U) D5.pc) (But.setCell (p:=fun k=>k=w.heap.size+1) (x:=⟨w.heap.size+1,2,none⟩) (But.refl _ _) (.inl rfl) _);have ac:Hid (Own fB 5 (V5.setCell ⟨w.heap.size+1,2,none⟩ (.slice O T U)) W.heap.size (.slice O T U) xs):=(ho.low bE.out).but (But.setCell (p:=fun k=>k=w.heap.size+1) (x:=⟨w.heap.size+1,2,none⟩) (But.refl _ _) (.inl rfl) _) (fun k J e=>by have h1:=(ol ho k J).1;have h2:=bE.out;have h3:=HGL.out;have h4:=bG.out;have h5:=HS1.out;omega)
    clear ho r b D5)
  |(go_at_call 141;(with_reducible refine (H5.out g H c1 _ ao.out D6.out.rd).mono ?_);rintro e V7 ⟨rfl,r,b⟩
    clear bx bZ;have D7:=lh (D6.out.read r b);have aa:Hid (Own fB 5 V7 W.heap.size (.slice O T U) xs):=ac.out.but b (fun k J e=>by have h1:=(ol ac.out k J).1;have h3:=HGL.out;omega)
    clear r b))
 clear D1 D2 D3 D4 D6 ac H1 H2 H3 H4 H5 bb
 go_loopw [28] (fun i wr=>∃(j:Nat) (L:Option Addr) (l' N:Nat),j<=k5/\i= .int .i64 j/\Hid (DS W wr g H n c1 bs (rSums bs j M).2 (w.heap.size+1) #[.string st,.int .i64 ix,.slice O T U,.slice L l' N])/\Hid (Own fB 5 wr W.heap.size (.slice O T U) xs)/\Hid (Own fT 9 wr W.heap.size (.slice L l' N) (rSums bs j M).1)) (fun i _=>k5 - (intOf i).toNat)
 case atStart=>exact ⟨0,none,0,0,by omega,rfl,D7,aa,Own.nil⟩
 case round=>
  obtain ⟨j,L,l',N,hj,rfl,D,HO,HT⟩:=hrel
  by_cases hlt:j < k5
  ·
   have b1:(j:Int) < (k5:Int):=by omega
   have c3:=zz wr (w.heap.size+1) 3 _ _ _ D.out.pc;simp at c3;go_wp2_with fail;have bm:Hid ((rSums bs j M).1.length=j):=ycl bs j M;have aJ:Hid (((rSums bs j M).1.length+[(rS bs (rSums bs j M).2).1].length)*16<=140737488355328):=by show _<=_;rw [bm.out];simp only [List.length_cons,List.length_nil];omega
   have aP:Hid ((rSums bs j M).1.length+[(rS bs (rSums bs j M).2).1].length<=maxLen):=by show _<=_;rw [bm.out];simp only [List.length_cons,List.length_nil];unfold maxLen;omega
   obtain ⟨x,hx⟩:∃x,x=(rS bs (rSums bs j M).2).1:=⟨_,rfl⟩
   have a0:=lh (H6.out j);rw [<-hx] at a0 aJ aP;have HX:=lh hx;have ax:Hid (rSums bs (j+1) M=((rSums bs j M).1++[x],(rS bs (rSums bs j M).2).2)):=by show _=_;rw [hx];rfl
   have ah:Hid (w.heap.size+1 < W.heap.size):=lb D0.out.pc;clear hx;refine rH (S:=(fun _=>True)) ybi ybj (fun al=>?_);refine tkY 0 ?_;refine tkY 2 ?_;refine rd2 1 3 (fun K G=>?_) (fun K G=>?_)
   ·go_simp;refine G.out _ _ ybj (fun aV=>?_);clear G K al
    try simp only [pt]
    refine rd1 3 (fun K G=>?_)
    (go_simp;go_at_call 172;(refine (a0.out g H c1 _ ao.out ?_).mono ?_);(exact D.out.rd);(rintro e w6 ⟨rfl,r6,b6⟩);(have ag:But (fun k=>k=g) wr w6:=⟨b6.os,b6.tape,b6.output,b6.size,b6.block⟩);(have D6:=lh (D.out.read r6 ag));(have bV:w6.cell? ⟨w.heap.size+1,3,none⟩=some (.slice L l' N):=by (rw [cell_of_row w6 _ 3 _ _ _ D6.out.pc];rfl));(have bQ:(w6.alloc (.cells #[.string x] 9)).cell? ⟨w.heap.size+1,3,none⟩=some (.slice L l' N):=by (rw [cell_of_row _ _ 3 _ _ _ ((zx _ _ _ (lb D6.out.pc)).trans D6.out.pc)];rfl));(have ac:=lh (HO.out.but ag (fun k J e=>by have h1:=(ol HO.out k J).1;have h3:=HGL.out;omega)));(have aq:=lh (HT.out.butG ag (fun k J e=>by have h1:=(ol HT.out k J).1;have h3:=HGL.out;omega)));(have ap:Hid (W.heap.size<=w6.heap.size):=D6.out.but.size);(clear r6 b6 ag);(try go_simp))
    refine G.out _ _ ybj (fun aX=>?_);clear G K aV
    try simp only [pt]
    refine rd1 4 (fun K G=>?_);go_simp;refine G.out _ _ ybj (fun aU=>?_);clear G K aX
    try simp only [pt]
    refine rd1 5 (fun K G=>?_)
    ((refine ycC (f:=fT) (.tmp 31) (.tmp 34) 24 rfl rfl 9 i0 (.string ⟨#[]⟩) 16 underlying24 HI.out aQ.out aR.out aL.out rfl (rSums bs j M).1 W.heap.size ?hown [x] ?hrow fT1 aJ.out aP.out ?hbase ?_);(case hown=>exact aq.out.alloc _);(case hrow=>exact ⟨_,_,1,1,rfl,rfl,SL.of_block (t:=9) (fr:=(0,0)) (zy _ _) (Nat.lt_succ_self _)⟩);(case hbase=>have:=ap.out;simp;omega);(intro v7 Y ae HG7 bp HB7);(have D7:=lh (D6.out.grow (HB7.out W.heap.size w6 (bR.alloc ap.out _) nl) nl HGL.out ah.out aZ.out));(have aa:=lh ((ac.out.alloc (.cells #[.string x] 9)).kept HG7.out (own_apart (ac.out.alloc (.cells #[.string x] 9)) (aq.out.alloc (.cells #[.string x] 9)) de)));(obtain ⟨A8,c8,ak,_,_,_⟩:=ae.out.shape);(obtain ⟨l8,ai⟩:=gX (((rSums bs j M).1++[x]).length));(rw [ai] at ak);(subst ak);(have bu:Y.cell? ⟨w.heap.size+1,3,none⟩=some (.slice L l' N):=by (rw [cell_of_row Y _ 3 _ _ _ D7.out.pc];rfl));(have bj:=frozen_of_row Y (w.heap.size+1) 3 _ _ D7.out.pc);(try clear ai);(try go_simp))
    refine G.out _ _ ybj (fun aW=>?_);clear G K aU
    try simp only [pt]
    refine tkY 6 ?_;refine rd1 7 (fun K G=>?_);go_simp;refine G.out _ _ ybj (fun bS=>?_);clear G K aW
    try simp only [pt]
    refine wpAnyH_done ybi ?_ _;go_wp2_with fail;go_roundw
    case rel=>
     have af:But (fun k=>k=w.heap.size+1) Y (Y.setCell ⟨w.heap.size+1,3,none⟩ (.slice A8 l8 c8)):=But.setCell (p:=fun k=>k=w.heap.size+1) (x:=⟨w.heap.size+1,3,none⟩) (But.refl _ _) (.inl rfl) _;have D8:=D7.out.set (heap_setCell_same Y _ 3 _ _ (.slice A8 l8 c8) D7.out.pc) af;refine ⟨j+1,A8,l8,c8,by omega,by go_num,?_,aa.out.but af (fun k J e=>by have h1:=(ol aa.out k J).1;have h3:=ah.out;omega),?_⟩
     ·rw [ax.out];exact ⟨D8.rd,D8.pc,D8.but,D8.gb,D8.ab⟩
     ·rw [ax.out];exact ae.out.butG af (fun k J e=>by have h1:=(ol ae.out k J).1;have h3:=ah.out;omega)
    case measure=>simp [intOf];omega
   ·(go_simp;go_at_call 172;(refine (a0.out g H c1 _ ao.out ?_).mono ?_);(exact D.out.rd);(rintro e w6 ⟨rfl,r6,b6⟩);(have ag:But (fun k=>k=g) wr w6:=⟨b6.os,b6.tape,b6.output,b6.size,b6.block⟩);(have D6:=lh (D.out.read r6 ag));(have bV:w6.cell? ⟨w.heap.size+1,3,none⟩=some (.slice L l' N):=by (rw [cell_of_row w6 _ 3 _ _ _ D6.out.pc];rfl));(have bQ:(w6.alloc (.cells #[.string x] 9)).cell? ⟨w.heap.size+1,3,none⟩=some (.slice L l' N):=by (rw [cell_of_row _ _ 3 _ _ _ ((zx _ _ _ (lb D6.out.pc)).trans D6.out.pc)];rfl));(have ac:=lh (HO.out.but ag (fun k J e=>by have h1:=(ol HO.out k J).1;have h3:=HGL.out;omega)));(have aq:=lh (HT.out.butG ag (fun k J e=>by have h1:=(ol HT.out k J).1;have h3:=HGL.out;omega)));(have ap:Hid (W.heap.size<=w6.heap.size):=D6.out.but.size);(clear r6 b6 ag);(try go_simp))
    refine G.out _ _ ybj (fun aw=>?_);clear G K al
    try simp only [pt]
    refine rd2 1 4 (fun K G=>?_) (fun K G=>?_)
    ·go_simp;refine G.out _ _ ybj (fun aH=>?_);clear G K aw
     try simp only [pt]
     refine rd1 4 (fun K G=>?_);go_simp;refine G.out _ _ ybj (fun aC=>?_);clear G K aH
     try simp only [pt]
     refine rd1 5 (fun K G=>?_)
     ((refine ycC (f:=fT) (.tmp 31) (.tmp 34) 24 rfl rfl 9 i0 (.string ⟨#[]⟩) 16 underlying24 HI.out aQ.out aR.out aL.out rfl (rSums bs j M).1 W.heap.size ?hown [x] ?hrow fT1 aJ.out aP.out ?hbase ?_);(case hown=>exact aq.out.alloc _);(case hrow=>exact ⟨_,_,1,1,rfl,rfl,SL.of_block (t:=9) (fr:=(0,0)) (zy _ _) (Nat.lt_succ_self _)⟩);(case hbase=>have:=ap.out;simp;omega);(intro v7 Y ae HG7 bp HB7);(have D7:=lh (D6.out.grow (HB7.out W.heap.size w6 (bR.alloc ap.out _) nl) nl HGL.out ah.out aZ.out));(have aa:=lh ((ac.out.alloc (.cells #[.string x] 9)).kept HG7.out (own_apart (ac.out.alloc (.cells #[.string x] 9)) (aq.out.alloc (.cells #[.string x] 9)) de)));(obtain ⟨A8,c8,ak,_,_,_⟩:=ae.out.shape);(obtain ⟨l8,ai⟩:=gX (((rSums bs j M).1++[x]).length));(rw [ai] at ak);(subst ak);(have bu:Y.cell? ⟨w.heap.size+1,3,none⟩=some (.slice L l' N):=by (rw [cell_of_row Y _ 3 _ _ _ D7.out.pc];rfl));(have bj:=frozen_of_row Y (w.heap.size+1) 3 _ _ D7.out.pc);(try clear ai);(try go_simp))
     refine G.out _ _ ybj (fun aF=>?_);clear G K aC
     try simp only [pt]
     refine tkY 6 ?_;refine rd1 7 (fun K G=>?_);go_simp;refine G.out _ _ ybj (fun bO=>?_);clear G K aF
     try simp only [pt]
     refine wpAnyH_done ybi ?_ _;go_wp2_with fail;go_roundw
     case rel=>
      have af:But (fun k=>k=w.heap.size+1) Y (Y.setCell ⟨w.heap.size+1,3,none⟩ (.slice A8 l8 c8)):=But.setCell (p:=fun k=>k=w.heap.size+1) (x:=⟨w.heap.size+1,3,none⟩) (But.refl _ _) (.inl rfl) _;have D8:=D7.out.set (heap_setCell_same Y _ 3 _ _ (.slice A8 l8 c8) D7.out.pc) af;refine ⟨j+1,A8,l8,c8,by omega,by go_num,?_,aa.out.but af (fun k J e=>by have h1:=(ol aa.out k J).1;have h3:=ah.out;omega),?_⟩
      ·rw [ax.out];exact ⟨D8.rd,D8.pc,D8.but,D8.gb,D8.ab⟩
      ·rw [ax.out];exact ae.out.butG af (fun k J e=>by have h1:=(ol ae.out k J).1;have h3:=ah.out;omega)
     case measure=>simp [intOf];omega
    ·go_simp;refine G.out _ _ ybj (fun aD=>?_);clear G K aw
     try simp only [pt]
     refine rd1 1 (fun K G=>?_);go_simp;refine G.out _ _ ybj (fun aG=>?_);clear G K aD
     try simp only [pt]
     refine rd1 5 (fun K G=>?_)
     ((refine ycC (f:=fT) (.tmp 31) (.tmp 34) 24 rfl rfl 9 i0 (.string ⟨#[]⟩) 16 underlying24 HI.out aQ.out aR.out aL.out rfl (rSums bs j M).1 W.heap.size ?hown [x] ?hrow fT1 aJ.out aP.out ?hbase ?_);(case hown=>exact aq.out.alloc _);(case hrow=>exact ⟨_,_,1,1,rfl,rfl,SL.of_block (t:=9) (fr:=(0,0)) (zy _ _) (Nat.lt_succ_self _)⟩);(case hbase=>have:=ap.out;simp;omega);(intro v7 Y ae HG7 bp HB7);(have D7:=lh (D6.out.grow (HB7.out W.heap.size w6 (bR.alloc ap.out _) nl) nl HGL.out ah.out aZ.out));(have aa:=lh ((ac.out.alloc (.cells #[.string x] 9)).kept HG7.out (own_apart (ac.out.alloc (.cells #[.string x] 9)) (aq.out.alloc (.cells #[.string x] 9)) de)));(obtain ⟨A8,c8,ak,_,_,_⟩:=ae.out.shape);(obtain ⟨l8,ai⟩:=gX (((rSums bs j M).1++[x]).length));(rw [ai] at ak);(subst ak);(have bu:Y.cell? ⟨w.heap.size+1,3,none⟩=some (.slice L l' N):=by (rw [cell_of_row Y _ 3 _ _ _ D7.out.pc];rfl));(have bj:=frozen_of_row Y (w.heap.size+1) 3 _ _ D7.out.pc);(try clear ai);(try go_simp))
     refine G.out _ _ ybj (fun aE=>?_);clear G K aG
     try simp only [pt]
     refine tkY 6 ?_;refine rd1 7 (fun K G=>?_);go_simp;refine G.out _ _ ybj (fun bP=>?_);clear G K aE
     try simp only [pt]
     refine wpAnyH_done ybi ?_ _;go_wp2_with fail;go_roundw
     case rel=>
      have af:But (fun k=>k=w.heap.size+1) Y (Y.setCell ⟨w.heap.size+1,3,none⟩ (.slice A8 l8 c8)):=But.setCell (p:=fun k=>k=w.heap.size+1) (x:=⟨w.heap.size+1,3,none⟩) (But.refl _ _) (.inl rfl) _;have D8:=D7.out.set (heap_setCell_same Y _ 3 _ _ (.slice A8 l8 c8) D7.out.pc) af;refine ⟨j+1,A8,l8,c8,by omega,by go_num,?_,aa.out.but af (fun k J e=>by have h1:=(ol aa.out k J).1;have h3:=ah.out;omega),?_⟩
      ·rw [ax.out];exact ⟨D8.rd,D8.pc,D8.but,D8.gb,D8.ab⟩
      ·rw [ax.out];exact ae.out.butG af (fun k J e=>by have h1:=(ol ae.out k J).1;have h3:=ah.out;omega)
     case measure=>simp [intOf];omega
  ·obtain rfl:j=k5:=by omega
   obtain ⟨⟨pv,bI⟩,bX⟩:=D.out.rd;have ar:=lh (yec g H n c1 _ pv _ wr bI);obtain ⟨As,bU,aK,bv,bq,_⟩:=HT.out.shape;obtain ⟨Ax,b0,aI,bi,bM,_⟩:=HO.out.shape;have a7:T=xs.length:=by injection aI
   have bH:U=b0:=by injection aI
   have bo:O=Ax:=by injection aI
   have bf:l'=(rSums bs j M).1.length:=by injection aK
   have bK:N=bU:=by injection aK
   have bN:L=As:=by injection aK
   have aA:Hid (PcIn wr wr.heap.size ⟨st,ix,⟨O,T,U⟩,⟨L,l',N⟩⟩ xs (rSums bs j M).1):=⟨⟨a7.symm,by rw [bo];exact bM⟩,⟨bf.symm,by rw [bN];exact bq⟩,by rw [a7,bH];exact bi,by rw [bf,bK];exact bv⟩;have aB:Hid (shB ⟨st,ix,⟨O,T,U⟩,⟨L,l',N⟩⟩ (rSums bs j M).1=shL st ix xs (rSums bs j M).1):=shL_eq aA.out
   have bg:Hid (Below w.heap.size w wr):=by
    have h1:Below w.heap.size w W:=bt HB1.out a6.out;exact h1.trans (D.out.but.below h1.size (fun i hi=>by have h2:=bG.out;have h3:=HS1.out;rcases hi with rfl |rfl<;>omega))
   obtain ⟨ys,a8⟩:∃ys,ys=(rSums bs j M).1:=⟨_,rfl⟩
   rw [<-a8] at aA aB Z;have bY:=lh a8;obtain ⟨⟨p6,e6⟩,bA⟩:=gX ((rSums bs j M).2);rw [bA] at ar Z;dsimp only at ar Z;obtain ⟨z,hz⟩:∃z:Int,(if e6=0 then (if p6 < n then 3 else 0) else e6)=z:=⟨_,rfl⟩
   rw [hz] at ar;have HPC:=lh D.out.pc;have bW:Hid ((∀t,O=some t->w.heap.size<=t.block)/\∀t,L=some t->w.heap.size<=t.block):=⟨fun t ht=>by have h1:=(ol HO.out t.block (by rw [ht];rfl)).1;have h2:=a6.out.size;have h3:=HB1.out.size;omega,fun t ht=>by have h1:=(ol HT.out t.block (by rw [ht];rfl)).1;have h2:=a6.out.size;have h3:=HB1.out.size;omega⟩;clear D0 D7 D HO HT aa bI bX aK bv bq aI bi bM a7 bH bo bf bK bN a8 bA H6 a4 HI aQ aR aL
   by_cases am:z=0
   ·subst am
    have az:decide (e6=0/\¬p6 < n)=true:=by
     by_cases h1:e6=0
     ·rw [if_pos h1] at hz
      by_cases h2:p6 < n
      ·rw [if_pos h2] at hz;cases hz
      ·exact decide_eq_true ⟨h1,h2⟩
     ·rw [if_neg h1] at hz;exact absurd hz h1
    rw [az,Bool.true_and,<-aB.out] at Z;clear hz az;have aO:Hid (∀V,Below wr.heap.size wr V->Calls prog 71 #[.agg #[.string st,.int .i64 ix,.slice O T U,.slice L l' N]] V fun e w'=>e= .returned (.bool (shB ⟨st,ix,⟨O,T,U⟩,⟨L,l',N⟩⟩ ys))/\Below V.heap.size V w'):=fun V hb=>isShown_any ⟨st,ix,⟨O,T,U⟩,⟨L,l',N⟩⟩ xs ys wr.heap.size V (aA.out.up hb nl) hb.size
    cases aS:shB ⟨st,ix,⟨O,T,U⟩,⟨L,l',N⟩⟩ ys
    ·rw [aS] at Z aO;clear aS aB
     go_wp2_with (first
      |(go_at_call 142;(with_reducible refine ar.out.mono ?_);rintro e w8 ⟨rfl,b8⟩
        have B8:=lh b8;have p8:=(b8.block _ (lb HPC.out)).trans HPC.out;have k0:=zz w8 (w.heap.size+1) 0 _ _ _ p8;have k1:=zz w8 (w.heap.size+1) 1 _ _ _ p8;have k2:=zz w8 (w.heap.size+1) 2 _ _ _ p8;have k3:=zz w8 (w.heap.size+1) 3 _ _ _ p8;simp at k0 k1 k2 k3;have P8:=lh p8
        clear b8 p8)
      |(go_at_call 71;(with_reducible refine (aO.out _ B8.out).mono ?_);rintro e w9 ⟨rfl,b9⟩
        clear k0 k1 k2 k3;have P9:Hid (w9.heap[w.heap.size+1]? =some (.cells _ 42 (0,0))):=(b9.block _ (lb P8.out)).trans P8.out;have B9:Hid (Below wr.heap.size wr w9):=bt B8.out b9
        clear b9)
      |((with_reducible refine ybk (o:=⟨none,_,_,_,_,_⟩) rfl 42 (.tmp 4) (.tmp 50) rfl (w.heap.size+1) 42 _ _ rfl rfl P9.out (pc_size _ _ _ _ _ _ _) (pc_sz _ _ _ _ _ _ _) (pc_one _ _ _ _ _ _ _) ?_);intro W7 HG7 HB7))
     refine bodyPost_ret (ybM rfl _ _ _ _ _ _ _ rfl HG7.out underlying42 rfl yb7) rfl (.inr ⟨Z.out,rfl,?_⟩);have h1:=bt bg.out B9.out;exact h1.trans (HB7.out.below h1.size (fun i hi=>by subst hi;omega))
    ·rw [aS] at Z aO;clear aS aB
     go_upto_region 15 with (first
      |(go_at_call 142;(with_reducible refine ar.out.mono ?_);rintro e w8 ⟨rfl,b8⟩
        have B8:=lh b8;have p8:=(b8.block _ (lb HPC.out)).trans HPC.out;have k0:=zz w8 (w.heap.size+1) 0 _ _ _ p8;have k1:=zz w8 (w.heap.size+1) 1 _ _ _ p8;have k2:=zz w8 (w.heap.size+1) 2 _ _ _ p8;have k3:=zz w8 (w.heap.size+1) 3 _ _ _ p8;simp at k0 k1 k2 k3;have P8:=lh p8
        clear b8 p8)
      |(go_at_call 71;(with_reducible refine (aO.out _ B8.out).mono ?_);rintro e w9 ⟨rfl,b9⟩
        clear k0 k1 k2 k3;have P9:=lh ((b9.block _ (lb P8.out)).trans P8.out);have B9:Hid (Below wr.heap.size wr w9):=bt B8.out b9
        clear b9))
     have k0:w9.cell? ⟨w.heap.size+1,0,none⟩=some (.string st):=by rw [cell_of_row w9 _ 0 _ _ _ P9.out];rfl
     have k1:w9.cell? ⟨w.heap.size+1,1,none⟩=some (.int .i64 ix):=by rw [cell_of_row w9 _ 1 _ _ _ P9.out];rfl
     have k2:w9.cell? ⟨w.heap.size+1,2,none⟩=some (.slice O T U):=by rw [cell_of_row w9 _ 2 _ _ _ P9.out];rfl
     have k3:w9.cell? ⟨w.heap.size+1,3,none⟩=some (.slice L l' N):=by rw [cell_of_row w9 _ 3 _ _ _ P9.out];rfl
     refine rH (S:=(fun w'=>w'.cell? ⟨w.heap.size+1,0,none⟩=some (.string st)/\w'.cell? ⟨w.heap.size+1,1,none⟩=some (.int .i64 ix)/\w'.cell? ⟨w.heap.size+1,2,none⟩=some (.slice O T U)/\w'.cell? ⟨w.heap.size+1,3,none⟩=some (.slice L l' N))) ybi (by first |exact ⟨k0,k1,k2,k3⟩ |go_keep) (fun al=>?_)
     (iterate 5 refine tkA ?_)
     refine rd1 5 (fun K G=>?_)
     (refine ybu rfl 42 (.tmp 4) (.tmp 53) rfl (w.heap.size+1) 42 _ _ rfl rfl (by exact P9.out) (yek ⟨st,ix,⟨O,T,U⟩,⟨L,l',N⟩⟩) rfl (pc4_one ⟨st,ix,⟨O,T,U⟩,⟨L,l',N⟩⟩) ?_);intro W7 HG7 HB7;(have q0:W7.cell? ⟨w.heap.size+1,0,none⟩=some (.string st):=by (rw [cell_of_row W7 _ 0 _ _ _ HG7.out];rfl));(have q1:W7.cell? ⟨w.heap.size+1,1,none⟩=some (.int .i64 ix):=by (rw [cell_of_row W7 _ 1 _ _ _ HG7.out];rfl));(have q2:W7.cell? ⟨w.heap.size+1,2,none⟩=some (.slice O T U):=by (rw [cell_of_row W7 _ 2 _ _ _ HG7.out];rfl));(have q3:W7.cell? ⟨w.heap.size+1,3,none⟩=some (.slice L l' N):=by (rw [cell_of_row W7 _ 3 _ _ _ HG7.out];rfl))
     refine G.out _ _ (by first |exact ⟨q0,q1,q2,q3⟩ |go_keep) (fun bT=>?_);clear G K al
     try simp only [pt]
     refine tkY 6 ?_;refine wpAnyH_done ybi ?_ _;go_wp2_with fail;refine bodyPost_ret (ybM rfl _ _ _ _ _ _ _ rfl HG7.out underlying42 rfl (yek ⟨st,ix,⟨O,T,U⟩,⟨L,l',N⟩⟩)) rfl (.inl ⟨Z.out,⟨st,ix,⟨O,T,U⟩,⟨L,l',N⟩⟩,rfl,rfl,rfl,?_,?_⟩)
     ·have bD:Below w9.heap.size w9 W7:=⟨HB7.out.os,HB7.out.tape,HB7.out.output,HB7.out.size,fun k J=>by
       by_cases bk:k=w.heap.size+1
       ·subst bk;exact HG7.out.trans P9.out.symm
       ·exact HB7.out.block k J bk⟩
      rw [<-bY.out];exact ((aA.out.up B9.out nl).more B9.out.size |>.up bD nl).more bD.size
     ·refine ⟨?_,bW.out⟩;have h1:=bt bg.out B9.out;have h2:But (fun k=>k=w.heap.size+1) w9 W7:=⟨HB7.out.os,HB7.out.tape,HB7.out.output,HB7.out.size,HB7.out.block⟩;exact h1.trans (h2.below h1.size (fun i hi=>by subst hi;omega))
   ·have az:decide (e6=0/\¬p6 < n)=false:=by
     by_cases h1:e6=0
     ·rw [if_pos h1] at hz
      by_cases h2:p6 < n
      ·exact decide_eq_false (fun h=>h.2 h2)
      ·rw [if_neg h2] at hz;exact absurd hz.symm am
     ·exact decide_eq_false (fun h=>h1 h.1)
    rw [az,Bool.false_and] at Z;have b2:(z != 0)=true:=by simp [am]
    clear hz az am aB aA
    go_wp2_with (first
     |(go_at_call 142;(with_reducible refine ar.out.mono ?_);rintro e w8 ⟨rfl,b8⟩
       have B8:=lh b8;have P8:=lh ((b8.block _ (lb HPC.out)).trans HPC.out)
       clear b8)
     |((with_reducible refine ybk (o:=⟨none,_,_,_,_,_⟩) rfl 42 (.tmp 4) (.tmp 50) rfl (w.heap.size+1) 42 _ _ rfl rfl P8.out (pc_size _ _ _ _ _ _ _) (pc_sz _ _ _ _ _ _ _) (pc_one _ _ _ _ _ _ _) ?_);intro W7 HG7 HB7))
    refine bodyPost_ret (ybM rfl _ _ _ _ _ _ _ rfl HG7.out underlying42 rfl yb7) rfl (.inr ⟨Z.out,rfl,?_⟩);have h1:=bt bg.out B8.out;exact h1.trans (HB7.out.below h1.size (fun i hi=>by subst hi;omega))
