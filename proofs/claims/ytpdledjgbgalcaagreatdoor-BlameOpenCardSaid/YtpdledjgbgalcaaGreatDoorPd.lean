import Derived.Test.YtpdledjgbgalcaaGreatDoorPc
import Derived.Maps.OwnIn
import Derived.WideKeyEntry
import Derived.Test.YtpdledjgbgalcaaGreatDoorRows
import Derived.ProofKit
import Derived.LaidMore
import Derived.OpenShut
import Derived.Stop.Joined
namespace Go.Proofs.YtpdledjgbgalcaaGreatDoor
set_option maxRecDepth 100000
set_option maxHeartbeats 4000000
open Go.RowKit Go.Proofs.Tryz
set_option linter.unusedVariables false
set_option linter.unusedSimpArgs false
abbrev fT:ByteArray->Value:=Value.string
theorem fT1:∀y,(fT y).oneCell'=true:=fun _=>rfl
theorem Tryz.infoS:(prog.info? 9).map (fun i=>(i.zero,i.size,i.bytes))=some (some (.string ⟨#[]⟩),1,16):=by kernel_rfl
def Glob (w:World):Prop:=KTab w/\(∀(i:Nat) (x:Int),hTab.list[i]? =some x->w.cell? ⟨0,i,none⟩=some (U32 x))/\1 < w.heap.size
theorem Glob.up {w J:World} {B:Nat} (h:Glob w) (H:Below B w J) (K:1 < B):Glob J:=
 ⟨fun i x G=>(H.cell (p:=⟨1,i,none⟩) K).trans (h.1 i x G),fun i x G=>(H.cell (p:=⟨0,i,none⟩) (Nat.lt_trans Nat.zero_lt_one K)).trans (h.2.1 i x G),Nat.lt_of_lt_of_le h.2.2 H.size⟩
theorem Glob.on {w w':World} (h:Glob w) (hb:Below w.heap.size w w'):Glob w':=h.up hb h.2.2
def zeros64:List Int:=List.replicate 64 0
def newSt:Obj:= .cells (ycF hTab zeros64 0) 302
theorem newSt_St (w:World):St (w.alloc newSt) w.heap.size []:=⟨zeros64,rfl,fun x hx=>by rw [(List.mem_replicate.1 hx).2];omega,(fun x hx=>by cases hx),heap_alloc_new w _,rfl⟩
theorem newEq:ycF hTab zeros64 0=((((((((Tryz.zeroCells302.setIfInBounds 0 (U32 hTab.a)).setIfInBounds 1 (U32 hTab.b)).setIfInBounds 2 (U32 hTab.c)).setIfInBounds 3 (U32 hTab.d)).setIfInBounds 4 (U32 hTab.e)).setIfInBounds 5 (U32 hTab.f)).setIfInBounds 6 (U32 hTab.g)).setIfInBounds 7 (U32 hTab.h)):=by kernel_rfl
theorem stNew_any (w:World) (h:Glob w):Calls prog 198 #[] w fun e G=>e= .returned (.pointer (some ⟨w.heap.size,0,none⟩))/\w.alloc newSt=G:=by
 have c0:=h.2.1 0 _ rfl;have c1:=h.2.1 1 _ rfl;have c2:=h.2.1 2 _ rfl;have c3:=h.2.1 3 _ rfl;have c4:=h.2.1 4 _ rfl;have H:=h.2.1 5 _ rfl;have J:=h.2.1 6 _ rfl;have K:=h.2.1 7 _ rfl;clear h;go_enter func198,ntmps198;go_wp2;go_ret;exact ⟨rfl,congrArg (fun c=>w.alloc (.cells c 302)) newEq⟩
theorem ydm (A:Option Addr) (n c B:Nat) (xs:List Int) (w:World) (G:Glob w) (L:Sl fB w B A n xs) (hc:n<=c) (hB:B<=w.heap.size) (hl:n<=549755813887) (M:Byt xs) (hA:∀a,A=some a->a.block < w.heap.size):
 Calls prog 151 #[.slice A n c] w fun e K=>e= .returned (.string (baOf (shaB (0::xs))))/\Below w.heap.size w K:=by
 have aa:=lh (stNew_any w G);have af:=lh G;have HX:=lh L;have ae:=lh M;have HA:=lh hA
 have H1:Hid (Calls prog 199 #[.pointer (some ⟨w.heap.size,0,none⟩),.slice (some ⟨w.heap.size+1,0,none⟩) 1 1] ((w.alloc newSt).alloc (.cells #[.int .u8 0] 5)) fun e K=>e= .returned (.tuple #[])/\St K w.heap.size [0]/\But (fun k=>k=w.heap.size) ((w.alloc newSt).alloc (.cells #[.int .u8 0] 5)) K):=by
  have J:Below w.heap.size w ((w.alloc newSt).alloc (.cells #[.int .u8 0] 5)):=bl.alloc sI _;have hs:Sl fB ((w.alloc newSt).alloc (.cells #[.int .u8 0] 5)) (w.heap.size+2) (some ⟨w.heap.size+1,0,none⟩) 1 [0]:=⟨rfl,SL.of_block (t:=5) (fr:=(0,0)) (heap_alloc2_new w _ _) om⟩;exact ycM w.heap.size [] [0] _ 1 1 (w.heap.size+2) _ ((newSt_St w).but ((But.refl (fun _=>False) _).alloc _) (fun h=>h)) hs nl sI (fun x L=>by rw [List.mem_singleton.1 L];omega) (fun a ha=>by injection ha with ha;subst ha;exact Nat.succ_ne_self _) sI (G.on J).1 (G.on J).2.2 (Nat.ne_of_gt G.2.2)
 have H2:Hid (∀w1,St w1 w.heap.size [0]->Below w.heap.size w w1->Calls prog 199 #[.pointer (some ⟨w.heap.size,0,none⟩),.slice A n c] w1 fun e K=>e= .returned (.tuple #[])/\St K w.heap.size (0::xs)/\But (fun k=>k=w.heap.size) w1 K):=fun w1 h1 J=>
  ycM w.heap.size [0] xs A n c B w1 h1 (L.up J hB) hc (lT hB J.size) M (fun a ha=>Nat.ne_of_lt (hA a ha)) (by rw [L.1];simp;omega) (G.on J).1 (G.on J).2.2 (Nat.ne_of_gt G.2.2)
 have H3:Hid (∀H,St H w.heap.size (0::xs)->Below w.heap.size w H->Calls prog 200 #[.pointer (some ⟨w.heap.size,0,none⟩)] H fun e K=>e= .returned (.string (baOf (shaB (0::xs))))/\Below H.heap.size H K):=fun H h2 J=>
  sum_any w.heap.size (0::xs) H h2 (by rw [List.length_cons,L.1];omega) (G.on J).1 (G.on J).2.2
 clear G L M hA;go_enter func151,ntmps151
 go_wp2_with (first
  |(go_at_call 198;(with_reducible refine aa.out.mono ?_);rintro e w0 ⟨rfl,ac⟩;subst ac)
  |(go_at_call 199;(with_reducible refine H1.out.mono ?_);rintro e w1 ⟨rfl,O,Y⟩
    have HS1:=lh O;have HB1:Hid (Below w.heap.size w w1):=((bR.alloc nl newSt).alloc sI (.cells #[.int .u8 0] 5)).trans (Y.below yba (fun i hi=>Nat.le_of_eq hi.symm))
    clear O Y)
  |(go_at_call 199;(with_reducible refine (H2.out w1 HS1.out HB1.out).mono ?_);rintro e H ⟨rfl,U,W⟩
    have Z:=lh U;have N:Hid (Below w.heap.size w H):=HB1.out.trans (W.below HB1.out.size (fun i hi=>Nat.le_of_eq hi.symm))
    clear U W)
  |(go_at_call 200;(with_reducible refine (H3.out H Z.out N.out).mono ?_);rintro e w3 ⟨rfl,T⟩
    have z:=lh T
    clear T))
 go_ret;exact ⟨rfl,bt N.out z.out⟩
theorem ydn (A:Option Addr) (n c B:Nat) (xs:List Int) (w:World) (G:Sl fB w B A n xs) (hB:B<=w.heap.size) (hl:n<=549755813887) (N:Byt xs):
 Calls prog 157 #[.slice A n c] w fun e w'=>e= .returned (.string (baOf (shaB (0::xs))))/\Below w.heap.size w w':=by
 obtain ⟨i0,hi,K,U,Y⟩:=info_parts Tryz.infoB;have HI:=lh hi;have ac:=lh K;have ai:=lh U;have aj:=lh Y;have W:Hid (Own fB 5 (w.alloc (.cells #[.int .u8 0] 5)) w.heap.size (.slice (some ⟨w.heap.size,0,none⟩) 1 1) [0]):=World.ownsRow_lit w #[.int .u8 0] 1 nl ya5 rfl;have O:Hid (Below w.heap.size w (w.alloc (.cells #[.int .u8 0] 5))):=bl;have ae:Hid (Sl fB (w.alloc (.cells #[.int .u8 0] 5)) B A n xs):=G.up O.out hB;have HXN:Hid (xs.length=n):=G.1;have Z:Hid ((([0]:List Int).length+xs.length)*1<=140737488355328):=by show _<=_;rw [G.1];simp;omega
 have af:Hid (([0]:List Int).length+xs.length<=maxLen):=by show _<=_;rw [G.1];unfold maxLen;simp;omega
 have L:Hid (w.heap.size<=(w.alloc (.cells #[.int .u8 0] 5)).heap.size):=by show _<=_;simp
 have ak:=lh N;clear hi K U Y G N;go_enter func157,ntmps157
 go_wp2_with (first
  |(at_builtin;(with_reducible refine ybD (o:=⟨some 5,_,_,_,_,_⟩) rfl (.tmp 3) (.tmp 4) 40 rfl 5 i0 (.int .u8 0) 1 underlying40 HI.out ac.out ai.out aj.out rfl _ [0] w.heap.size rfl W.out _ _ _ B xs rfl ae.out fB1 Z.out af.out L.out ?_);intro v1 w1 ag ah am
    have HB1:Hid (Below w.heap.size w w1):=O.out.trans (ybe ah.out (fun j hj=>(ol W.out j hj).1) L.out);obtain ⟨A1,c1,J,aa,M,_⟩:=ag.out.shape;have H:([0]++xs:List Int).length=n+1:=by rw [List.length_append,HXN.out];exact Nat.add_comm ..
    rw [H] at J;subst J;have HC:=lh (ydl A1 (n+1) c1 w1.heap.size ([0]++xs) w1 ⟨H,M⟩ nl om (Byt.app (fun x G=>by rw [List.mem_singleton.1 G];omega) ak.out))
    clear M H aa)
  |(go_at_call 123;(refine HC.out.mono ?_);rintro e w2 ⟨rfl,T⟩
    have z:=lh T
    clear T))
 go_ret;exact ⟨rfl,bt HB1.out z.out⟩
theorem Pid.laid:laidOutB prog=true:=by kernel_rfl
theorem Pid.law:Maps.Keyed prog 31:=Maps.Keyed.of_law (deep_law_laid Pid.laid (m:=2) om (of_decide_eq_true ya9) ya9 ya9)
theorem Pid.size:prog.types.size=prog.types.size - 2+1+1:=by
 have h:2<=prog.types.size:=of_decide_eq_true ya9;omega
theorem Pid.keyT:prog.keyType 31=true:=by kernel_rfl
theorem Pid.cells:prog.cellsOf 31=2:=by kernel_rfl
theorem Pid.icells:prog.cellsOf 3=1:=by kernel_rfl
theorem Pid.scells:prog.cellsOf 9=1:=by kernel_rfl
def pP (s:ByteArray) (y:Int):Value:= .agg #[.string s,.int .i64 y]
noncomputable def kP (s:ByteArray) (y:Int):Lit:= .string (keyBytes [.string s.data.toList,.int .i64 y])
def int64 (x:Int):Prop:= -9223372036854775808<=x/\x<=9223372036854775807
theorem int64.wf {x:Int} (h:int64 x):(Lit.int .i64 x).wf=true:=WalkArith.wf_i64 h
def okP (s:ByteArray) (y:Int):Prop:=s.size<=maxLen/\int64 y
theorem kP_of {s:ByteArray} {y:Int} (h:okP s y):keyOf prog 31 (pP s y)=some (kP s y):=by
 have G:=h.2.wf;have hs:=h.1;have hf:(pP s y).formed prog 31=true:=by simp [pP,Value.formed,underlying31,Pid.cells]
 unfold keyOf;simp only [underlying31];rw [if_pos (by simp [Pid.keyT,hf]),Pid.size];unfold Program.keyLits;simp only [underlying31,Value.cells,pP];rw [if_pos (by simp [Pid.cells])];unfold Program.keyLits;simp [underlying3,underlying9,Pid.icells,Pid.scells,G,hs,kP]
theorem kP_inj {x x':ByteArray} {y y':Int} (h:okP x y) (h':okP x' y') (e:kP x y=kP x' y'):x=x'/\y=y':=by
 have h1:=Pid.law.inj (kP_of h) (e▸kP_of h');simp [pP] at h1;exact h1
theorem kP_key {x:ByteArray} {y:Int} (h:okP x y):WideAt.IsKeyLit (kP x y):=Pid.law.key (kP_of h)
theorem Pid.zero (w:World):(zeroValue 4).run prog w= .ok (.bool false) w:=by kernel_rfl
open Classical in
noncomputable def pinB (L:List (ByteArray × Int)) (p:ByteArray × Int):Bool:=decide (p∈L)
theorem yd2 {L:List (ByteArray × Int)} {p:ByteArray × Int} (h:p∈L):pinB L p=true:=by unfold pinB;simp [h]
theorem pinB_no {L:List (ByteArray × Int)} {p:ByteArray × Int} (h:p∉L):pinB L p=false:=by unfold pinB;simp [h]
def MapP (w:World) (b n:Nat) (L:List (ByteArray × Int)):Prop:=
 ∃D:DataW Unit,w.ownsMap prog 31 (plainElem prog 4) b n D/\∀x y,okP x y->D.atKey (kP x y) (.lit (.bool false))= .lit (.bool (pinB L (x,y)))
theorem MapP.made (w:World):MapP (w.alloc (.map #[] 0)) w.heap.size 0 []:=⟨_,World.ownsMap_made w prog _ _,fun x y _=>by rw [pinB_no sI];simp [DataW.atKey]⟩
section
variable {w w':World} {b n:Nat} {L:List (ByteArray × Int)}
theorem MapP.kept {row:Option Nat} (h:MapP w b n L) (hg:w.grownBy w' row) (hne:some b≠row):MapP w' b n L:=by
 obtain ⟨D,h1,h2⟩:=h;exact ⟨D,h1.kept hg hne,h2⟩
theorem MapP.block (h:MapP w b n L) (hb:w'.heap[b]? =w.heap[b]?):MapP w' b n L:=by
 obtain ⟨D,⟨es,ck,h1,h2⟩,h3⟩:=h;exact ⟨D,⟨es,ck,hb.trans h1,h2⟩,h3⟩
theorem MapP.lt (h:MapP w b n L):b < w.heap.size:=by
 obtain ⟨D,h1,_⟩:=h;exact h1.lt
theorem elem_bool_inv {H:Type} {P:Program} {e:TypeId} (G:P.underlying e=some .bool) {v:Value} {r:DataW H × List MemPlace} (h:plainElem P e v=some r):∃x,v= .bool x/\r=(.lit (.bool x),[]):=by
 unfold plainElem at h;rw [G] at h;cases v<;>simp at h
 exact ⟨_,rfl,h.symm⟩
theorem look_gen {P:Program} {H J N:TypeId} {D:DataW Unit} (h1:w.ownsMap P H (plainElem P J) b n D) (law:Maps.Keyed P H) (ht:P.underlying N=some (.map H J)) (M:P.underlying J=some .bool)
 (O:(zeroValue J).run P w= .ok (.bool false) w) {K:Value} {l:Lit} (U:keyOf P H K=some l) {x:Bool} (h2:D.atKey l (.lit (.bool false))= .lit (.bool x)):(Instr.lookup N (.map (some b)) K false).run P w= .ok (.bool x) w:=by
 obtain ⟨v,ps,L,T⟩:=h1.lookup law ht O (plainElem_bool M false) U;obtain ⟨c,rfl,G⟩:=elem_bool_inv M T;rw [h2] at G;injection G with G _;injection G with G;injection G with G;rw [L,<-G]
theorem MapP.look (h:MapP w b n L) (x:ByteArray) (y:Int) (G:okP x y):(Instr.lookup 150 (.map (some b)) (pP x y) false).run prog w= .ok (.bool (pinB L (x,y))) w:=by
 obtain ⟨D,h1,h2⟩:=h;exact look_gen h1 Pid.law underlying150 underlying4 (Pid.zero w) (kP_of G) (h2 x y G)
theorem MapP.store (h:MapP w b n L) (hn:n < maxLen) (x:ByteArray) (y:Int) (M:okP x y):
 ∃G,(Instr.mapUpdate 150 (.map (some b)) (pP x y) (.bool true)).run prog w= .ok () G/\MapP G b (n+1) (L++[(x,y)])/\w.grownBy G (some b):=by
 obtain ⟨D,h1,h2⟩:=h;obtain ⟨G,r1,r2,r3⟩:=h1.update Pid.law underlying150 hn (kP_of M) (plainElem_bool underlying4 true);refine ⟨G,r1,⟨_,r2,fun u v J=>?_⟩,r3⟩;show _=DataW.lit (.bool (pinB (L++[(x,y)]) (u,v)))
 by_cases K:u=x/\v=y
 ·obtain ⟨rfl,rfl⟩:=K;rw [yd2 (show (u,v)∈L++[(u,v)] by simp)];exact Maps.atKey_put_same h1.isMap (kP_key J) _ _
 ·rw [show pinB (L++[(x,y)]) (u,v)=pinB L (u,v) by
   by_cases H:(u,v)∈L
   ·rw [yd2 H,yd2 (by simp [H])]
   ·rw [pinB_no H,pinB_no (by simp [H,K])],Maps.atKey_put_other (fun e=>K (kP_inj J M e))]
  exact h2 u v J
end
abbrev RV (v:Value):Option (DataW Value × List MemPlace):=some (.held v,[])
open Classical in
noncomputable def putM (m:Lit->Value) (l:Lit) (v:Value):Lit->Value:=fun x=>if x=l then v else m x
theorem ydo (m:Lit->Value) (l:Lit) (v:Value):putM m l v l=v:=by unfold putM;simp
theorem yc0 {m:Lit->Value} {l x:Lit} {v:Value} (h:x≠l):putM m l v x=m x:=by unfold putM;simp [h]
def MapV (w:World) (kt:TypeId) (b n:Nat) (z:Value) (m:Lit->Value):Prop:=
 ∃D:DataW Value,w.ownsMap prog kt RV b n D/\∀l,WideAt.IsKeyLit l->D.atKey l (.held z)= .held (m l)
theorem MapV.made (w:World) (kt:TypeId) (z:Value):MapV (w.alloc (.map #[] 0)) kt w.heap.size 0 z (fun _=>z):=⟨_,World.ownsMap_made w prog _ _,fun _ _=>by simp [DataW.atKey]⟩
section
variable {w w':World} {kt et mt:TypeId} {b n:Nat} {z:Value} {m:Lit->Value}
theorem MapV.kept {row:Option Nat} (h:MapV w kt b n z m) (hg:w.grownBy w' row) (hne:some b≠row):MapV w' kt b n z m:=by
 obtain ⟨D,h1,h2⟩:=h;exact ⟨D,h1.kept hg hne,h2⟩
theorem MapV.block (h:MapV w kt b n z m) (hb:w'.heap[b]? =w.heap[b]?):MapV w' kt b n z m:=by
 obtain ⟨D,⟨es,ck,h1,h2⟩,h3⟩:=h;exact ⟨D,⟨es,ck,hb.trans h1,h2⟩,h3⟩
theorem MapV.lt (h:MapV w kt b n z m):b < w.heap.size:=by
 obtain ⟨D,h1,_⟩:=h;exact h1.lt
theorem MapV.mono {n':Nat} (h:MapV w kt b n z m) (hn:n<=n'):MapV w kt b n' z m:=by
 obtain ⟨D,h1,h2⟩:=h;exact ⟨D,h1.mono hn,h2⟩
theorem MapV.look (h:MapV w kt b n z m) (K:Maps.Keyed prog kt) (ht:prog.underlying mt=some (.map kt et)) (J:(zeroValue et).run prog w= .ok z w) {key:Value} {l:Lit} (H:keyOf prog kt key=some l):
 (Instr.lookup mt (.map (some b)) key false).run prog w= .ok (m l) w:=by
 obtain ⟨D,h1,h2⟩:=h;obtain ⟨v,ps,G,M⟩:=h1.lookup K ht J (show RV z=some (.held z,[]) from rfl) H;have L:DataW.held v=D.atKey l (.held z):=congrArg Prod.fst (Option.some.inj M);have N:DataW.held v=DataW.held (m l):=L.trans (h2 l (K.key H));rw [G,DataW.held.inj N]
theorem MapV.put_of {D:DataW Value} (h1:w.ownsMap prog kt RV b n D) (h2:∀l,WideAt.IsKeyLit l->D.atKey l (.held z)= .held (m l)) {w1:World} {l:Lit} (hl:WideAt.IsKeyLit l) (v:Value) (J:w1.ownsMap prog kt RV b (n+1) (D.put l (.held v))):MapV w1 kt b (n+1) z (putM m l v):=by
 refine ⟨_,J,fun x H=>?_⟩
 by_cases G:x=l
 ·rw [G,ydo];exact Maps.atKey_put_same h1.isMap hl _ _
 ·rw [yc0 G,Maps.atKey_put_other G];exact h2 x H
theorem MapV.store (h:MapV w kt b n z m) (K:Maps.Keyed prog kt) (ht:prog.underlying mt=some (.map kt et)) (hn:n < maxLen) {key:Value} {l:Lit} (H:keyOf prog kt key=some l) (v:Value):
 ∃G,(Instr.mapUpdate mt (.map (some b)) key v).run prog w= .ok () G/\MapV G kt b (n+1) z (putM m l v)/\w.grownBy G (some b):=by
 obtain ⟨D,h1,h2⟩:=h;obtain ⟨G,r1,r2,r3⟩:=h1.update K ht hn H (show RV v=some (.held v,[]) from rfl);exact ⟨G,r1,MapV.put_of h1 h2 (K.key H) v r2,r3⟩
theorem MapV.entry (h:MapV w kt b n z m) (K:WideMaps.KeyLaw prog kt) (ht:prog.underlying mt=some (.map kt et)) (hz:∀u:World,(zeroValue et).run prog u= .ok z u) (hn:n < maxLen) {key:Value} {l:Lit} (M:keyOf prog kt key=some l):
 ∃(st:Nat) (G:Array MapEntry) (H:Nat),(Instr.mapEntry mt (.map (some b)) key).run prog w= .ok (.tuple #[m l,goInt st]) (ChangeMaps.setBlock w b (.map G H))/\
  ∀(L:World) (v:Value),L.heap[b]? =some (.map G H)->∃w',(Instr.entryStore mt (.map (some b)) (goInt st) v).run prog L= .ok () w'/\MapV w' kt b (n+1) z (putM m l v)/\L.grownBy w' (some b):=by
 obtain ⟨D,h1,h2⟩:=h;have h0:=h1;obtain ⟨es,ck,hb,F,hs,rfl⟩:=h0;obtain ⟨v0,st,G,H,hE,hc,hS⟩:=WideElems.entry_then_store K ht hz hb F M
 have ae:v0=m l:=by
  have J:=h2 l ((Maps.Keyed.of_law K).key M);rcases hc with ⟨Z,Y,ac,rfl⟩ |⟨aa,rfl⟩
  ·rw [WideElems.atKey_some K F M Y ac (show RV Z.val=some (.held Z.val,[]) from rfl)] at J;exact DataW.held.inj J
  ·rw [WideElems.atKey_none K F M aa] at J;exact DataW.held.inj J
 subst ae;refine ⟨st,G,H,hE,fun L v N=>?_⟩;obtain ⟨U,T,r1,r2⟩:=hS L v N;obtain ⟨w3,O,q2,_⟩:=h1.update (Maps.Keyed.of_law K) ht hn M (show RV v=some (.held v,[]) from rfl);rw [r2] at O;injection O with _ O;subst O
 have W:(ChangeMaps.setBlock L b (.map U T)).heap[b]? =(ChangeMaps.setBlock w b (.map U T)).heap[b]? :=by
  rw [ChangeMaps.heap_setBlock_same N,ChangeMaps.heap_setBlock_same hb]
 exact ⟨_,r1,(MapV.put_of h1 h2 ((Maps.Keyed.of_law K).key M) v q2).block W,⟨rfl,rfl,rfl,by simp [ChangeMaps.setBlock],fun i _ hi=>ChangeMaps.heap_setBlock_other N _ (fun e=>hi (by rw [e]))⟩⟩
end
theorem Num.law:WideMaps.KeyLaw prog 171:=deep_law_laid Pid.laid (m:=2) om (of_decide_eq_true ya9) ya9 ya9
theorem Rep.law:WideMaps.KeyLaw prog 173:=deep_law_laid Pid.laid (m:=3) om (of_decide_eq_true ya9) ya9 ya9
theorem Rep.size:prog.types.size=prog.types.size - 3+1+1+1:=by
 have h:3<=prog.types.size:=of_decide_eq_true ya9;omega
theorem Num.keyT:prog.keyType 171=true:=by kernel_rfl
theorem Rep.keyT:prog.keyType 173=true:=by kernel_rfl
theorem Num.cells:prog.cellsOf 171=2:=by kernel_rfl
theorem Rep.cells:prog.cellsOf 173=3:=by kernel_rfl
def pN (d s:Int):Value:= .agg #[.int .i64 d,.int .i64 s]
def pR (d s y:Int):Value:= .agg #[.int .i64 d,.int .i64 s,.int .i64 y]
noncomputable def kN (d s:Int):Lit:= .string (keyBytes [.int .i64 d,.int .i64 s])
noncomputable def kR (d s y:Int):Lit:= .string (keyBytes [.int .i64 d,.int .i64 s,.int .i64 y])
theorem kN_of {d s:Int} (hd:int64 d) (hs:int64 s):keyOf prog 171 (pN d s)=some (kN d s):=by
 have h1:=hd.wf;have h2:=hs.wf;have hf:(pN d s).formed prog 171=true:=by simp [pN,Value.formed,underlying171,Num.cells]
 unfold keyOf;simp only [underlying171];rw [if_pos (by simp [Num.keyT,hf]),Pid.size];unfold Program.keyLits;simp only [underlying171,Value.cells,pN];rw [if_pos (by simp [Num.cells])];unfold Program.keyLits;simp [underlying3,Pid.icells,h1,h2,kN]
theorem kR_of {d s y:Int} (hd:int64 d) (hs:int64 s) (H:int64 y):keyOf prog 173 (pR d s y)=some (kR d s y):=by
 have h1:=hd.wf;have h2:=hs.wf;have G:=H.wf;have hf:(pR d s y).formed prog 173=true:=by simp [pR,Value.formed,underlying173,Rep.cells]
 unfold keyOf;simp only [underlying173];rw [if_pos (by simp [Rep.keyT,hf]),Rep.size];generalize prog.types.size - 3=n;unfold Program.keyLits;simp only [underlying173,Value.cells,pR];rw [if_pos (by simp [Rep.cells])];unfold Program.keyLits;simp [Program.keyLits,underlying3,underlying171,Num.cells,Pid.icells,h1,h2,G,kR]
 rw [if_pos (by
  intro i hi;have:i=0∨i=1:=by omega
  rcases this with rfl |rfl<;>simp)]
 simp
theorem kN_inj {d s G H:Int} (h1:int64 d) (h2:int64 s) (J:int64 G) (K:int64 H) (e:kN d s=kN G H):d=G/\s=H:=by
 have h:=(Maps.Keyed.of_law Num.law).inj (kN_of h1 h2) (e▸kN_of J K);simp [pN] at h;exact h
theorem kR_inj {d s y H J G:Int} (h1:int64 d) (h2:int64 s) (N:int64 y) (K:int64 H) (L:int64 J) (M:int64 G) (e:kR d s y=kR H J G):d=H/\s=J/\y=G:=by
 have h:=(Maps.Keyed.of_law Rep.law).inj (kR_of h1 h2 N) (e▸kR_of K L M);simp [pR] at h;exact h
theorem Num.zero (w:World):(zeroValue 4).run prog w= .ok (.bool false) w:=by kernel_rfl
theorem Rep.zero (w:World):(zeroValue 83).run prog w= .ok (.slice none 0 0) w:=by kernel_rfl
theorem Mee.zero (w:World):(zeroValue 174).run prog w= .ok (.slice none 0 0) w:=by kernel_rfl
inductive Rl where
 |dat
 |fix (i:Nat)
 |ent
 |sh (l:Lit)
 |mt (l:Lit)
def Lab (lab:Nat->Rl) (r:Rl) (v:Value):Prop:=∀k,v.ownBlock=some k->lab k=r
theorem Lab.nil (lab:Nat->Rl) (r:Rl):Lab lab r (.slice none 0 0):=fun k hk=>by cases hk
open Classical in
noncomputable def setL (lab:Nat->Rl) (v:Value) (r:Rl):Nat->Rl:=fun i=>if v.ownBlock=some i then r else lab i
theorem setL_same (lab:Nat->Rl) (v:Value) (r:Rl):Lab (setL lab v r) r v:=fun k hk=>by unfold setL;simp [hk]
theorem ycu {G:Nat->Rl} {v H:Value} {r:Rl} {n i:Nat} (h:H.ownBlock=v.ownBlock∨∃g,H.ownBlock=some g/\n<=g) (hl:Lab G r v) (hi:i < n):setL G H r i=G i:=by
 unfold setL
 split
 ·rename_i e
  rcases h with h |⟨g,h,J⟩
  ·exact (hl i (h▸e)).symm
  ·rw [h] at e;injection e with e;omega
 ·rfl
theorem setL_hi {lab:Nat->Rl} {v':Value} {r:Rl} {n i:Nat} (h:∀g,v'.ownBlock=some g->g < n) (hi:n<=i):setL lab v' r i=lab i:=by
 unfold setL
 split
 ·rename_i e
  have:=h i e;omega
 ·rfl
structure FrP (lab:Nat->Rl) (P:Rl->Prop) (w w':World):Prop where
 le:w.heap.size<=w'.heap.size
 same:∀k,k < w.heap.size->¬P (lab k)->w'.heap[k]? =w.heap[k]?
theorem FrP.grown {G:Nat->Rl} {r:Rl} {P:Rl->Prop} {w J:World} {v:Value} (h:w.grownBy J v.ownBlock) (hl:Lab G r v) (K:P r):FrP G P w J:=
 ⟨h.size,fun k L H=>h.block k L fun e=>H (by rw [hl k e.symm];exact K)⟩
theorem FrP.blk {G:Nat->Rl} {P:Rl->Prop} {w J:World} {b:Nat} (h:w.grownBy J (some b)) (K:P (G b)):FrP G P w J:=
 ⟨h.size,fun k L H=>h.block k L fun e=>H (by injection e with e;rw [e];exact K)⟩
theorem FrP.below {lab:Nat->Rl} {P:Rl->Prop} {w w':World} (h:Below w.heap.size w w'):FrP lab P w w':=⟨h.size,fun k hk _=>h.block k hk⟩
theorem FrP.refl (lab:Nat->Rl) (P:Rl->Prop) (w:World):FrP lab P w w:=⟨Nat.le_refl _,fun _ _ _=>rfl⟩
theorem FrP.trans {G:Nat->Rl} {P:Rl->Prop} {w J K:World} (h:FrP G P w J) (L:FrP G P J K):FrP G P w K:=
 ⟨lT h.le L.le,fun k M H=>(L.same k (Nat.lt_of_lt_of_le M h.le) H).trans (h.same k M H)⟩
theorem FrP.mono {lab:Nat->Rl} {P Q:Rl->Prop} {w w':World} (h:FrP lab P w w') (hPQ:∀r,P r->Q r):FrP lab Q w w':=⟨h.le,fun k hk hne=>h.same k hk fun hp=>hne (hPQ _ hp)⟩
theorem FrP.set {G:Nat->Rl} {P:Rl->Prop} {w K:World} {v J:Value} {r:Rl} (h:FrP G P w K) (M:J.ownBlock=v.ownBlock∨∃g,J.ownBlock=some g/\w.heap.size<=g) (hl:Lab G r v):FrP (setL G J r) P w K:=
 ⟨h.le,fun k L H=>h.same k L (by rw [ycu M hl L] at H;exact H)⟩
section
variable {lab:Nat->Rl} {P:Rl->Prop} {w w':World}
theorem OwnN.fr {α:Type} {f:α->List Value} {s:Nat} {e:TypeId} {base:Nat} {v:Value} {xs:List α} {L:Rl} (h:OwnN f s e w base v xs) (hl:Lab lab L v) (hf:FrP lab P w w') (K:¬P L):OwnN f s e w' base v xs:=by
 refine ⟨h.1,?_⟩;rcases h.2 with hn |⟨g,cap,J,rfl,M,G,H⟩
 ·exact .inl hn
 ·exact .inr ⟨g,cap,J,rfl,M,(hf.same g (Array.getElem?_eq_some_iff.1 G).1 (by rw [hl g rfl];exact K)).trans G,H⟩
theorem MapV.fr {kt:TypeId} {b n:Nat} {z:Value} {m:Lit->Value} (h:MapV w kt b n z m) (hf:FrP lab P w w') (hne:¬P (lab b)):MapV w' kt b n z m:=h.block (hf.same b h.lt hne)
def DatB (lab:Nat->Rl) (A:Option Addr) (n:Nat):Prop:=0 < n->∀a,A=some a->lab a.block= .dat
theorem Sl.fr {α:Type} {f:α->Value} {n:Nat} {A:Option Addr} {xs:List α} (h:Sl f w w.heap.size A n xs) (hd:DatB lab A n) (hf:FrP lab P w w') (hr:¬P .dat):Sl f w' w'.heap.size A n xs:=by
 refine ⟨h.1,fun hn=>?_⟩;obtain ⟨b,H,e,G,K⟩:=h.2 hn;have hs:=hf.same b G (by rw [hd (h.1▸hn) _ e];exact hr);exact ⟨b,H,e,Nat.lt_of_lt_of_le G hf.le,fun k x J=>(cB hs).trans (K k x J)⟩
theorem DatB.set {α:Type} {f:α->Value} {n m:Nat} {A:Option Addr} {xs:List α} {v G:Value} {r:Rl} (h:DatB lab A n) (hs:Sl f w m A n xs) (K:G.ownBlock=v.ownBlock∨∃g,G.ownBlock=some g/\m<=g) (hl:Lab lab r v):DatB (setL lab G r) A n:=fun hn a e=>by
 obtain ⟨b,L,H,J,_⟩:=hs.2 (hs.1▸hn);rw [H] at e;injection e with e;subst e;rw [ycu K hl J];exact h hn _ H
theorem Lab.set {v G u:Value} {r H:Rl} {n:Nat} (h:Lab lab H u) (K:∀k,u.ownBlock=some k->k < n) (L:G.ownBlock=v.ownBlock∨∃g,G.ownBlock=some g/\n<=g) (hl:Lab lab r v):Lab (setL lab G r) H u:=fun k J=>by
 rw [ycu L hl (K k J)];exact h k J
end
def leafS (xs:List Int):ByteArray:=baOf (shaB (0::xs))
def BkP (A:Option Addr) (n c:Nat) (xs:List Int) (w w0:World) (v0:Value) (x v:Value) (wr:World):Prop:=
 (x= .slice A n c/\v=v0/\w0=wr)∨(∃A' c',x= .slice A' 0 c'/\Hid (Own fT 9 wr w.heap.size v [leafS xs])/\Hid (Below w.heap.size w wr))
theorem Sl.at0 {w:World} {B n:Nat} {A:Option Addr} {xs:List Int} (h:Sl fB w B A n xs) (h0:0 < n):∃b G,A=some ⟨b,G,none⟩/\b < B:=by
 obtain ⟨b,G,e,H,_⟩:=h.2 (by rw [h.1];exact h0);exact ⟨b,G,e,H⟩
theorem rblocks_one (A:Option Addr) (n c B:Nat) (xs:List Int) (w:World) (hc:n<=c) (hx:Sl fB w B A n xs) (hB:B<=w.heap.size) (h0:0 < n) (hl:n<=512) (M:Byt xs):
 Calls prog 180 #[.slice A n c,.int .i64 512] w fun e J=>∃v,e= .returned (.tuple #[v,.int .i64 0])/\Own fT 9 J w.heap.size v [leafS xs]/\Below w.heap.size w J:=by
 obtain ⟨i0,hi,K,U,Y⟩:=info_parts Tryz.infoS;have HI:=lh hi;have af:=lh K;have aj:=lh U;have ak:=lh Y;obtain ⟨iB,O,_,ag,_⟩:=info_parts Tryz.infoB;obtain ⟨b,G,rfl,ap⟩:=hx.at0 h0;have H:Hid (Below w.heap.size w (w.alloc (.cells #[] 9))):=bl;have am:Hid (Own fT 9 (w.alloc (.cells #[] 9)) w.heap.size (.slice (some ⟨w.heap.size,0,none⟩) 0 0) []):=World.ownsRow_lit w #[] 0 nl ya5 rfl
 have HC:Hid (Calls prog 157 #[.slice (some ⟨b,G,none⟩) n c] (w.alloc (.cells #[] 9)) fun e J=>e= .returned (.string (leafS xs))/\Below (w.alloc (.cells #[] 9)).heap.size (w.alloc (.cells #[] 9)) J):=
  ydn (some ⟨b,G,none⟩) n c B xs (w.alloc (.cells #[] 9)) (hx.up H.out hB) (lT hB H.out.size) om M
 have ac:=fun W=>ybW (P:=prog) 40 5 iB underlying40 O (some ⟨b,G,none⟩) n c .i64 (n:Int) n rfl hc W;have z:(if (n:Int) < 512 then (n:Int) else 512)=(n:Int):=by split<;>omega
 have ar:¬(1048576:Int) < (n:Int):=by omega
 have aq:(0:Int) < (n:Int):=by omega
 clear hi K U Y hx M;go_enter func180,ntmps180;go_upto_region 6 with fail
 go_loopw [0,6] (fun x v wr=>BkP (some ⟨b,G,none⟩) n c xs w (w.alloc (.cells #[] 9)) (.slice (some ⟨w.heap.size,0,none⟩) 0 0) x v wr) (fun x _ _=>ycp x)
 case atStart=>exact .inl ⟨rfl,rfl,rfl⟩
 case round=>
  rcases hrel with ⟨rfl,rfl,rfl⟩ |⟨A',c',rfl,HO,HB⟩
  ·go_upto_region 9 with (first
    |(go_at_call 157;(with_reducible refine HC.out.mono ?_);rintro e w1 ⟨rfl,T⟩
      have HB1:=lh T;have N:Hid (Own fT 9 w1 w.heap.size (.slice (some ⟨w.heap.size,0,none⟩) 0 0) []):=am.out.on HB1.out;have HS1:Hid (w.heap.size<=w1.heap.size):=lT H.out.size HB1.out.size
      clear T)
    |(at_builtin;(with_reducible refine ybk (o:=⟨some 27,_,_,_,_,_⟩) rfl (.tmp 21) (.tmp 26) 24 rfl 9 i0 (.string ⟨#[]⟩) 16 underlying24 HI.out af.out aj.out ak.out rfl _ [] w.heap.size rfl N.out (leafS xs) 1 rfl fT1 de de HS1.out ?_);intro v2 w2 ae ah ao
      have aa:Hid (Below w.heap.size w w2):=(bt H.out HB1.out).trans (ybe ah.out (fun j hj=>(ol N.out j hj).1) HS1.out)))
   have ai:=fun W=>ybv (P:=prog) 40 5 iB underlying40 O ag (some ⟨b,G,none⟩) n c .i64 (n:Int) n rfl nl hc W;obtain ⟨A2,Z⟩:∃A2,A2=if c=n then (some ⟨b,G,none⟩:Option Addr) else (some ⟨b,G,none⟩:Option Addr).map (·.add n):=⟨_,rfl⟩
   obtain ⟨c2,L⟩:∃c2,c2=c - n:=⟨_,rfl⟩
   rw [<-Z,Nat.sub_self,<-L] at ai;clear Z L ac z;go_wp2
   all_goals refine ⟨?rel,?measure⟩
   all_goals first
    |exact .inr ⟨_,_,rfl,ae,aa⟩
    |exact h0
  ·go_wp2;go_ret2;exact ⟨_,rfl,HO.out,HB.out⟩
theorem rroot_one (A:Option Addr) (c B:Nat) (s:ByteArray) (w:World) (G:Sl fT w B A 1 [s]):
 Calls prog 65 #[.slice A 1 c] w fun e K=>e= .returned (.string s)/\w=K:=by
 obtain ⟨b,L,x,rfl,_,H,J⟩:=G.2.at_ (k:=0) sI;simp at H;subst H;rw [Nat.add_zero] at J;clear G;go_enter func65,ntmps65;go_wp2_with fail;go_ret;exact ⟨rfl,rfl⟩
theorem rof_one (A:Option Addr) (n c B:Nat) (xs:List Int) (w:World) (W:n<=c) (K:Sl fB w B A n xs) (T:B<=w.heap.size) (h0:0 < n) (hl:n<=512) (J:Byt xs):
 Calls prog 122 #[.slice A n c,.int .i64 512] w fun e U=>e= .returned (.tuple #[.string (leafS xs),.int .i64 0])/\Below w.heap.size w U:=by
 have HC:=lh (rblocks_one A n c B xs w W K T h0 hl J);clear K J;go_enter func122,ntmps122
 go_wp2_with (first
  |(go_at_call 180;(with_reducible refine HC.out.mono ?_);rintro e w1 ⟨v,rfl,O,M⟩
    have HB:=lh M;obtain ⟨L,c1,G,_,H,_⟩:=O.shape;have N:=lh (rroot_one L c1 w1.heap.size (leafS xs) w1 ⟨rfl,H⟩);replace G:v= .slice L 1 c1:=G;subst G
    clear O M H)
  |(go_at_call 65;(with_reducible refine N.out.mono ?_);rintro e Y ⟨rfl,rfl⟩))
 go_ret2;exact ⟨rfl,HB.out⟩
theorem mblocks_one (A:Option Addr) (n c B:Nat) (xs:List Int) (w:World) (hG:Glob w) (hc:n<=c) (hx:Sl fB w B A n xs) (hB:B<=w.heap.size) (h0:0 < n) (hl:n<=512) (L:Byt xs):
 Calls prog 166 #[.slice A n c,.int .i64 512] w fun e H=>∃v,e= .returned (.tuple #[v,.int .i64 0])/\Own fT 9 H w.heap.size v [leafS xs]/\Below w.heap.size w H:=by
 obtain ⟨i0,hi,J,U,Y⟩:=info_parts Tryz.infoS;have HI:=lh hi;have ag:=lh J;have ak:=lh U;have am:=lh Y;obtain ⟨iB,O,_,ah,_⟩:=info_parts Tryz.infoB;obtain ⟨b,G,rfl,ae⟩:=hx.at0 h0;have M:Hid (Below w.heap.size w w):=Below.refl _ _;have ao:Hid (Own fT 9 w w.heap.size (.slice none 0 0) []):=Own.nil
 have HC:Hid (Calls prog 151 #[.slice (some ⟨b,G,none⟩) n c] w fun e H=>e= .returned (.string (leafS xs))/\Below w.heap.size w H):=
  ydm (some ⟨b,G,none⟩) n c B xs w hG hx hc hB om L (fun a ha=>by injection ha with ha;subst ha;exact Nat.lt_of_lt_of_le ae hB)
 have ac:=fun W=>ybW (P:=prog) 40 5 iB underlying40 O (some ⟨b,G,none⟩) n c .i64 (n:Int) n rfl hc W;have z:(if (n:Int) < 512 then (n:Int) else 512)=(n:Int):=by split<;>omega
 have ar:¬(1048576:Int) < (n:Int):=by omega
 have aq:(0:Int) < (n:Int):=by omega
 clear hi J U Y hx L hG;go_enter func166,ntmps166;go_upto_region 6 with fail
 go_loopw [0,6] (fun x v wr=>BkP (some ⟨b,G,none⟩) n c xs w w (.slice none 0 0) x v wr) (fun x _ _=>ycp x)
 case atStart=>exact .inl ⟨rfl,rfl,rfl⟩
 case round=>
  rcases hrel with ⟨rfl,rfl,rfl⟩ |⟨A',c',rfl,HO,HB⟩
  ·go_upto_region 9 with (first
    |(go_at_call 151;(with_reducible refine HC.out.mono ?_);rintro e w1 ⟨rfl,T⟩
      have HB1:=lh T;have N:Hid (Own fT 9 w1 w.heap.size (.slice none 0 0) []):=ao.out.on HB1.out;have HS1:Hid (w.heap.size<=w1.heap.size):=lT M.out.size HB1.out.size
      clear T)
    |(at_builtin;(with_reducible refine ybk (o:=⟨some 26,_,_,_,_,_⟩) rfl (.tmp 20) (.tmp 25) 24 rfl 9 i0 (.string ⟨#[]⟩) 16 underlying24 HI.out ag.out ak.out am.out rfl _ [] w.heap.size rfl N.out (leafS xs) 1 rfl fT1 de de HS1.out ?_);intro v2 w2 af ai ap
      have aa:Hid (Below w.heap.size w w2):=(bt M.out HB1.out).trans (ybe ai.out (fun j hj=>(ol N.out j hj).1) HS1.out)))
   have aj:=fun W=>ybv (P:=prog) 40 5 iB underlying40 O ah (some ⟨b,G,none⟩) n c .i64 (n:Int) n rfl nl hc W;obtain ⟨A2,Z⟩:∃A2,A2=if c=n then (some ⟨b,G,none⟩:Option Addr) else (some ⟨b,G,none⟩:Option Addr).map (·.add n):=⟨_,rfl⟩
   obtain ⟨c2,K⟩:∃c2,c2=c - n:=⟨_,rfl⟩
   rw [<-Z,Nat.sub_self,<-K] at aj;clear Z K ac z;go_wp2
   all_goals refine ⟨?rel,?measure⟩
   all_goals first
    |exact .inr ⟨_,_,rfl,af,aa⟩
    |exact h0
  ·go_wp2;go_ret2;exact ⟨_,rfl,HO.out,HB.out⟩
theorem mroot_one (A:Option Addr) (c B:Nat) (s:ByteArray) (w:World) (G:Sl fT w B A 1 [s]):
 Calls prog 102 #[.slice A 1 c] w fun e K=>e= .returned (.string s)/\w=K:=by
 obtain ⟨b,L,x,rfl,_,H,J⟩:=G.2.at_ (k:=0) sI;simp at H;subst H;rw [Nat.add_zero] at J;clear G;go_enter func102,ntmps102;go_wp2_with fail;go_ret;exact ⟨rfl,rfl⟩
theorem mof_one (A:Option Addr) (n c B:Nat) (xs:List Int) (w:World) (N:Glob w) (Y:n<=c) (K:Sl fB w B A n xs) (U:B<=w.heap.size) (h0:0 < n) (hl:n<=512) (J:Byt xs):
 Calls prog 101 #[.slice A n c,.int .i64 512] w fun e W=>e= .returned (.tuple #[.string (leafS xs),.int .i64 0])/\Below w.heap.size w W:=by
 have HC:=lh (mblocks_one A n c B xs w N Y K U h0 hl J);clear K J N;go_enter func101,ntmps101
 go_wp2_with (first
  |(go_at_call 166;(with_reducible refine HC.out.mono ?_);rintro e w1 ⟨v,rfl,T,M⟩
    have HB:=lh M;obtain ⟨L,c1,G,_,H,_⟩:=T.shape;have O:=lh (mroot_one L c1 w1.heap.size (leafS xs) w1 ⟨rfl,H⟩);replace G:v= .slice L 1 c1:=G;subst G
    clear T M H)
  |(go_at_call 102;(with_reducible refine O.out.mono ?_);rintro e Z ⟨rfl,rfl⟩))
 go_ret2;exact ⟨rfl,HB.out⟩
theorem psum_one (A:Option Addr) (n c B:Nat) (xs:List Int) (w:World) (M:n<=c) (H:Sl fB w B A n xs) (K:B<=w.heap.size) (h0:0 < n) (hl:n<=512) (G:Byt xs):
 Calls prog 64 #[.slice A n c] w fun e L=>e= .returned (.string (leafS xs))/\Below w.heap.size w L:=by
 have HC:=lh (rof_one A n c B xs w M H K h0 hl G);clear H G;go_enter func64,ntmps64
 go_wp2_with (first
  |(go_at_call 122;(with_reducible refine HC.out.mono ?_);rintro e w1 ⟨rfl,J⟩
    have HB:=lh J
    clear J))
 go_ret;exact ⟨rfl,HB.out⟩
open Go.RowKit Go.Lib
theorem baOf_size (xs:List Int):(baOf xs).size=xs.length:=by
 unfold baOf strOfNums;rw [<-ByteArray.size_data];simp
theorem leafS_size (xs:List Int):(leafS xs).size=32:=by unfold leafS;rw [baOf_size,ycq]
theorem vf_any (s:ByteArray) (w:World) (hs:s.size=32):Calls prog 100 #[.string s] w fun e w'=>e= .returned (.bool false)/\w=w':=by
 go_enter func100,ntmps100;go_wp2;go_ret;exact ⟨rfl,rfl⟩
theorem indexF_one (A:Option Addr) (c B:Nat) (s:ByteArray) (w:World) (G:Sl fT w B A 1 [s]) (hs:s.size=32):
 Calls prog 165 #[.slice A 1 c,.func (.func 100) #[] #[]] w fun e K=>e= .returned (.int .i64 (-1))/\w=K:=by
 obtain ⟨b,L,x,rfl,_,H,J⟩:=G.2.at_ (k:=0) sI;simp at H;subst H;rw [Nat.add_zero] at J;have HC:=lh (fun W=>vf_any s W hs);clear G;go_enter func165,ntmps165;go_wp2
 go_loopw [8] (fun i wr=>(i= .int .i64 0∨i= .int .i64 1)/\w=wr) (fun i _=>1 - (intOf i).toNat)
 case atStart=>exact ⟨.inl rfl,rfl⟩
 case round=>
  obtain ⟨rfl |rfl,rfl⟩:=hrel
  ·go_wp2_with (first
    |(go_at_call 100;(with_reducible refine (HC.out _).mono ?_);rintro e w1 ⟨rfl,rfl⟩))
   refine ⟨?rel,?measure⟩;case rel=>first |exact ⟨.inr rfl,rfl⟩ |simp
   case measure=>simp [intOf]
  ·go_wp2;go_ret;exact ⟨rfl,rfl⟩
theorem containsF_one (A:Option Addr) (c B:Nat) (s:ByteArray) (w:World) (G:Sl fT w B A 1 [s]) (hs:s.size=32):
 Calls prog 99 #[.slice A 1 c,.func (.func 100) #[] #[]] w fun e H=>e= .returned (.bool false)/\w=H:=by
 have HC:=lh (indexF_one A c B s w G hs);clear G;go_enter func99,ntmps99
 go_wp2_with (first
  |(go_at_call 165;(with_reducible refine HC.out.mono ?_);rintro e w1 ⟨rfl,rfl⟩))
 go_ret;exact ⟨rfl,rfl⟩
theorem verify_one (n c K B:Nat) (A A':Option Addr) (xs:List Int) (w:World) (hG:Glob w) (hc:n<=c) (hx:Sl fB w B A n xs) (T:Sl fT w B A' 1 [leafS xs]) (M:B<=w.heap.size) (h0:0 < n) (hl:n<=512) (Y:Byt xs):
 Calls prog 48 #[.agg #[.string (leafS xs),.int .i64 0,.slice A n c,.slice A' 1 K]] w fun e w'=>e= .returned (.bool true)/\Below w.heap.size w w':=by
 have hs:=leafS_size xs;obtain ⟨b,G,x,ag,ac,hg,N⟩:=T.2.at_ (k:=0) sI;simp at hg;subst hg;subst ag;have H:Below w.heap.size w (w.alloc (.cells #[.string (leafS xs),.int .i64 0,.slice A n c,.slice (some ⟨b,G,none⟩) 1 K] 42)):=bl;have HB1:=lh H;have HC:=lh (containsF_one (some ⟨b,G,none⟩) K B (leafS xs) _ (T.up H M) hs);have z:=lh (mof_one A n c B xs _ (hG.on H) hc (hx.up H M) (lT M H.size) h0 hl Y);have HY:=lh T;have ah:=lh M;have aa:Hid (b < w.heap.size):=Nat.lt_of_lt_of_le ac M;obtain ⟨s,U⟩:∃s,s=leafS xs:=⟨_,rfl⟩
 rw [<-U] at HC z HY hs N HB1 ⊢;have ak:(1:Int)<=(n:Int):=by omega
 have ai:(n:Int)<=65536:=by omega
 clear H hG hx T Y U;go_enter func48,ntmps48
 go_upto_region 8 with (first
  |(go_at_call 99;(with_reducible refine HC.out.mono ?_);rintro e w1 ⟨rfl,ae⟩;subst ae)
  |(go_at_call 101;(with_reducible refine z.out.mono ?_);rintro e J ⟨rfl,Z⟩
    have W:=lh Z
    clear Z))
 have L:Hid (Below w.heap.size w J):=HB1.out.trans (W.out.mono sI);have O:J.heap[w.heap.size]? =some (.cells #[.string s,.int .i64 0,.slice A n c,.slice (some ⟨b,G,none⟩) 1 K] 42 (0,0)):=(W.out.block _ sI).trans (zy w _);have e0:=zz J w.heap.size 0 _ _ _ O;have e1:=zz J w.heap.size 1 _ _ _ O;have e3:=zz J w.heap.size 3 _ _ _ O;simp at e0 e1 e3;have aj:J.cell? ⟨b,G,none⟩=some (.string s):=(L.out.cell (p:=⟨b,G,none⟩) aa.out).trans N;have af:Hid (∀n,Calls prog 102 #[.slice (some ⟨b,G,none⟩) 1 K] (J.drewN n) fun e w'=>e= .returned (.string s)/\J.drewN n=w'):=fun n=>mroot_one (some ⟨b,G,none⟩) K B s (J.drewN n) (HY.out.up (ybd L.out n) ah.out);clear O N;go_quiet ((go_at_call 102;with_reducible exact Calls.quiet_of_same (same_of (af.out _))));go_wp2;go_ret;exact ⟨rfl,ybd L.out _⟩
def ybZ (s:ByteArray) (n:Int):Array Value:=#[.int .i64 0,.int .i64 0,.int .i64 2,.int .i64 0,.string s,.int .i64 0,.int .i64 n,.int .i64 0,.int .i64 0,.int .i64 0,.int .i64 0,.string ⟨#[]⟩,.slice none 0 0,.int .i64 0,.slice none 0 0,.slice none 0 0,.string ⟨#[]⟩,.int .i64 0,.string ⟨#[]⟩,.string ⟨#[]⟩]
theorem acquits_one (n c N B:Nat) (A H:Option Addr) (xs:List Int) (w:World) (U:Glob w) (Z:n<=c) (O:Sl fB w B A n xs) (T:Sl fT w B H 1 [leafS xs]) (M:B<=w.heap.size) (h0:0 < n) (hl:n<=512) (K:Byt xs):
 Calls prog 15 #[.agg (ybZ (leafS xs) n),.agg #[.string (leafS xs),.int .i64 0,.slice A n c,.slice H 1 N]] w fun e Y=>e= .returned (.bool true)/\Below w.heap.size w Y:=by
 have G:Below w.heap.size w ((w.alloc (.cells (ybZ (leafS xs) n) 39)).alloc (.cells #[.string (leafS xs),.int .i64 0,.slice A n c,.slice H 1 N] 42)):=bl.alloc sI _;have HB1:=lh G;have HC:=lh (verify_one n c N B A H xs _ (U.on G) Z (O.up G M) (T.up G M) (lT M G.size) h0 hl K);obtain ⟨s,L⟩:∃s,s=leafS xs:=⟨_,rfl⟩
 rw [<-L] at HC HB1 ⊢;clear G U O T K L;unfold ybZ at HC HB1 ⊢;go_enter func15,ntmps15
 go_wp2_with (first
  |(go_at_call 48;(with_reducible refine HC.out.mono ?_);rintro e w1 ⟨rfl,J⟩
    have W:=lh J
    clear J))
 go_ret;exact ⟨rfl,HB1.out.trans (W.out.mono yba)⟩
theorem one_str (w:World) (s:ByteArray):Sl fT (w.alloc (.cells #[.string s] 9)) (w.heap.size+1) (some ⟨w.heap.size,0,none⟩) 1 [s]:=
 ⟨rfl,SL.of_block (t:=9) (fr:=(0,0)) (zy w _) (Nat.lt_succ_self _)⟩
theorem Tryz.sizePiece:(prog.info? 42).map (·.size)=some 4:=by kernel_rfl
theorem pc_size (s:ByteArray) (A A':Option Addr) (n c n' c':Nat):(prog.info? 42).map (·.size)=some (#[.string s,.int .i64 0,.slice A n c,.slice A' n' c']:Array Value).size:=Tryz.sizePiece
theorem pc_sz (s:ByteArray) (A G:Option Addr) (n c H J:Nat):(#[.string ⟨#[]⟩,.int .i64 0,.slice none 0 0,.slice none 0 0]:Array Value).size=(#[.string s,.int .i64 0,.slice A n c,.slice G H J]:Array Value).size:=rfl
theorem pc_one (s:ByteArray) (A H:Option Addr) (n c J K:Nat):(#[.string s,.int .i64 0,.slice A n c,.slice H J K]:Array Value).all (·.oneCell')=true:=by
 rw [Array.all_eq_true'];intro x G;simp at G;rcases G with rfl |rfl |rfl |rfl<;>rfl
theorem piece_any (A:Option Addr) (n c B:Nat) (xs:List Int) (w:World) (Z:n<=c) (U:Sl fB w B A n xs) (W:B<=w.heap.size) (h0:0 < n) (hl:n<=512) (M:Byt xs):
 Calls prog 29 #[.slice A n c] w fun e O=>∃A',e= .returned (.agg #[.string (leafS xs),.int .i64 0,.slice A n c,.slice A' 1 1])/\Sl fT O O.heap.size A' 1 [leafS xs]/\Below w.heap.size w O:=by
 have G:Below w.heap.size w (w.alloc (.cells #[.string ⟨#[]⟩,.int .i64 0,.slice none 0 0,.slice none 0 0] 42)):=bl;have HC:=lh (psum_one A n c B xs _ Z (U.up G W) (lT W G.size) h0 hl M);have H:=lh G;obtain ⟨s,N⟩:∃s,s=leafS xs:=⟨_,rfl⟩
 rw [<-N] at HC ⊢;clear G U M N;go_enter func29,ntmps29
 go_wp2_with (first
  |(go_at_call 64;(with_reducible refine HC.out.mono ?_);rintro e w1 ⟨rfl,K⟩
    have HB1:=lh K;have J:Hid (w1.heap[w.heap.size]? =some (.cells #[.string ⟨#[]⟩,.int .i64 0,.slice none 0 0,.slice none 0 0] 42 (0,0))):=(K.block _ sI).trans (zy w _);have T:=lh (rroot_one (some ⟨w1.heap.size,0,none⟩) 1 _ s _ (one_str w1 s));have HG3:Hid (((w1.alloc (.cells #[.string s] 9)).alloc (.cells #[.string s] 9)).heap[w.heap.size]? =some (.cells #[.string ⟨#[]⟩,.int .i64 0,.slice none 0 0,.slice none 0 0] 42 (0,0))):=(zx _ _ _ (Nat.lt_of_lt_of_le (lb J.out) sI)).trans ((zx _ _ _ (lb J.out)).trans J.out)
    clear K)
  |(go_at_call 65;(with_reducible refine T.out.mono ?_);rintro e z ⟨rfl,Y⟩;subst Y)
  |((with_reducible refine ybc (o:=⟨none,_,_,_,_,_⟩) rfl 42 (.tmp 2) (.tmp 13) rfl w.heap.size 42 _ _ rfl rfl HG3.out (pc_size _ _ _ _ _ _ _) (pc_sz _ _ _ _ _ _ _) (pc_one _ _ _ _ _ _ _) ?_);intro W7 HG7 HB7))
 have L:Below w.heap.size w ((w1.alloc (.cells #[.string s] 9)).alloc (.cells #[.string s] 9)):=((H.out.trans (HB1.out.mono sI)).alloc (H.out.trans (HB1.out.mono sI)).size _).alloc (by have:=(H.out.trans (HB1.out.mono sI)).size;simp;omega) _;refine bodyPost_ret (results_cell_row rfl _ _ _ _ _ _ _ rfl HG7.out underlying42 rfl (pc_size _ _ _ _ _ _ _)) rfl ⟨_,rfl,?_,L.trans (HB7.out.below L.size (fun i hi=>Nat.le_of_eq hi.symm))⟩;refine ⟨rfl,SL.of_block (t:=9) (fr:=(0,0)) (g:=w1.heap.size+1) ((HB7.out.block _ sI (by have:=H.out.size;have:=HB1.out.size;simp at*;omega)).trans (heap_alloc2_new w1 _ _)) (Nat.lt_of_lt_of_le sI HB7.out.size)⟩
open Go.ChangeShapes Go.WideShapes Go.ChangeAt Go.WideMaps Go.WideElems Go.RowKit
theorem gInit:prog.globalNamed "kinkeep/sha256.initial" =some 0:=by kernel_rfl
theorem gCons:prog.globalNamed "kinkeep/sha256.constants" =some 1:=by kernel_rfl
theorem tInit:(prog.globals[0]?).map (·.type)=some 251:=by kernel_rfl
theorem tCons:(prog.globals[1]?).map (·.type)=some 293:=by kernel_rfl
abbrev laidTs {H:Type}:List (String × DataW H):=[("kinkeep/sha256.initial",Rows.laid_kinkeep_sha256_initial),("kinkeep/sha256.constants",Rows.laid_kinkeep_sha256_constants)]
theorem door_met (os:Os) (args:Array Value):laidMetH prog laidTs ((World.doorLaid prog 400 os).forCall (fun _ _=>0) ⟨#[],args,[]⟩).memory:=
 laidMetH_of_parts3 (fuel:=8) (laidMet_of_run' 8 ya9 ya9) ya9 ya9
theorem c32:prog.cellsOf 250=1:=by kernel_rfl
theorem cells_tab {W:World} {m:Nat} {cs:List Value} {xs:List (DataW Unit × List MemPlace)} {tab:List Int} {n:Nat} {D:DataW Unit} (N:D= .agg (tab.map fun x=> .lit (.int .u32 x))) {p:List MemPlace} (G:(D,p)=(DataW.agg (xs.map fun x=>x.fst),xs.flatMap fun x=>x.snd)) (hn:xs.length=n)
 (H:∀i,i < n->DataW.trod (fun _=>()) prog W 0 (fun _=>true) false m 250 ((cs.drop (i*prog.cellsOf 250)).take (prog.cellsOf 250))=xs[i]?) (i:Nat) (x:Int) (hi:tab[i]? =some x):cs[i]? =some (U32 x):=by
 simp only [Prod.mk.injEq] at G;have h1:=G.1;rw [N] at h1;injection h1 with h1;have h2:=congrArg (fun l=>l[i]?) h1;simp only [List.getElem?_map,hi,Option.map_some] at h2
 cases hd:xs[i]? with
 |none=>rw [hd] at h2;cases h2
 |some d=>
  rw [hd] at h2;simp only [Option.map_some,Option.some.injEq] at h2;have L:i < n:=by rw [<-hn];exact (List.getElem?_eq_some_iff.1 hd).1
  have K:=H i L;rw [hd,c32,Nat.mul_one] at K;obtain ⟨k,M,O,_⟩:=DataW.trod_int underlying250 K;rw [O] at h2;injection h2 with h2;injection h2 with _ h2;subst h2;have J:=congrArg List.head? M;rw [List.head?_take] at J;simpa using J
theorem glob_of_laid {W:World} (h:laidMetH prog laidTs W):Glob W:=by
 rw [MakeChecks.laidMetH_plain _ _ _ ya9] at h;obtain ⟨ps,⟨Z,t0,ai,f0,p0,q0,G,U,aa,Y,⟨g1,t1,ag,f1,p1,q1,H,T,L,z,_,_⟩,_⟩,_,_⟩:=h;obtain rfl:=Option.some.inj (gInit.symm.trans G);obtain rfl:=Option.some.inj (gCons.symm.trans H);obtain rfl:=Option.some.inj (tInit.symm.trans U);obtain rfl:=Option.some.inj (tCons.symm.trans T);obtain ⟨aj,m0,rfl,ac,ae,O,J⟩:=DataW.trod_array underlying251 Y;obtain ⟨ah,m1,rfl,N,af,M,K⟩:=DataW.trod_array underlying293 z;have Z:=cells_tab (tab:=hTab.list) (by rfl) ac O J;have g1:=cells_tab (tab:=kTab) (by rfl) N M K
 have c0:∀(i:Nat) (x:Int),hTab.list[i]? =some x->W.cell? ⟨0,i,none⟩=some (U32 x):=fun i x hi=>by
  have h1:=World.var?_cell G aa i;rw [h1];have:=Z i x hi;simpa using this
 have c1:∀(i:Nat) (x:Int),kTab[i]? =some x->W.cell? ⟨1,i,none⟩=some (U32 x):=fun i x hi=>by
  have h1:=World.var?_cell H L i;rw [h1];have:=g1 i x hi;simpa using this
 refine ⟨c1,c0,?_⟩;have h:=c1 0 _ rfl;rcases Nat.lt_or_ge 1 W.heap.size with h1 |h1
 ·exact h1
 ·exfalso;unfold World.cell? at h;rw [Array.getElem?_eq_none h1] at h;cases h
