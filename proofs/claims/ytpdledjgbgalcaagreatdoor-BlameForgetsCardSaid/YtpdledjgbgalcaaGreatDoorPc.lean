/- Merkle leaves and roots of one block: the program's and the reference's. The set of pieces: a map from piece IDs to bools. Maps whose elements are one value each (a slice, a bool): what a key holds; keys of two and of three ints. Roles of blocks: what a write keeps. What the row's premise on package sha256's tables gives the walks. -/
import Derived.Test.YtpdledjgbgalcaaGreatDoorPb
import Derived.DeepKeys4
import Derived.WideKeyArgs2
import Derived.Maps.Own
import Derived.Maps.OwnIn
import Derived.Maps.OwnSet
import Derived.Maps.Views
import Derived.WideKeyEntry
import Derived.Test.YtpdledjgbgalcaaGreatDoorRows
import Derived.ProofKit
import Derived.LaidMore
import Derived.OpenShut
import Derived.Stop.Joined
namespace Go.Proofs.YtpdledjgbgalcaaGreatDoor
set_option maxRecDepth 100000
set_option maxHeartbeats 4000000
open Go.RowKit
set_option linter.unusedVariables false
set_option linter.unusedSimpArgs false
abbrev fT:ByteArray→Value:=Value.string
theorem fT1:∀y,(fT y).oneCell'=true:=fun _=>rfl
theorem Tryz.infoS:(Tryz.prog.info? 9).map (fun i=>(i.zero,i.size,i.bytes))=some (some (.string ⟨#[]⟩),1,16):=by kernel_rfl
def Glob (w:World):Prop:=KTab w∧(∀(i:Nat) (x:Int),hTab.list[i]? =some x→w.cell? ⟨0,i,none⟩=some (U32 x))∧1 < w.heap.size
theorem Glob.up {w w':World} {B:Nat} (h:Glob w) (hb:Below B w w') (hB:1 < B):Glob w':=
 ⟨fun i x hx=>(hb.cell (p:=⟨1,i,none⟩) hB).trans (h.1 i x hx),fun i x hx=>(hb.cell (p:=⟨0,i,none⟩) (Nat.lt_trans Nat.zero_lt_one hB)).trans (h.2.1 i x hx),Nat.lt_of_lt_of_le h.2.2 hb.size⟩
theorem Glob.on {w w':World} (h:Glob w) (hb:Below w.heap.size w w'):Glob w':=h.up hb h.2.2
def zeros64:List Int:=List.replicate 64 0
def newSt:Obj:= .cells (yce hTab zeros64 0) 302
theorem newSt_St (w:World):St (w.alloc newSt) w.heap.size []:=⟨zeros64,rfl,fun x hx=>by rw [(List.mem_replicate.1 hx).2];omega,(fun x hx=>by cases hx),heap_alloc_new w _,rfl⟩
theorem newEq:yce hTab zeros64 0=((((((((Tryz.zeroCells302.setIfInBounds 0 (U32 hTab.a)).setIfInBounds 1 (U32 hTab.b)).setIfInBounds 2 (U32 hTab.c)).setIfInBounds 3 (U32 hTab.d)).setIfInBounds 4 (U32 hTab.e)).setIfInBounds 5 (U32 hTab.f)).setIfInBounds 6 (U32 hTab.g)).setIfInBounds 7 (U32 hTab.h)):=by kernel_rfl
theorem stNew_any (w:World) (h:Glob w):Calls Tryz.prog 198 #[] w fun e w'=>e= .returned (.pointer (some ⟨w.heap.size,0,none⟩))∧w.alloc newSt=w':=by
 have c0:=h.2.1 0 _ rfl;have c1:=h.2.1 1 _ rfl;have c2:=h.2.1 2 _ rfl;have c3:=h.2.1 3 _ rfl;have c4:=h.2.1 4 _ rfl;have c5:=h.2.1 5 _ rfl;have c6:=h.2.1 6 _ rfl;have c7:=h.2.1 7 _ rfl;clear h;go_enter Tryz.func198,Tryz.ntmps198;go_wp2;go_ret;exact ⟨rfl,congrArg (fun c=>w.alloc (.cells c 302)) newEq⟩
theorem ycU (A:Option Addr) (n c B:Nat) (xs:List Int) (w:World) (hG:Glob w) (hx:Sl fB w B A n xs) (hc:n≤c) (hB:B≤w.heap.size) (hl:n≤549755813887) (hxb:Byt xs) (hA:∀a,A=some a→a.block < w.heap.size):
 Calls Tryz.prog 151 #[.slice A n c] w fun e w'=>e= .returned (.string (baOf (shaB (0::xs))))∧Below w.heap.size w w':=by
 have HC0:=lh (stNew_any w hG);have HGl:=lh hG;have HX:=lh hx;have HXB:=lh hxb;have HA:=lh hA
 have H1:Hid (Calls Tryz.prog 199 #[.pointer (some ⟨w.heap.size,0,none⟩),.slice (some ⟨w.heap.size+1,0,none⟩) 1 1] ((w.alloc newSt).alloc (.cells #[.int .u8 0] 5)) fun e w'=>e= .returned (.tuple #[])∧St w' w.heap.size [0]∧But (fun k=>k=w.heap.size) ((w.alloc newSt).alloc (.cells #[.int .u8 0] 5)) w'):=by
  have hb:Below w.heap.size w ((w.alloc newSt).alloc (.cells #[.int .u8 0] 5)):=bl.alloc sI _;have hs:Sl fB ((w.alloc newSt).alloc (.cells #[.int .u8 0] 5)) (w.heap.size+2) (some ⟨w.heap.size+1,0,none⟩) 1 [0]:=⟨rfl,SL.of_block (t:=5) (fr:=(0,0)) (heap_alloc2_new w _ _) om⟩;exact yco w.heap.size [] [0] _ 1 1 (w.heap.size+2) _ ((newSt_St w).but ((But.refl (fun _=>False) _).alloc _) (fun h=>h)) hs nl sI (fun x hx=>by rw [List.mem_singleton.1 hx];omega) (fun a ha=>by injection ha with ha;subst ha;exact Nat.succ_ne_self _) sI (hG.on hb).1 (hG.on hb).2.2 (Nat.ne_of_gt hG.2.2)
 have H2:Hid (∀w1,St w1 w.heap.size [0]→Below w.heap.size w w1→Calls Tryz.prog 199 #[.pointer (some ⟨w.heap.size,0,none⟩),.slice A n c] w1 fun e w'=>e= .returned (.tuple #[])∧St w' w.heap.size (0::xs)∧But (fun k=>k=w.heap.size) w1 w'):=fun w1 h1 hb=>
  yco w.heap.size [0] xs A n c B w1 h1 (hx.up hb hB) hc (Nat.le_trans hB hb.size) hxb (fun a ha=>Nat.ne_of_lt (hA a ha)) (by rw [hx.1];simp;omega) (hG.on hb).1 (hG.on hb).2.2 (Nat.ne_of_gt hG.2.2)
 have H3:Hid (∀w2,St w2 w.heap.size (0::xs)→Below w.heap.size w w2→Calls Tryz.prog 200 #[.pointer (some ⟨w.heap.size,0,none⟩)] w2 fun e w'=>e= .returned (.string (baOf (shaB (0::xs))))∧Below w2.heap.size w2 w'):=fun w2 h2 hb=>
  sum_any w.heap.size (0::xs) w2 h2 (by rw [List.length_cons,hx.1];omega) (hG.on hb).1 (hG.on hb).2.2
 clear hG hx hxb hA;go_enter Tryz.func151,Tryz.ntmps151
 go_wp2_with (first
  |(go_at_call 198;(with_reducible refine HC0.out.mono ?_);rintro e w0 ⟨rfl,hw0⟩;subst hw0)
  |(go_at_call 199;(with_reducible refine H1.out.mono ?_);rintro e w1 ⟨rfl,hs1,hb1⟩
    have HS1:=lh hs1;have HB1:Hid (Below w.heap.size w w1):=((br.alloc nl newSt).alloc sI (.cells #[.int .u8 0] 5)).trans (hb1.below yaW (fun i hi=>Nat.le_of_eq hi.symm))
    clear hs1 hb1)
  |(go_at_call 199;(with_reducible refine (H2.out w1 HS1.out HB1.out).mono ?_);rintro e w2 ⟨rfl,hs2,hb2⟩
    have HS2:=lh hs2;have HB2:Hid (Below w.heap.size w w2):=HB1.out.trans (hb2.below HB1.out.size (fun i hi=>Nat.le_of_eq hi.symm))
    clear hs2 hb2)
  |(go_at_call 200;(with_reducible refine (H3.out w2 HS2.out HB2.out).mono ?_);rintro e w3 ⟨rfl,hb3⟩
    have HB3:=lh hb3
    clear hb3))
 go_ret;exact ⟨rfl,HB2.out.trans (HB3.out.mono HB2.out.size)⟩
theorem rleaf_any (A:Option Addr) (n c B:Nat) (xs:List Int) (w:World) (hx:Sl fB w B A n xs) (hB:B≤w.heap.size) (hl:n≤549755813887) (hxb:Byt xs):
 Calls Tryz.prog 157 #[.slice A n c] w fun e w'=>e= .returned (.string (baOf (shaB (0::xs))))∧Below w.heap.size w w':=by
 obtain ⟨i0,hi,hz0,hz1,hz2⟩:=info_parts Tryz.infoB;have HI:=lh hi;have HZ0:=lh hz0;have HZ1:=lh hz1;have HZ2:=lh hz2;have HO0:Hid (Own fB 5 (w.alloc (.cells #[.int .u8 0] 5)) w.heap.size (.slice (some ⟨w.heap.size,0,none⟩) 1 1) [0]):=World.ownsRow_lit w #[.int .u8 0] 1 nl yaS rfl;have HB0:Hid (Below w.heap.size w (w.alloc (.cells #[.int .u8 0] 5))):=bl;have HX0:Hid (Sl fB (w.alloc (.cells #[.int .u8 0] 5)) B A n xs):=hx.up HB0.out hB;have HXN:Hid (xs.length=n):=hx.1;have HL1:Hid ((([0]:List Int).length+xs.length)*1≤140737488355328):=by show _≤_;rw [hx.1];simp;omega
 have HL2:Hid (([0]:List Int).length+xs.length≤maxLen):=by show _≤_;rw [hx.1];unfold maxLen;simp;omega
 have HSz:Hid (w.heap.size≤(w.alloc (.cells #[.int .u8 0] 5)).heap.size):=by show _≤_;simp
 have HXB:=lh hxb;clear hi hz0 hz1 hz2 hx hxb;go_enter Tryz.func157,Tryz.ntmps157
 go_wp2_with (first
  |(at_builtin;(with_reducible refine ya8 (o:=⟨some 5,_,_,_,_,_⟩) rfl (.tmp 3) (.tmp 4) 40 rfl 5 i0 (.int .u8 0) 1 Tryz.underlying40 HI.out HZ0.out HZ1.out HZ2.out rfl _ [0] w.heap.size rfl HO0.out _ _ _ B xs rfl HX0.out fB1 HL1.out HL2.out HSz.out ?_);intro v1 w1 HO1 HG1 HV1
    have HB1:Hid (Below w.heap.size w w1):=HB0.out.trans (yaY HG1.out (fun j hj=>(World.ownsRow.lt HO0.out j hj).1) HSz.out);obtain ⟨A1,c1,hv1,hc1,hs1,_⟩:=HO1.out.shape;have hl1:([0]++xs:List Int).length=n+1:=by rw [List.length_append,HXN.out];exact Nat.add_comm ..
    rw [hl1] at hv1;subst hv1;have HC:=lh (ycg A1 (n+1) c1 w1.heap.size ([0]++xs) w1 ⟨hl1,hs1⟩ nl om (Byt.app (fun x hx=>by rw [List.mem_singleton.1 hx];omega) HXB.out))
    clear hs1 hl1 hc1)
  |(go_at_call 123;(refine HC.out.mono ?_);rintro e w2 ⟨rfl,hb2⟩
    have HB2:=lh hb2
    clear hb2))
 go_ret;exact ⟨rfl,HB1.out.trans (HB2.out.mono HB1.out.size)⟩
theorem Pid.laid:laidOutB Tryz.prog=true:=by kernel_rfl
theorem Pid.law:Maps.Keyed Tryz.prog 31:=Maps.Keyed.of_law (deep_law_laid Pid.laid (m:=2) om (of_decide_eq_true yaV) yaV yaV)
theorem Pid.size:Tryz.prog.types.size=Tryz.prog.types.size - 2+1+1:=by
 have h:2≤Tryz.prog.types.size:=of_decide_eq_true yaV;omega
theorem Pid.keyT:Tryz.prog.keyType 31=true:=by kernel_rfl
theorem Pid.cells:Tryz.prog.cellsOf 31=2:=by kernel_rfl
theorem Pid.icells:Tryz.prog.cellsOf 3=1:=by kernel_rfl
theorem Pid.scells:Tryz.prog.cellsOf 9=1:=by kernel_rfl
def pP (s:ByteArray) (y:Int):Value:= .agg #[.string s,.int .i64 y]
noncomputable def kP (s:ByteArray) (y:Int):Lit:= .string (keyBytes [.string s.data.toList,.int .i64 y])
def int64 (x:Int):Prop:= -9223372036854775808≤x∧x≤9223372036854775807
theorem int64.wf {x:Int} (h:int64 x):(Lit.int .i64 x).wf=true:=WalkArith.wf_i64 h
def okP (s:ByteArray) (y:Int):Prop:=s.size≤maxLen∧int64 y
theorem kP_of {s:ByteArray} {y:Int} (h:okP s y):keyOf Tryz.prog 31 (pP s y)=some (kP s y):=by
 have hy:=h.2.wf;have hs:=h.1;have hf:(pP s y).formed Tryz.prog 31=true:=by simp [pP,Value.formed,Tryz.underlying31,Pid.cells]
 unfold keyOf;simp only [Tryz.underlying31];rw [if_pos (by simp [Pid.keyT,hf]),Pid.size];unfold Program.keyLits;simp only [Tryz.underlying31,Value.cells,pP];rw [if_pos (by simp [Pid.cells])];unfold Program.keyLits;simp [Tryz.underlying3,Tryz.underlying9,Pid.icells,Pid.scells,hy,hs,kP]
theorem kP_inj {x x':ByteArray} {y y':Int} (h:okP x y) (h':okP x' y') (e:kP x y=kP x' y'):x=x'∧y=y':=by
 have h1:=Pid.law.inj (kP_of h) (e▸kP_of h');simp [pP] at h1;exact h1
theorem kP_key {x:ByteArray} {y:Int} (h:okP x y):WideAt.IsKeyLit (kP x y):=Pid.law.key (kP_of h)
theorem Pid.zero (w:World):(zeroValue 4).run Tryz.prog w= .ok (.bool false) w:=by kernel_rfl
open Classical in
noncomputable def pinB (L:List (ByteArray × Int)) (p:ByteArray × Int):Bool:=decide (p∈L)
theorem ydD {L:List (ByteArray × Int)} {p:ByteArray × Int} (h:p∈L):pinB L p=true:=by unfold pinB;simp [h]
theorem pinB_no {L:List (ByteArray × Int)} {p:ByteArray × Int} (h:p∉L):pinB L p=false:=by unfold pinB;simp [h]
def MapP (w:World) (b n:Nat) (L:List (ByteArray × Int)):Prop:=
 ∃D:DataW Unit,w.ownsMap Tryz.prog 31 (plainElem Tryz.prog 4) b n D∧∀x y,okP x y→D.atKey (kP x y) (.lit (.bool false))= .lit (.bool (pinB L (x,y)))
theorem MapP.made (w:World):MapP (w.alloc (.map #[] 0)) w.heap.size 0 []:=⟨_,World.ownsMap_made w Tryz.prog _ _,fun x y _=>by rw [pinB_no sI];simp [DataW.atKey]⟩
section
variable {w w':World} {b n:Nat} {L:List (ByteArray × Int)}
theorem MapP.kept {row:Option Nat} (h:MapP w b n L) (hg:w.grownBy w' row) (hne:some b≠row):MapP w' b n L:=by
 obtain ⟨D,h1,h2⟩:=h;exact ⟨D,h1.kept hg hne,h2⟩
theorem MapP.block (h:MapP w b n L) (hb:w'.heap[b]? =w.heap[b]?):MapP w' b n L:=by
 obtain ⟨D,⟨es,ck,h1,h2⟩,h3⟩:=h;exact ⟨D,⟨es,ck,hb.trans h1,h2⟩,h3⟩
theorem MapP.lt (h:MapP w b n L):b < w.heap.size:=by
 obtain ⟨D,h1,_⟩:=h;exact h1.lt
theorem elem_bool_inv {H:Type} {P:Program} {e:TypeId} (he:P.underlying e=some .bool) {v:Value} {r:DataW H × List MemPlace} (h:plainElem P e v=some r):∃x,v= .bool x∧r=(.lit (.bool x),[]):=by
 unfold plainElem at h;rw [he] at h
 cases v<;>simp at h
 exact ⟨_,rfl,h.symm⟩
theorem look_gen {P:Program} {kt et mt:TypeId} {D:DataW Unit} (h1:w.ownsMap P kt (plainElem P et) b n D) (law:Maps.Keyed P kt) (ht:P.underlying mt=some (.map kt et)) (he:P.underlying et=some .bool)
 (hz:(zeroValue et).run P w= .ok (.bool false) w) {key:Value} {l:Lit} (hk:keyOf P kt key=some l) {x:Bool} (h2:D.atKey l (.lit (.bool false))= .lit (.bool x)):(Instr.lookup mt (.map (some b)) key false).run P w= .ok (.bool x) w:=by
 obtain ⟨v,ps,hrun,hv⟩:=h1.lookup law ht hz (plainElem_bool he false) hk;obtain ⟨c,rfl,hc⟩:=elem_bool_inv he hv;rw [h2] at hc;injection hc with hc _;injection hc with hc;injection hc with hc;rw [hrun,←hc]
theorem MapP.look (h:MapP w b n L) (x:ByteArray) (y:Int) (hx:okP x y):(Instr.lookup 150 (.map (some b)) (pP x y) false).run Tryz.prog w= .ok (.bool (pinB L (x,y))) w:=by
 obtain ⟨D,h1,h2⟩:=h;exact look_gen h1 Pid.law Tryz.underlying150 Tryz.underlying4 (Pid.zero w) (kP_of hx) (h2 x y hx)
theorem MapP.store (h:MapP w b n L) (hn:n < maxLen) (x:ByteArray) (y:Int) (hx:okP x y):
 ∃w',(Instr.mapUpdate 150 (.map (some b)) (pP x y) (.bool true)).run Tryz.prog w= .ok () w'∧MapP w' b (n+1) (L++[(x,y)])∧w.grownBy w' (some b):=by
 obtain ⟨D,h1,h2⟩:=h;obtain ⟨w',r1,r2,r3⟩:=h1.update Pid.law Tryz.underlying150 hn (kP_of hx) (plainElem_bool Tryz.underlying4 true);refine ⟨w',r1,⟨_,r2,fun u v hu=>?_⟩,r3⟩
 show _=DataW.lit (.bool (pinB (L++[(x,y)]) (u,v)))
 by_cases he:u=x∧v=y
 ·obtain ⟨rfl,rfl⟩:=he
  rw [ydD (show (u,v)∈L++[(u,v)] by simp)];exact Maps.atKey_put_same h1.isMap (kP_key hu) _ _
 ·rw [show pinB (L++[(x,y)]) (u,v)=pinB L (u,v) by
   by_cases hm:(u,v)∈L
   ·rw [ydD hm,ydD (by simp [hm])]
   ·rw [pinB_no hm,pinB_no (by simp [hm,he])],Maps.atKey_put_other (fun e=>he (kP_inj hu hx e))]
  exact h2 u v hu
end
abbrev RV (v:Value):Option (DataW Value × List MemPlace):=some (.held v,[])
open Classical in
noncomputable def putM (m:Lit→Value) (l:Lit) (v:Value):Lit→Value:=fun x=>if x=l then v else m x
theorem ycV (m:Lit→Value) (l:Lit) (v:Value):putM m l v l=v:=by unfold putM;simp
theorem ycD {m:Lit→Value} {l x:Lit} {v:Value} (h:x≠l):putM m l v x=m x:=by unfold putM;simp [h]
def MapV (w:World) (kt:TypeId) (b n:Nat) (z:Value) (m:Lit→Value):Prop:=
 ∃D:DataW Value,w.ownsMap Tryz.prog kt RV b n D∧∀l,WideAt.IsKeyLit l→D.atKey l (.held z)= .held (m l)
theorem MapV.made (w:World) (kt:TypeId) (z:Value):MapV (w.alloc (.map #[] 0)) kt w.heap.size 0 z (fun _=>z):=⟨_,World.ownsMap_made w Tryz.prog _ _,fun _ _=>by simp [DataW.atKey]⟩
section
variable {w w':World} {kt et mt:TypeId} {b n:Nat} {z:Value} {m:Lit→Value}
theorem MapV.kept {row:Option Nat} (h:MapV w kt b n z m) (hg:w.grownBy w' row) (hne:some b≠row):MapV w' kt b n z m:=by
 obtain ⟨D,h1,h2⟩:=h;exact ⟨D,h1.kept hg hne,h2⟩
theorem MapV.block (h:MapV w kt b n z m) (hb:w'.heap[b]? =w.heap[b]?):MapV w' kt b n z m:=by
 obtain ⟨D,⟨es,ck,h1,h2⟩,h3⟩:=h;exact ⟨D,⟨es,ck,hb.trans h1,h2⟩,h3⟩
theorem MapV.lt (h:MapV w kt b n z m):b < w.heap.size:=by
 obtain ⟨D,h1,_⟩:=h;exact h1.lt
theorem MapV.mono {n':Nat} (h:MapV w kt b n z m) (hn:n≤n'):MapV w kt b n' z m:=by
 obtain ⟨D,h1,h2⟩:=h;exact ⟨D,h1.mono hn,h2⟩
theorem MapV.look (h:MapV w kt b n z m) (K:Maps.Keyed Tryz.prog kt) (ht:Tryz.prog.underlying mt=some (.map kt et)) (hz:(zeroValue et).run Tryz.prog w= .ok z w) {key:Value} {l:Lit} (hk:keyOf Tryz.prog kt key=some l):
 (Instr.lookup mt (.map (some b)) key false).run Tryz.prog w= .ok (m l) w:=by
 obtain ⟨D,h1,h2⟩:=h;obtain ⟨v,ps,hrun,hv⟩:=h1.lookup K ht hz (show RV z=some (.held z,[]) from rfl) hk;have e1:DataW.held v=D.atKey l (.held z):=congrArg Prod.fst (Option.some.inj hv);have e2:DataW.held v=DataW.held (m l):=e1.trans (h2 l (K.key hk));rw [hrun,DataW.held.inj e2]
theorem MapV.put_of {D:DataW Value} (h1:w.ownsMap Tryz.prog kt RV b n D) (h2:∀l,WideAt.IsKeyLit l→D.atKey l (.held z)= .held (m l)) {w1:World} {l:Lit} (hl:WideAt.IsKeyLit l) (v:Value) (h3:w1.ownsMap Tryz.prog kt RV b (n+1) (D.put l (.held v))):MapV w1 kt b (n+1) z (putM m l v):=by
 refine ⟨_,h3,fun x hx=>?_⟩
 by_cases he:x=l
 ·rw [he,ycV]
  exact Maps.atKey_put_same h1.isMap hl _ _
 ·rw [ycD he,Maps.atKey_put_other he]
  exact h2 x hx
theorem MapV.store (h:MapV w kt b n z m) (K:Maps.Keyed Tryz.prog kt) (ht:Tryz.prog.underlying mt=some (.map kt et)) (hn:n < maxLen) {key:Value} {l:Lit} (hk:keyOf Tryz.prog kt key=some l) (v:Value):
 ∃w',(Instr.mapUpdate mt (.map (some b)) key v).run Tryz.prog w= .ok () w'∧MapV w' kt b (n+1) z (putM m l v)∧w.grownBy w' (some b):=by
 obtain ⟨D,h1,h2⟩:=h;obtain ⟨w',r1,r2,r3⟩:=h1.update K ht hn hk (show RV v=some (.held v,[]) from rfl);exact ⟨w',r1,MapV.put_of h1 h2 (K.key hk) v r2,r3⟩
theorem MapV.entry (h:MapV w kt b n z m) (K:WideMaps.KeyLaw Tryz.prog kt) (ht:Tryz.prog.underlying mt=some (.map kt et)) (hz:∀u:World,(zeroValue et).run Tryz.prog u= .ok z u) (hn:n < maxLen) {key:Value} {l:Lit} (hk:keyOf Tryz.prog kt key=some l):
 ∃(st:Nat) (es1:Array MapEntry) (ck1:Nat),(Instr.mapEntry mt (.map (some b)) key).run Tryz.prog w= .ok (.tuple #[m l,goInt st]) (ChangeMaps.setBlock w b (.map es1 ck1))∧
  ∀(w2:World) (v:Value),w2.heap[b]? =some (.map es1 ck1)→∃w',(Instr.entryStore mt (.map (some b)) (goInt st) v).run Tryz.prog w2= .ok () w'∧MapV w' kt b (n+1) z (putM m l v)∧w2.grownBy w' (some b):=by
 obtain ⟨D,h1,h2⟩:=h;have h0:=h1;obtain ⟨es,ck,hb,F,hs,rfl⟩:=h0;obtain ⟨v0,st,es1,ck1,hE,hc,hS⟩:=WideElems.entry_then_store K ht hz hb F hk
 have hv0:v0=m l:=by
  have hat:=h2 l ((Maps.Keyed.of_law K).key hk);rcases hc with ⟨e1,hm1,hk1,rfl⟩ |⟨hno,rfl⟩
  ·rw [WideElems.atKey_some K F hk hm1 hk1 (show RV e1.val=some (.held e1.val,[]) from rfl)] at hat
   exact DataW.held.inj hat
  ·rw [WideElems.atKey_none K F hk hno] at hat
   exact DataW.held.inj hat
 subst hv0;refine ⟨st,es1,ck1,hE,fun w2 v hw2=>?_⟩;obtain ⟨es',ck',r1,r2⟩:=hS w2 v hw2;obtain ⟨w3,q1,q2,_⟩:=h1.update (Maps.Keyed.of_law K) ht hn hk (show RV v=some (.held v,[]) from rfl);rw [r2] at q1;injection q1 with _ q1;subst q1
 have hblk:(ChangeMaps.setBlock w2 b (.map es' ck')).heap[b]? =(ChangeMaps.setBlock w b (.map es' ck')).heap[b]? :=by
  rw [ChangeMaps.heap_setBlock_same hw2,ChangeMaps.heap_setBlock_same hb]
 exact ⟨_,r1,(MapV.put_of h1 h2 ((Maps.Keyed.of_law K).key hk) v q2).block hblk,⟨rfl,rfl,rfl,by simp [ChangeMaps.setBlock],fun i _ hi=>ChangeMaps.heap_setBlock_other hw2 _ (fun e=>hi (by rw [e]))⟩⟩
end
theorem Num.law:WideMaps.KeyLaw Tryz.prog 171:=deep_law_laid Pid.laid (m:=2) om (of_decide_eq_true yaV) yaV yaV
theorem Rep.law:WideMaps.KeyLaw Tryz.prog 173:=deep_law_laid Pid.laid (m:=3) om (of_decide_eq_true yaV) yaV yaV
theorem Rep.size:Tryz.prog.types.size=Tryz.prog.types.size - 3+1+1+1:=by
 have h:3≤Tryz.prog.types.size:=of_decide_eq_true yaV;omega
theorem Num.keyT:Tryz.prog.keyType 171=true:=by kernel_rfl
theorem Rep.keyT:Tryz.prog.keyType 173=true:=by kernel_rfl
theorem Num.cells:Tryz.prog.cellsOf 171=2:=by kernel_rfl
theorem Rep.cells:Tryz.prog.cellsOf 173=3:=by kernel_rfl
def pN (d s:Int):Value:= .agg #[.int .i64 d,.int .i64 s]
def pR (d s y:Int):Value:= .agg #[.int .i64 d,.int .i64 s,.int .i64 y]
noncomputable def kN (d s:Int):Lit:= .string (keyBytes [.int .i64 d,.int .i64 s])
noncomputable def kR (d s y:Int):Lit:= .string (keyBytes [.int .i64 d,.int .i64 s,.int .i64 y])
theorem kN_of {d s:Int} (hd:int64 d) (hs:int64 s):keyOf Tryz.prog 171 (pN d s)=some (kN d s):=by
 have h1:=hd.wf;have h2:=hs.wf;have hf:(pN d s).formed Tryz.prog 171=true:=by simp [pN,Value.formed,Tryz.underlying171,Num.cells]
 unfold keyOf;simp only [Tryz.underlying171];rw [if_pos (by simp [Num.keyT,hf]),Pid.size];unfold Program.keyLits;simp only [Tryz.underlying171,Value.cells,pN];rw [if_pos (by simp [Num.cells])];unfold Program.keyLits;simp [Tryz.underlying3,Pid.icells,h1,h2,kN]
theorem kR_of {d s y:Int} (hd:int64 d) (hs:int64 s) (hy:int64 y):keyOf Tryz.prog 173 (pR d s y)=some (kR d s y):=by
 have h1:=hd.wf;have h2:=hs.wf;have h3:=hy.wf;have hf:(pR d s y).formed Tryz.prog 173=true:=by simp [pR,Value.formed,Tryz.underlying173,Rep.cells]
 unfold keyOf;simp only [Tryz.underlying173];rw [if_pos (by simp [Rep.keyT,hf]),Rep.size];generalize Tryz.prog.types.size - 3=n;unfold Program.keyLits;simp only [Tryz.underlying173,Value.cells,pR];rw [if_pos (by simp [Rep.cells])];unfold Program.keyLits;simp [Program.keyLits,Tryz.underlying3,Tryz.underlying171,Num.cells,Pid.icells,h1,h2,h3,kR]
 rw [if_pos (by
  intro i hi
  have:i=0∨i=1:=by omega
  rcases this with rfl |rfl<;>simp)]
 simp
theorem kN_inj {d s d' s':Int} (h1:int64 d) (h2:int64 s) (h1':int64 d') (h2':int64 s') (e:kN d s=kN d' s'):d=d'∧s=s':=by
 have h:=(Maps.Keyed.of_law Num.law).inj (kN_of h1 h2) (e▸kN_of h1' h2');simp [pN] at h;exact h
theorem kR_inj {d s y d' s' y':Int} (h1:int64 d) (h2:int64 s) (h3:int64 y) (h1':int64 d') (h2':int64 s') (h3':int64 y') (e:kR d s y=kR d' s' y'):d=d'∧s=s'∧y=y':=by
 have h:=(Maps.Keyed.of_law Rep.law).inj (kR_of h1 h2 h3) (e▸kR_of h1' h2' h3');simp [pR] at h;exact h
theorem Num.zero (w:World):(zeroValue 4).run Tryz.prog w= .ok (.bool false) w:=by kernel_rfl
theorem Rep.zero (w:World):(zeroValue 83).run Tryz.prog w= .ok (.slice none 0 0) w:=by kernel_rfl
theorem Mee.zero (w:World):(zeroValue 174).run Tryz.prog w= .ok (.slice none 0 0) w:=by kernel_rfl
inductive Rl where
 |dat
 |fix (i:Nat)
 |ent
 |sh (l:Lit)
 |mt (l:Lit)
def Lab (lab:Nat→Rl) (r:Rl) (v:Value):Prop:=∀k,v.ownBlock=some k→lab k=r
theorem Lab.nil (lab:Nat→Rl) (r:Rl):Lab lab r (.slice none 0 0):=fun k hk=>by cases hk
open Classical in
noncomputable def setL (lab:Nat→Rl) (v:Value) (r:Rl):Nat→Rl:=fun i=>if v.ownBlock=some i then r else lab i
theorem setL_same (lab:Nat→Rl) (v:Value) (r:Rl):Lab (setL lab v r) r v:=fun k hk=>by unfold setL;simp [hk]
theorem yb5 {lab:Nat→Rl} {v v':Value} {r:Rl} {n i:Nat} (h:v'.ownBlock=v.ownBlock∨∃g,v'.ownBlock=some g∧n≤g) (hl:Lab lab r v) (hi:i < n):setL lab v' r i=lab i:=by
 unfold setL
 split
 ·rename_i e
  rcases h with h |⟨g,h,hg⟩
  ·exact (hl i (h▸e)).symm
  ·rw [h] at e;injection e with e;omega
 ·rfl
theorem setL_hi {lab:Nat→Rl} {v':Value} {r:Rl} {n i:Nat} (h:∀g,v'.ownBlock=some g→g < n) (hi:n≤i):setL lab v' r i=lab i:=by
 unfold setL
 split
 ·rename_i e
  have:=h i e
  omega
 ·rfl
structure FrP (lab:Nat→Rl) (P:Rl→Prop) (w w':World):Prop where
 le:w.heap.size≤w'.heap.size
 same:∀k,k < w.heap.size→¬P (lab k)→w'.heap[k]? =w.heap[k]?
theorem FrP.grown {lab:Nat→Rl} {r:Rl} {P:Rl→Prop} {w w':World} {v:Value} (h:w.grownBy w' v.ownBlock) (hl:Lab lab r v) (hP:P r):FrP lab P w w':=
 ⟨h.size,fun k hk hne=>h.block k hk fun e=>hne (by rw [hl k e.symm];exact hP)⟩
theorem FrP.blk {lab:Nat→Rl} {P:Rl→Prop} {w w':World} {b:Nat} (h:w.grownBy w' (some b)) (hP:P (lab b)):FrP lab P w w':=
 ⟨h.size,fun k hk hne=>h.block k hk fun e=>hne (by injection e with e;rw [e];exact hP)⟩
theorem FrP.below {lab:Nat→Rl} {P:Rl→Prop} {w w':World} (h:Below w.heap.size w w'):FrP lab P w w':=⟨h.size,fun k hk _=>h.block k hk⟩
theorem FrP.refl (lab:Nat→Rl) (P:Rl→Prop) (w:World):FrP lab P w w:=⟨Nat.le_refl _,fun _ _ _=>rfl⟩
theorem FrP.trans {lab:Nat→Rl} {P:Rl→Prop} {w w' w2:World} (h:FrP lab P w w') (h':FrP lab P w' w2):FrP lab P w w2:=
 ⟨Nat.le_trans h.le h'.le,fun k hk hne=>(h'.same k (Nat.lt_of_lt_of_le hk h.le) hne).trans (h.same k hk hne)⟩
theorem FrP.mono {lab:Nat→Rl} {P Q:Rl→Prop} {w w':World} (h:FrP lab P w w') (hPQ:∀r,P r→Q r):FrP lab Q w w':=⟨h.le,fun k hk hne=>h.same k hk fun hp=>hne (hPQ _ hp)⟩
theorem FrP.set {lab:Nat→Rl} {P:Rl→Prop} {w w':World} {v v':Value} {r:Rl} (h:FrP lab P w w') (hc:v'.ownBlock=v.ownBlock∨∃g,v'.ownBlock=some g∧w.heap.size≤g) (hl:Lab lab r v):FrP (setL lab v' r) P w w':=
 ⟨h.le,fun k hk hne=>h.same k hk (by rw [yb5 hc hl hk] at hne;exact hne)⟩
section
variable {lab:Nat→Rl} {P:Rl→Prop} {w w':World}
theorem OwnN.fr {α:Type} {f:α→List Value} {s:Nat} {e:TypeId} {base:Nat} {v:Value} {xs:List α} {r':Rl} (h:OwnN f s e w base v xs) (hl:Lab lab r' v) (hf:FrP lab P w w') (hne:¬P r'):OwnN f s e w' base v xs:=by
 refine ⟨h.1,?_⟩;rcases h.2 with hn |⟨g,cap,cur,rfl,hbg,hgg,rest⟩
 ·exact .inl hn
 ·exact .inr ⟨g,cap,cur,rfl,hbg,(hf.same g (Array.getElem?_eq_some_iff.1 hgg).1 (by rw [hl g rfl];exact hne)).trans hgg,rest⟩
theorem MapV.fr {kt:TypeId} {b n:Nat} {z:Value} {m:Lit→Value} (h:MapV w kt b n z m) (hf:FrP lab P w w') (hne:¬P (lab b)):MapV w' kt b n z m:=h.block (hf.same b h.lt hne)
def DatB (lab:Nat→Rl) (A:Option Addr) (n:Nat):Prop:=0 < n→∀a,A=some a→lab a.block= .dat
theorem Sl.fr {α:Type} {f:α→Value} {n:Nat} {A:Option Addr} {xs:List α} (h:Sl f w w.heap.size A n xs) (hd:DatB lab A n) (hf:FrP lab P w w') (hr:¬P .dat):Sl f w' w'.heap.size A n xs:=by
 refine ⟨h.1,fun hn=>?_⟩;obtain ⟨b,off,e,hb,hc⟩:=h.2 hn;have hs:=hf.same b hb (by rw [hd (h.1▸hn) _ e];exact hr);exact ⟨b,off,e,Nat.lt_of_lt_of_le hb hf.le,fun k x hx=>(World.cell?_of_block hs).trans (hc k x hx)⟩
theorem DatB.set {α:Type} {f:α→Value} {n m:Nat} {A:Option Addr} {xs:List α} {v v':Value} {r:Rl} (h:DatB lab A n) (hs:Sl f w m A n xs) (hc:v'.ownBlock=v.ownBlock∨∃g,v'.ownBlock=some g∧m≤g) (hl:Lab lab r v):DatB (setL lab v' r) A n:=fun hn a e=>by
 obtain ⟨b,off,e2,hb,_⟩:=hs.2 (hs.1▸hn);rw [e2] at e;injection e with e;subst e;rw [yb5 hc hl hb];exact h hn _ e2
theorem Lab.set {v v' u:Value} {r r':Rl} {n:Nat} (h:Lab lab r' u) (hu:∀k,u.ownBlock=some k→k < n) (hc:v'.ownBlock=v.ownBlock∨∃g,v'.ownBlock=some g∧n≤g) (hl:Lab lab r v):Lab (setL lab v' r) r' u:=fun k hk=>by
 rw [yb5 hc hl (hu k hk)];exact h k hk
end
open Go.ChangeShapes Go.WideShapes Go.ChangeAt Go.WideMaps Go.WideElems Go.RowKit
theorem gInit:Tryz.prog.globalNamed "kinkeep/sha256.initial" =some 0:=by kernel_rfl
theorem gCons:Tryz.prog.globalNamed "kinkeep/sha256.constants" =some 1:=by kernel_rfl
theorem tInit:(Tryz.prog.globals[0]?).map (·.type)=some 251:=by kernel_rfl
theorem tCons:(Tryz.prog.globals[1]?).map (·.type)=some 293:=by kernel_rfl
abbrev laidTs {H:Type}:List (String × DataW H):=[("kinkeep/sha256.initial",Rows.laid_kinkeep_sha256_initial),("kinkeep/sha256.constants",Rows.laid_kinkeep_sha256_constants)]
theorem door_met (os:Os) (args:Array Value):laidMetH Tryz.prog laidTs ((World.doorLaid Tryz.prog 400 os).forCall (fun _ _=>0) ⟨#[],args,[]⟩).memory:=
 laidMetH_of_parts3 (fuel:=8) (laidMet_of_run' 8 yaV yaV) yaV yaV
theorem c32:Tryz.prog.cellsOf 250=1:=by kernel_rfl
theorem cells_tab {W:World} {m:Nat} {cs:List Value} {xs:List (DataW Unit × List MemPlace)} {tab:List Int} {n:Nat} {D:DataW Unit} (hD:D= .agg (tab.map fun x=> .lit (.int .u32 x))) {p:List MemPlace} (hx:(D,p)=(DataW.agg (xs.map fun x=>x.fst),xs.flatMap fun x=>x.snd)) (hn:xs.length=n)
 (hel:∀i,i < n→DataW.trod (fun _=>()) Tryz.prog W 0 (fun _=>true) false m 250 ((cs.drop (i*Tryz.prog.cellsOf 250)).take (Tryz.prog.cellsOf 250))=xs[i]?) (i:Nat) (x:Int) (hi:tab[i]? =some x):cs[i]? =some (U32 x):=by
 simp only [Prod.mk.injEq] at hx;have h1:=hx.1;rw [hD] at h1;injection h1 with h1;have h2:=congrArg (fun l=>l[i]?) h1;simp only [List.getElem?_map,hi,Option.map_some] at h2
 cases hd:xs[i]? with
 |none=>rw [hd] at h2;cases h2
 |some d=>
  rw [hd] at h2;simp only [Option.map_some,Option.some.injEq] at h2;have hin:i < n:=by rw [←hn];exact (List.getElem?_eq_some_iff.1 hd).1
  have h3:=hel i hin;rw [hd,c32,Nat.mul_one] at h3;obtain ⟨k,e1,e2,_⟩:=DataW.trod_int Tryz.underlying250 h3;rw [e2] at h2;injection h2 with h2;injection h2 with _ h2;subst h2;have h4:=congrArg List.head? e1;rw [List.head?_take] at h4;simpa using h4
theorem glob_of_laid {W:World} (h:laidMetH Tryz.prog laidTs W):Glob W:=by
 rw [MakeChecks.laidMetH_plain _ _ _ yaV] at h;obtain ⟨ps,⟨g0,t0,cs0,f0,p0,q0,hg0,ht0,hv0,hd0,⟨g1,t1,cs1,f1,p1,q1,hg1,ht1,hv1,hd1,_,_⟩,_⟩,_,_⟩:=h;obtain rfl:=Option.some.inj (gInit.symm.trans hg0);obtain rfl:=Option.some.inj (gCons.symm.trans hg1);obtain rfl:=Option.some.inj (tInit.symm.trans ht0);obtain rfl:=Option.some.inj (tCons.symm.trans ht1);obtain ⟨xs0,m0,rfl,hx0,hlen0,hn0,hel0⟩:=DataW.trod_array Tryz.underlying251 hd0;obtain ⟨xs1,m1,rfl,hx1,hlen1,hn1,hel1⟩:=DataW.trod_array Tryz.underlying293 hd1;have g0:=cells_tab (tab:=hTab.list) (by rfl) hx0 hn0 hel0;have g1:=cells_tab (tab:=kTab) (by rfl) hx1 hn1 hel1
 have c0:∀(i:Nat) (x:Int),hTab.list[i]? =some x→W.cell? ⟨0,i,none⟩=some (U32 x):=fun i x hi=>by
  have h1:=World.var?_cell hg0 hv0 i;rw [h1]
  have:=g0 i x hi
  simpa using this
 have c1:∀(i:Nat) (x:Int),kTab[i]? =some x→W.cell? ⟨1,i,none⟩=some (U32 x):=fun i x hi=>by
  have h1:=World.var?_cell hg1 hv1 i;rw [h1]
  have:=g1 i x hi
  simpa using this
 refine ⟨c1,c0,?_⟩;have h:=c1 0 _ rfl;rcases Nat.lt_or_ge 1 W.heap.size with h1 |h1
 ·exact h1
 ·exfalso
  unfold World.cell? at h;rw [Array.getElem?_eq_none h1] at h
  cases h
