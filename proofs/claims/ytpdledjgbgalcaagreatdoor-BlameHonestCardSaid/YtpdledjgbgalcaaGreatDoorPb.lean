/- Merkle leaves and roots of one block: the program's and the reference's. The set of pieces: a map from piece IDs to bools. What the row's premise on package sha256's tables gives the walks. -/
import Derived.Test.YtpdledjgbgalcaaGreatDoorPa
import Derived.DeepKeys4
import Derived.WideKeyArgs2
import Derived.Maps.Own
import Derived.Maps.OwnIn
import Derived.Maps.OwnSet
import Derived.Maps.Views
import Derived.Test.YtpdledjgbgalcaaGreatDoorRows
import Derived.ProofKit
import Derived.LaidMore
import Derived.OpenShut
import Derived.Stop.Joined
namespace Go.Proofs.YtpdledjgbgalcaaGreatDoor
set_option maxRecDepth 100000
set_option maxHeartbeats 4000000
open Go.RowKit
set_option linter.unusedVariables false
set_option linter.unusedSimpArgs false
abbrev fT:ByteArray→Value:=Value.string
theorem fT1:∀y,(fT y).oneCell'=true:=fun _=>rfl
theorem Tryz.infoS:(Tryz.prog.info? 9).map (fun i=>(i.zero,i.size,i.bytes))=some (some (.string ⟨#[]⟩),1,16):=by kernel_rfl
def Glob (w:World):Prop:=KTab w∧(∀(i:Nat) (x:Int),hTab.list[i]? =some x→w.cell? ⟨0,i,none⟩=some (U32 x))∧1 < w.heap.size
theorem Glob.up {w w':World} {B:Nat} (h:Glob w) (hb:Below B w w') (hB:1 < B):Glob w':=
 ⟨fun i x hx=>(hb.cell (p:=⟨1,i,none⟩) hB).trans (h.1 i x hx),fun i x hx=>(hb.cell (p:=⟨0,i,none⟩) (Nat.lt_trans Nat.zero_lt_one hB)).trans (h.2.1 i x hx),Nat.lt_of_lt_of_le h.2.2 hb.size⟩
theorem Glob.on {w w':World} (h:Glob w) (hb:Below w.heap.size w w'):Glob w':=h.up hb h.2.2
def zeros64:List Int:=List.replicate 64 0
def newSt:Obj:= .cells (stCells hTab zeros64 0) 302
theorem newSt_St (w:World):St (w.alloc newSt) w.heap.size []:=⟨zeros64,rfl,fun x hx=>by rw [(List.mem_replicate.1 hx).2];omega,(fun x hx=>by cases hx),heap_alloc_new w _,rfl⟩
theorem newEq:stCells hTab zeros64 0=((((((((Tryz.zeroCells302.setIfInBounds 0 (U32 hTab.a)).setIfInBounds 1 (U32 hTab.b)).setIfInBounds 2 (U32 hTab.c)).setIfInBounds 3 (U32 hTab.d)).setIfInBounds 4 (U32 hTab.e)).setIfInBounds 5 (U32 hTab.f)).setIfInBounds 6 (U32 hTab.g)).setIfInBounds 7 (U32 hTab.h)):=by kernel_rfl
theorem stNew_any (w:World) (h:Glob w):Calls Tryz.prog 198 #[] w fun e w'=>e= .returned (.pointer (some ⟨w.heap.size,0,none⟩))∧w.alloc newSt=w':=by
 have c0:=h.2.1 0 _ rfl
 have c1:=h.2.1 1 _ rfl
 have c2:=h.2.1 2 _ rfl
 have c3:=h.2.1 3 _ rfl
 have c4:=h.2.1 4 _ rfl
 have c5:=h.2.1 5 _ rfl
 have c6:=h.2.1 6 _ rfl
 have c7:=h.2.1 7 _ rfl
 clear h
 go_enter Tryz.func198,Tryz.ntmps198
 go_wp2
 go_ret
 exact ⟨rfl,congrArg (fun c=>w.alloc (.cells c 302)) newEq⟩
theorem mleaf_any (A:Option Addr) (n c B:Nat) (xs:List Int) (w:World) (hG:Glob w) (hx:Sl fB w B A n xs) (hc:n≤c) (hB:B≤w.heap.size) (hl:n≤549755813887) (hxb:Byt xs) (hA:∀a,A=some a→a.block < w.heap.size):
 Calls Tryz.prog 151 #[.slice A n c] w fun e w'=>e= .returned (.string (baOf (shaB (0::xs))))∧Below w.heap.size w w':=by
 have HC0:=Lib.hid (stNew_any w hG)
 have HGl:=Lib.hid hG
 have HX:=Lib.hid hx
 have HXB:=Lib.hid hxb
 have HA:=Lib.hid hA
 have H1:Hid (Calls Tryz.prog 199 #[.pointer (some ⟨w.heap.size,0,none⟩),.slice (some ⟨w.heap.size+1,0,none⟩) 1 1] ((w.alloc newSt).alloc (.cells #[.int .u8 0] 5)) fun e w'=>e= .returned (.tuple #[])∧St w' w.heap.size [0]∧But (fun k=>k=w.heap.size) ((w.alloc newSt).alloc (.cells #[.int .u8 0] 5)) w'):=by
  have hb:Below w.heap.size w ((w.alloc newSt).alloc (.cells #[.int .u8 0] 5)):=((Below.refl _ _).alloc (Nat.le_refl _) _).alloc (by simp) _
  have hs:Sl fB ((w.alloc newSt).alloc (.cells #[.int .u8 0] 5)) (w.heap.size+2) (some ⟨w.heap.size+1,0,none⟩) 1 [0]:=⟨rfl,SL.of_block (t:=5) (fr:=(0,0)) (heap_alloc2_new w _ _) (by omega)⟩
  exact write_any w.heap.size [] [0] _ 1 1 (w.heap.size+2) _ ((newSt_St w).but ((But.refl (fun _=>False) _).alloc _) (fun h=>h)) hs (Nat.le_refl _) (by simp) (fun x hx=>by rw [List.mem_singleton.1 hx];omega) (fun a ha=>by injection ha with ha;subst ha;exact Nat.succ_ne_self _) (by simp) (hG.on hb).1 (hG.on hb).2.2 (Nat.ne_of_gt hG.2.2)
 have H2:Hid (∀w1,St w1 w.heap.size [0]→Below w.heap.size w w1→Calls Tryz.prog 199 #[.pointer (some ⟨w.heap.size,0,none⟩),.slice A n c] w1 fun e w'=>e= .returned (.tuple #[])∧St w' w.heap.size (0::xs)∧But (fun k=>k=w.heap.size) w1 w'):=fun w1 h1 hb=>
  write_any w.heap.size [0] xs A n c B w1 h1 (hx.up hb hB) hc (Nat.le_trans hB hb.size) hxb (fun a ha=>Nat.ne_of_lt (hA a ha)) (by rw [hx.1];simp;omega) (hG.on hb).1 (hG.on hb).2.2 (Nat.ne_of_gt hG.2.2)
 have H3:Hid (∀w2,St w2 w.heap.size (0::xs)→Below w.heap.size w w2→Calls Tryz.prog 200 #[.pointer (some ⟨w.heap.size,0,none⟩)] w2 fun e w'=>e= .returned (.string (baOf (shaB (0::xs))))∧Below w2.heap.size w2 w'):=fun w2 h2 hb=>
  sum_any w.heap.size (0::xs) w2 h2 (by rw [List.length_cons,hx.1];omega) (hG.on hb).1 (hG.on hb).2.2
 clear hG hx hxb hA
 go_enter Tryz.func151,Tryz.ntmps151
 go_wp2_with (first
  |(go_at_call 198;(with_reducible refine HC0.out.mono ?_);rintro e w0 ⟨rfl,hw0⟩;subst hw0)
  |(go_at_call 199;(with_reducible refine H1.out.mono ?_);rintro e w1 ⟨rfl,hs1,hb1⟩
    have HS1:=Lib.hid hs1
    have HB1:Hid (Below w.heap.size w w1):=(((Below.refl _ _).alloc (Nat.le_refl _) newSt).alloc (by simp) (.cells #[.int .u8 0] 5)).trans (hb1.below (by simp;omega) (fun i hi=>Nat.le_of_eq hi.symm))
    clear hs1 hb1)
  |(go_at_call 199;(with_reducible refine (H2.out w1 HS1.out HB1.out).mono ?_);rintro e w2 ⟨rfl,hs2,hb2⟩
    have HS2:=Lib.hid hs2
    have HB2:Hid (Below w.heap.size w w2):=HB1.out.trans (hb2.below HB1.out.size (fun i hi=>Nat.le_of_eq hi.symm))
    clear hs2 hb2)
  |(go_at_call 200;(with_reducible refine (H3.out w2 HS2.out HB2.out).mono ?_);rintro e w3 ⟨rfl,hb3⟩
    have HB3:=Lib.hid hb3
    clear hb3))
 go_ret
 exact ⟨rfl,HB2.out.trans (HB3.out.mono HB2.out.size)⟩
theorem rleaf_any (A:Option Addr) (n c B:Nat) (xs:List Int) (w:World) (hx:Sl fB w B A n xs) (hB:B≤w.heap.size) (hl:n≤549755813887) (hxb:Byt xs):
 Calls Tryz.prog 157 #[.slice A n c] w fun e w'=>e= .returned (.string (baOf (shaB (0::xs))))∧Below w.heap.size w w':=by
 obtain ⟨i0,hi,hz0,hz1,hz2⟩:=info_parts Tryz.infoB
 have HI:=Lib.hid hi
 have HZ0:=Lib.hid hz0
 have HZ1:=Lib.hid hz1
 have HZ2:=Lib.hid hz2
 have HO0:Hid (Own fB 5 (w.alloc (.cells #[.int .u8 0] 5)) w.heap.size (.slice (some ⟨w.heap.size,0,none⟩) 1 1) [0]):=World.ownsRow_lit w #[.int .u8 0] 1 (Nat.le_refl _) (by unfold maxLen;omega) rfl
 have HB0:Hid (Below w.heap.size w (w.alloc (.cells #[.int .u8 0] 5))):=(Below.refl _ _).alloc (Nat.le_refl _) _
 have HX0:Hid (Sl fB (w.alloc (.cells #[.int .u8 0] 5)) B A n xs):=hx.up HB0.out hB
 have HXN:Hid (xs.length=n):=hx.1
 have HL1:Hid ((([0]:List Int).length+xs.length)*1≤140737488355328):=by show _≤_;rw [hx.1];simp;omega
 have HL2:Hid (([0]:List Int).length+xs.length≤maxLen):=by show _≤_;rw [hx.1];unfold maxLen;simp;omega
 have HSz:Hid (w.heap.size≤(w.alloc (.cells #[.int .u8 0] 5)).heap.size):=by show _≤_;simp
 have HXB:=Lib.hid hxb
 clear hi hz0 hz1 hz2 hx hxb
 go_enter Tryz.func157,Tryz.ntmps157
 go_wp2_with (first
  |(at_builtin;(with_reducible refine wpList_app (o:=⟨some 5,_,_,_,_,_⟩) rfl (.tmp 3) (.tmp 4) 40 rfl 5 i0 (.int .u8 0) 1 Tryz.underlying40 HI.out HZ0.out HZ1.out HZ2.out rfl _ [0] w.heap.size rfl HO0.out _ _ _ B xs rfl HX0.out fB1 HL1.out HL2.out HSz.out ?_);intro v1 w1 HO1 HG1 HV1
    have HB1:Hid (Below w.heap.size w w1):=HB0.out.trans (grown_below HG1.out (fun j hj=>(World.ownsRow.lt HO0.out j hj).1) HSz.out)
    obtain ⟨A1,c1,hv1,hc1,hs1,_⟩:=HO1.out.shape
    have hl1:([0]++xs:List Int).length=n+1:=by rw [List.length_append,HXN.out];exact Nat.add_comm ..
    rw [hl1] at hv1
    subst hv1
    have HC:=Lib.hid (rsum_any A1 (n+1) c1 w1.heap.size ([0]++xs) w1 ⟨hl1,hs1⟩ (Nat.le_refl _) (by omega) (Byt.app (fun x hx=>by rw [List.mem_singleton.1 hx];omega) HXB.out))
    clear hs1 hl1 hc1)
  |(go_at_call 123;(refine HC.out.mono ?_);rintro e w2 ⟨rfl,hb2⟩
    have HB2:=Lib.hid hb2
    clear hb2))
 go_ret
 exact ⟨rfl,HB1.out.trans (HB2.out.mono HB1.out.size)⟩
theorem Pid.laid:laidOutB Tryz.prog=true:=by kernel_rfl
theorem Pid.law:Maps.Keyed Tryz.prog 31:=Maps.Keyed.of_law (deep_law_laid Pid.laid (m:=2) (by omega) (of_decide_eq_true (by kernel_rfl)) (by kernel_rfl) (by kernel_rfl))
theorem Pid.size:Tryz.prog.types.size=Tryz.prog.types.size - 2+1+1:=by
 have h:2≤Tryz.prog.types.size:=of_decide_eq_true (by kernel_rfl)
 omega
theorem Pid.keyT:Tryz.prog.keyType 31=true:=by kernel_rfl
theorem Pid.cells:Tryz.prog.cellsOf 31=2:=by kernel_rfl
theorem Pid.icells:Tryz.prog.cellsOf 3=1:=by kernel_rfl
theorem Pid.scells:Tryz.prog.cellsOf 9=1:=by kernel_rfl
def pP (s:ByteArray) (y:Int):Value:= .agg #[.string s,.int .i64 y]
noncomputable def kP (s:ByteArray) (y:Int):Lit:= .string (keyBytes [.string s.data.toList,.int .i64 y])
def int64 (x:Int):Prop:= -9223372036854775808≤x∧x≤9223372036854775807
theorem int64.wf {x:Int} (h:int64 x):(Lit.int .i64 x).wf=true:=WalkArith.wf_i64 h
def okP (s:ByteArray) (y:Int):Prop:=s.size≤maxLen∧int64 y
theorem kP_of {s:ByteArray} {y:Int} (h:okP s y):keyOf Tryz.prog 31 (pP s y)=some (kP s y):=by
 have hy:=h.2.wf
 have hs:=h.1
 have hf:(pP s y).formed Tryz.prog 31=true:=by simp [pP,Value.formed,Tryz.underlying31,Pid.cells]
 unfold keyOf
 simp only [Tryz.underlying31]
 rw [if_pos (by simp [Pid.keyT,hf]),Pid.size]
 unfold Program.keyLits
 simp only [Tryz.underlying31,Value.cells,pP]
 rw [if_pos (by simp [Pid.cells])]
 unfold Program.keyLits
 simp [Tryz.underlying3,Tryz.underlying9,Pid.icells,Pid.scells,hy,hs,kP]
theorem kP_inj {x x':ByteArray} {y y':Int} (h:okP x y) (h':okP x' y') (e:kP x y=kP x' y'):x=x'∧y=y':=by
 have h1:=Pid.law.inj (kP_of h) (e▸kP_of h')
 simp [pP] at h1
 exact h1
theorem kP_key {x:ByteArray} {y:Int} (h:okP x y):WideAt.IsKeyLit (kP x y):=Pid.law.key (kP_of h)
theorem Pid.zero (w:World):(zeroValue 4).run Tryz.prog w= .ok (.bool false) w:=by kernel_rfl
open Classical in
noncomputable def pinB (L:List (ByteArray × Int)) (p:ByteArray × Int):Bool:=decide (p∈L)
theorem pinB_yes {L:List (ByteArray × Int)} {p:ByteArray × Int} (h:p∈L):pinB L p=true:=by unfold pinB;simp [h]
theorem pinB_no {L:List (ByteArray × Int)} {p:ByteArray × Int} (h:p∉L):pinB L p=false:=by unfold pinB;simp [h]
def MapP (w:World) (b n:Nat) (L:List (ByteArray × Int)):Prop:=
 ∃D:DataW Unit,w.ownsMap Tryz.prog 31 (plainElem Tryz.prog 4) b n D∧∀x y,okP x y→D.atKey (kP x y) (.lit (.bool false))= .lit (.bool (pinB L (x,y)))
theorem MapP.made (w:World):MapP (w.alloc (.map #[] 0)) w.heap.size 0 []:=⟨_,World.ownsMap_made w Tryz.prog _ _,fun x y _=>by rw [pinB_no (by simp)];simp [DataW.atKey]⟩
section
variable {w w':World} {b n:Nat} {L:List (ByteArray × Int)}
theorem MapP.kept {row:Option Nat} (h:MapP w b n L) (hg:w.grownBy w' row) (hne:some b≠row):MapP w' b n L:=by
 obtain ⟨D,h1,h2⟩:=h
 exact ⟨D,h1.kept hg hne,h2⟩
theorem MapP.block (h:MapP w b n L) (hb:w'.heap[b]? =w.heap[b]?):MapP w' b n L:=by
 obtain ⟨D,⟨es,ck,h1,h2⟩,h3⟩:=h
 exact ⟨D,⟨es,ck,hb.trans h1,h2⟩,h3⟩
theorem MapP.lt (h:MapP w b n L):b < w.heap.size:=by
 obtain ⟨D,h1,_⟩:=h
 exact h1.lt
theorem elem_bool_inv {H:Type} {P:Program} {e:TypeId} (he:P.underlying e=some .bool) {v:Value} {r:DataW H × List MemPlace} (h:plainElem P e v=some r):∃x,v= .bool x∧r=(.lit (.bool x),[]):=by
 unfold plainElem at h
 rw [he] at h
 cases v<;>simp at h
 exact ⟨_,rfl,h.symm⟩
theorem look_gen {P:Program} {kt et mt:TypeId} {D:DataW Unit} (h1:w.ownsMap P kt (plainElem P et) b n D) (law:Maps.Keyed P kt) (ht:P.underlying mt=some (.map kt et)) (he:P.underlying et=some .bool)
 (hz:(zeroValue et).run P w= .ok (.bool false) w) {key:Value} {l:Lit} (hk:keyOf P kt key=some l) {x:Bool} (h2:D.atKey l (.lit (.bool false))= .lit (.bool x)):(Instr.lookup mt (.map (some b)) key false).run P w= .ok (.bool x) w:=by
 obtain ⟨v,ps,hrun,hv⟩:=h1.lookup law ht hz (plainElem_bool he false) hk
 obtain ⟨c,rfl,hc⟩:=elem_bool_inv he hv
 rw [h2] at hc
 injection hc with hc _
 injection hc with hc
 injection hc with hc
 rw [hrun,←hc]
theorem MapP.look (h:MapP w b n L) (x:ByteArray) (y:Int) (hx:okP x y):(Instr.lookup 150 (.map (some b)) (pP x y) false).run Tryz.prog w= .ok (.bool (pinB L (x,y))) w:=by
 obtain ⟨D,h1,h2⟩:=h
 exact look_gen h1 Pid.law Tryz.underlying150 Tryz.underlying4 (Pid.zero w) (kP_of hx) (h2 x y hx)
theorem MapP.store (h:MapP w b n L) (hn:n < maxLen) (x:ByteArray) (y:Int) (hx:okP x y):
 ∃w',(Instr.mapUpdate 150 (.map (some b)) (pP x y) (.bool true)).run Tryz.prog w= .ok () w'∧MapP w' b (n+1) (L++[(x,y)])∧w.grownBy w' (some b):=by
 obtain ⟨D,h1,h2⟩:=h
 obtain ⟨w',r1,r2,r3⟩:=h1.update Pid.law Tryz.underlying150 hn (kP_of hx) (plainElem_bool Tryz.underlying4 true)
 refine ⟨w',r1,⟨_,r2,fun u v hu=>?_⟩,r3⟩
 show _=DataW.lit (.bool (pinB (L++[(x,y)]) (u,v)))
 by_cases he:u=x∧v=y
 ·obtain ⟨rfl,rfl⟩:=he
  rw [pinB_yes (show (u,v)∈L++[(u,v)] by simp)]
  exact Maps.atKey_put_same h1.isMap (kP_key hu) _ _
 ·rw [show pinB (L++[(x,y)]) (u,v)=pinB L (u,v) by
   by_cases hm:(u,v)∈L
   ·rw [pinB_yes hm,pinB_yes (by simp [hm])]
   ·rw [pinB_no hm,pinB_no (by simp [hm,he])],Maps.atKey_put_other (fun e=>he (kP_inj hu hx e))]
  exact h2 u v hu
end
open Go.ChangeShapes Go.WideShapes Go.ChangeAt Go.WideMaps Go.WideElems Go.RowKit
theorem gInit:Tryz.prog.globalNamed "kinkeep/sha256.initial" =some 0:=by kernel_rfl
theorem gCons:Tryz.prog.globalNamed "kinkeep/sha256.constants" =some 1:=by kernel_rfl
theorem tInit:(Tryz.prog.globals[0]?).map (·.type)=some 251:=by kernel_rfl
theorem tCons:(Tryz.prog.globals[1]?).map (·.type)=some 293:=by kernel_rfl
abbrev laidTs {H:Type}:List (String × DataW H):=[("kinkeep/sha256.initial",Rows.laid_kinkeep_sha256_initial),("kinkeep/sha256.constants",Rows.laid_kinkeep_sha256_constants)]
theorem door_met (os:Os) (args:Array Value):laidMetH Tryz.prog laidTs ((World.doorLaid Tryz.prog 400 os).forCall (fun _ _=>0) ⟨#[],args,[]⟩).memory:=
 laidMetH_of_parts3 (fuel:=8) (laidMet_of_run' 8 (by kernel_rfl) (by kernel_rfl)) (by kernel_rfl) (by kernel_rfl)
theorem c32:Tryz.prog.cellsOf 250=1:=by kernel_rfl
theorem cells_tab {W:World} {m:Nat} {cs:List Value} {xs:List (DataW Unit × List MemPlace)} {tab:List Int} {n:Nat} {D:DataW Unit} (hD:D= .agg (tab.map fun x=> .lit (.int .u32 x))) {p:List MemPlace} (hx:(D,p)=(DataW.agg (xs.map fun x=>x.fst),xs.flatMap fun x=>x.snd)) (hn:xs.length=n)
 (hel:∀i,i < n→DataW.trod (fun _=>()) Tryz.prog W 0 (fun _=>true) false m 250 ((cs.drop (i*Tryz.prog.cellsOf 250)).take (Tryz.prog.cellsOf 250))=xs[i]?) (i:Nat) (x:Int) (hi:tab[i]? =some x):cs[i]? =some (U32 x):=by
 simp only [Prod.mk.injEq] at hx
 have h1:=hx.1
 rw [hD] at h1
 injection h1 with h1
 have h2:=congrArg (fun l=>l[i]?) h1
 simp only [List.getElem?_map,hi,Option.map_some] at h2
 cases hd:xs[i]? with
 |none=>rw [hd] at h2;cases h2
 |some d=>
  rw [hd] at h2
  simp only [Option.map_some,Option.some.injEq] at h2
  have hin:i < n:=by rw [←hn];exact (List.getElem?_eq_some_iff.1 hd).1
  have h3:=hel i hin
  rw [hd,c32,Nat.mul_one] at h3
  obtain ⟨k,e1,e2,_⟩:=DataW.trod_int Tryz.underlying250 h3
  rw [e2] at h2
  injection h2 with h2
  injection h2 with _ h2
  subst h2
  have h4:=congrArg List.head? e1
  rw [List.head?_take] at h4
  simpa using h4
theorem glob_of_laid {W:World} (h:laidMetH Tryz.prog laidTs W):Glob W:=by
 rw [MakeChecks.laidMetH_plain _ _ _ (by kernel_rfl)] at h
 obtain ⟨ps,⟨g0,t0,cs0,f0,p0,q0,hg0,ht0,hv0,hd0,⟨g1,t1,cs1,f1,p1,q1,hg1,ht1,hv1,hd1,_,_⟩,_⟩,_,_⟩:=h
 obtain rfl:=Option.some.inj (gInit.symm.trans hg0)
 obtain rfl:=Option.some.inj (gCons.symm.trans hg1)
 obtain rfl:=Option.some.inj (tInit.symm.trans ht0)
 obtain rfl:=Option.some.inj (tCons.symm.trans ht1)
 obtain ⟨xs0,m0,rfl,hx0,hlen0,hn0,hel0⟩:=DataW.trod_array Tryz.underlying251 hd0
 obtain ⟨xs1,m1,rfl,hx1,hlen1,hn1,hel1⟩:=DataW.trod_array Tryz.underlying293 hd1
 have g0:=cells_tab (tab:=hTab.list) (by rfl) hx0 hn0 hel0
 have g1:=cells_tab (tab:=kTab) (by rfl) hx1 hn1 hel1
 have c0:∀(i:Nat) (x:Int),hTab.list[i]? =some x→W.cell? ⟨0,i,none⟩=some (U32 x):=fun i x hi=>by
  have h1:=World.var?_cell hg0 hv0 i
  rw [h1]
  have:=g0 i x hi
  simpa using this
 have c1:∀(i:Nat) (x:Int),kTab[i]? =some x→W.cell? ⟨1,i,none⟩=some (U32 x):=fun i x hi=>by
  have h1:=World.var?_cell hg1 hv1 i
  rw [h1]
  have:=g1 i x hi
  simpa using this
 refine ⟨c1,c0,?_⟩
 have h:=c1 0 _ rfl
 rcases Nat.lt_or_ge 1 W.heap.size with h1 |h1
 ·exact h1
 ·exfalso
  unfold World.cell? at h
  rw [Array.getElem?_eq_none h1] at h
  cases h
