/- DecodeAcquittal. -/
import Derived.Test.YtpdledjgbgalcaaGreatDoorPh
import Derived.Test.YtpdledjgbgalcaaGreatDoorMr
import Derived.Deep.MidRow
namespace Go.Proofs.YtpdledjgbgalcaaGreatDoor
set_option maxRecDepth 100000
set_option maxHeartbeats 8000000
open Go.RowKit Go.Lib
set_option linter.unusedVariables false
set_option linter.unusedSimpArgs false
theorem yb4 {P:Program} {fn:Func} {a b p d:Tmp} {ty:TypeId} (h:fn.results=#[.tmp a,.tmp b,.cell p ty,.tmp d]) (tmps:Array Value) (w:World) (g:Nat) (t:TypeId) (cs:Array Value) (fr:Nat × Nat) (dd:TypeDesc)
 (hp:tmps.getD p undef= .pointer (some ⟨g,0,none⟩)) (hg:w.heap[g]? =some (.cells cs t fr))
 (hu:P.underlying ty=some dd) (hd:(match dd with | .struct _ | .array _ _=>true |_=>false)=true) (hi:(P.info? ty).map (·.size)=some cs.size):
 (results fn tmps).run P w= .ok (.tuple #[tmps.getD a undef,tmps.getD b undef,.agg cs,tmps.getD d undef]) w:=by
 have hp':tmps[p]?.getD undef= .pointer (some ⟨g,0,none⟩):=by simpa using hp
 simp [results,h,hp',asAddr,run_loadVar_row w g t ty cs fr dd hg hu hd hi]
theorem ybO (A:Option Addr) (n c:Nat) (bs:List Int) (w:World) (hx:Sl fB w w.heap.size A n bs) (hn:n≤1000000):
 Calls Tryz.prog 81 #[.slice A n c] w fun e w'=>∃g A1 c1,e= .returned (.pointer (some ⟨g,0,none⟩))∧Rd w' g A1 n c1 0 0 0∧Sl fB w' g A1 n bs∧w.heap.size≤g∧Below w.heap.size w w'∧n≤c1∧∀a,A1=some a→w.heap.size≤a.block∧a.block < w'.heap.size:=by
 obtain ⟨i0,hi,hz0,hz1,hz2⟩:=info_parts Tryz.infoB;have HI:=lh hi;have HZ0:=lh hz0;have HZ1:=lh hz1;have HZ2:=lh hz2;clear hi hz0 hz1 hz2;have HO0:Hid (Own fB 5 (w.alloc (.cells #[] 5)) w.heap.size (.slice (some ⟨w.heap.size,0,none⟩) 0 0) []):=World.ownsRow_lit w #[] 0 nl yaS rfl;have HB0:Hid (Below w.heap.size w (w.alloc (.cells #[] 5))):=bl;have HS0:Hid (Sl fB (w.alloc (.cells #[] 5)) (w.alloc (.cells #[] 5)).heap.size A n bs):=hx.on HB0.out;have HL1:Hid ((([]:List Int).length+bs.length)*1≤140737488355328):=by show _≤_;rw [hx.1];simp;omega
 have HL3:Hid (([]:List Int).length+bs.length≤maxLen):=by show _≤_;rw [hx.1];unfold maxLen;simp;omega
 have HLN:Hid (bs.length=n):=hx.1;clear hx;go_enter Tryz.func81,Tryz.ntmps81
 go_wp2_with (refine ya8 (o:=⟨some 5,_,_,_,_,_⟩) rfl (.tmp 3) (.tmp 4) 40 rfl 5 i0 (.int .u8 0) 1 Tryz.underlying40 HI.out HZ0.out HZ1.out HZ2.out rfl (.slice (some ⟨w.heap.size,0,none⟩) 0 0) ([]:List Int) w.heap.size rfl HO0.out A n c (w.alloc (.cells #[] 5)).heap.size bs rfl HS0.out fB1 HL1.out HL3.out HB0.out.size ?_;intro v6 w6 HO6 HG6 _;obtain ⟨A6,c6,hv6,hc6,hs6,hA6⟩:=HO6.out.shape;have HA6:Hid (∀a,A6=some a→w.heap.size≤a.block∧a.block < w6.heap.size):=(fun a ha=>by subst ha;exact World.ownsRow.lt HO6.out a.block (by rw [hv6];rfl));clear hA6;have HS6:Hid (Sl fB w6 w6.heap.size A6 n bs):=⟨HLN.out,hs6⟩;have HB6:Hid (Below w.heap.size w w6):=HO0.out.below HB0.out nl HB0.out.size HG6.out;rw [List.nil_append,HLN.out] at hv6;(have HC6:Hid (n≤c6):=Nat.le_trans (Nat.le_of_eq HLN.out.symm) hc6);clear hc6 hs6;subst hv6)
 go_ret;have hb7:Below w.heap.size w (w6.alloc (.cells #[.slice A6 n c6,.int .i64 0,.int .i64 0,.int .i64 0] 220)):=HB6.out.alloc HB6.out.size _;exact ⟨w6.heap.size,A6,c6,rfl,heap_alloc_new w6 _,HS6.out.up bl nl,HB6.out.size,hb7,HC6.out,fun a ha=>⟨(HA6.out a ha).1,Nat.lt_of_lt_of_le (HA6.out a ha).2 sI⟩⟩
theorem RdS.but2 {g:Nat} {A:Option Addr} {n c:Nat} {bs:List Int} {s:RS} {w w':World} {p:Nat→Prop} (h:RdS g A n c bs s w) (hb:But p w w') (hg:¬p g) (hA:∀a,A=some a→¬p a.block):RdS g A n c bs s w':=by
 have hl:=h.lt;obtain ⟨⟨pv,h1⟩,h2⟩:=h;refine ⟨⟨pv,(hb.block g hl hg).trans h1⟩,h2.1,fun hn=>?_⟩;obtain ⟨b,off,e,hlt,hc⟩:=h2.2 hn;exact ⟨b,off,e,hlt,hc.keep (hb.block b (Nat.lt_trans hlt hl) (hA _ e))⟩
theorem Own.butG {α:Type} {f:α→Value} {w w':World} {base:Nat} {e:TypeId} {v:Value} {xs:List α} {p:Nat→Prop} (h:Own f e w base v xs) (hb:But p w w') (hv:∀k,v.ownBlock=some k→¬p k):Own f e w' base v xs:=by
 rcases h.2 with ⟨rfl,h0⟩ |⟨g,cap,cur,rfl,h1,hg,h2⟩
 ·exact ⟨h.1,.inl ⟨rfl,h0⟩⟩
 ·exact ⟨h.1,.inr ⟨g,cap,cur,rfl,h1,(hb.block g (lt_of_block hg) (hv g rfl)).trans hg,h2⟩⟩
theorem own_apart {α β:Type} {f:α→Value} {f':β→Value} {w:World} {base base':Nat} {e e':TypeId} {v v':Value} {xs:List α} {ys:List β} (h:Own f e w base v xs) (h':Own f' e' w base' v' ys) (hne:e≠e'):v.ownBlock=none∨v.ownBlock≠v'.ownBlock:=by
 rcases h.2 with ⟨rfl,h0⟩ |⟨g,cap,cur,rfl,h1,hg,h2⟩
 ·exact .inl rfl
 ·right
  rcases h'.2 with ⟨rfl,h0⟩ |⟨g',cap',cur',rfl,h1',hg',h2'⟩
  ·intro e;cases e
  ·intro e
   have e1:g=g':=by injection e
   subst e1;rw [hg] at hg';injection hg' with hg';injection hg' with _ ht _;exact hne ht
theorem ycu (g:Nat) (t:TypeId):∀(vs:List Value) (o:Nat) (w:World) (old:Array Value),w.heap[g]? =some (.cells old t (0,0))→o+vs.length=old.size→
 ∃cs,(w.setCells g o vs).heap[g]? =some (.cells cs t (0,0))∧cs.size=old.size∧(∀j,j < o→cs[j]? =old[j]?)∧(∀j,j < vs.length→cs[o+j]? =vs[j]?)∧But (fun k=>k=g) w (w.setCells g o vs)
 | [],o,w,old,hg,hl=>⟨old,hg,rfl,fun _ _=>rfl,fun j hj=>absurd hj sI,But.refl _ _⟩
 |v::vs,o,w,old,hg,hl=>by
  have h1:=heap_setCell_same w g o _ _ v hg;have hb1:But (fun k=>k=g) w (w.setCell ⟨g,o,none⟩ v):=But.setCell (p:=fun k=>k=g) (x:=⟨g,o,none⟩) (But.refl _ _) (.inl rfl) _;obtain ⟨cs,e1,e2,e3,e4,e5⟩:=ycu g t vs (o+1) (w.setCell ⟨g,o,none⟩ v) _ h1 (by simp at hl ⊢;omega);refine ⟨cs,e1,by simpa using e2,fun j hj=>?_,fun j hj=>?_,hb1.trans e5 (fun i hi=> .inl hi)⟩
  ·rw [e3 j om]
   simp only [Array.getElem?_setIfInBounds];rw [if_neg om]
  ·rcases j with _ |j
   ·rw [Nat.add_zero,e3 o om]
    simp only [List.length_cons] at hl;simp only [Array.getElem?_setIfInBounds,if_true,List.getElem?_cons_zero];rw [if_pos om]
   ·rw [show o+(j+1)=o+1+j by omega,e4 j (by simpa using hj),List.getElem?_cons_succ]
theorem setCells_row (w:World) (g:Nat) (vs:List Value) (old:Array Value) (t:TypeId) (hg:w.heap[g]? =some (.cells old t (0,0))) (hl:vs.length=old.size):(w.setCells g 0 vs).heap[g]? =some (.cells vs.toArray t (0,0))∧But (fun k=>k=g) w (w.setCells g 0 vs):=by
 obtain ⟨cs,e1,e2,_,e4,e5⟩:=ycu g t vs 0 w old hg om;refine ⟨?_,e5⟩;rw [e1]
 congr 2
 apply Array.ext_getElem?;intro j
 by_cases hj:j < vs.length
 ·have:=e4 j hj
  rw [Nat.zero_add] at this;rw [this];simp
 ·rw [Array.getElem?_eq_none om,Array.getElem?_eq_none yaW]
theorem ydy {P:Program} {w:World} {ops:Array Oper} {rest:List Oper} {o:Oper} {a:Act} {Q:Exit→Act→World→Prop} (hgd:o.guard=none) (ty:TypeId) (x y:Operand) (ho:o.op= .store ty x y)
 (b:Nat) (t:TypeId) (u0 u1 u2 u3 v0 v1:Value) (hx:a.eval x= .pointer (some ⟨b,0,none⟩)) (hy:a.eval y= .agg #[v0,v1]) (hg:w.heap[b]? =some (.cells #[u0,u1,u2,u3] t (0,0))) (hi:(P.info? ty).map (·.size)=some 2)
 (h1:(#[v0,v1]:Array Value).all (·.oneCell')=true)
 (h:∀w',Hid (w'.heap[b]? =some (.cells #[v0,v1,u2,u3] t (0,0)))→Hid (But (fun k=>k=b) w w')→wpList P ops Q rest (a.put o.dst undef) w'):wpList P ops Q (o::rest) a w:=by
 refine wpList_store_mid hgd ty x y ho b 0 #[v0,v1] hx hy ?_ hi h1 ?_
 ·intro j hj
  have hj2:j < 2:=hj;refine ⟨?_,frozen_of_row w b _ _ _ hg⟩;rw [Nat.zero_add,cell_of_row w b _ _ _ _ hg];rcases (show j=0∨j=1 by omega) with rfl |rfl<;>rfl
 ·have k1:=heap_setCell_same w b 0 _ _ v0 hg
  have k2:=heap_setCell_same _ b 1 _ _ v1 k1;exact h _ k2 (But.setCell (p:=fun k=>k=b) (x:=⟨b,1,none⟩) (But.setCell (p:=fun k=>k=b) (x:=⟨b,0,none⟩) (But.refl _ _) (.inl rfl) _) (.inl rfl) _)
theorem ybd {P:Program} {w:World} {ops:Array Oper} {o:Oper} {a:Act} {K:Act→World→Prop} {Q:Exit→Act→World→Prop} {E:Prop} (hgd:o.guard=none) (ty:TypeId) (x y:Operand) (ho:o.op= .store ty x y)
 (g:Nat) (t:TypeId) (old cells:Array Value) (hx:a.eval x= .pointer (some ⟨g,0,none⟩)) (hy:a.eval y= .agg cells) (hg:w.heap[g]? =some (.cells old t (0,0))) (hi:(P.info? ty).map (·.size)=some cells.size)
 (hs:old.size=cells.size) (h1:cells.all (·.oneCell')=true)
 (h:∀w',Hid (w'.heap[g]? =some (.cells cells t (0,0)))→Hid (But (fun k=>k=g) w w')→K (a.put o.dst undef) w'):if Region.wanted o (yielded ops a.tmps)=true then Oper.wp P o a w K Q else E:=by
 have hw:Region.wanted o (yielded ops a.tmps)=true:=by simp [Region.wanted,hgd]
 rw [if_pos hw];refine wp_store_mid ty x y ho g 0 cells hx hy (fun j hj=>⟨?_,frozen_of_row w g _ _ _ hg⟩) hi h1 ?_
 ·rw [Nat.zero_add,cell_of_row w g _ _ _ _ hg]
  rw [Array.getElem?_eq_getElem om];rfl
 ·have e:=setCells_row w g cells.toList old t hg (by rw [hs];simp)
  exact h _ (by show _=_;simpa using e.1) e.2
def rSums (bs:List Int):Nat→RS→List ByteArray × RS
 |0,s=>([],s)
 |k+1,s=>((rSums bs k s).1++[(rS bs (rSums bs k s).2).1],(rS bs (rSums bs k s).2).2)
theorem yca (bs:List Int):∀(k:Nat) (s:RS),(rSums bs k s).1.length=k
 |0,_=>rfl
 |k+1,s=>by rw [rSums,List.length_append,yca bs k s];rfl
theorem ydL {bs:List Int} {n:Nat} (hl:bs.length=n):∀(k:Nat) {s:RS},s.1≤n→(rSums bs k s).2.1≤n
 |0,_,h=>h
 |k+1,_,h=>rS_le hl (ydL hl k h)
theorem limF_range (m:Nat) (N:Int × Int × Nat) (h:0≤N.1):0≤(limF m N).1∧(limF m N).1≤(m:Int):=by
 unfold limF
 split
 ·split
  ·exact ⟨Int.le_refl _,Int.natCast_nonneg _⟩
  ·next h2=>exact ⟨h,by dsimp only;omega⟩
 ·exact ⟨Int.le_refl _,Int.natCast_nonneg _⟩
theorem rC_range {bs:List Int} {m:Nat} {s:RS}:0≤(rC bs m s).1∧(rC bs m s).1≤(m:Int):=by
 have hn:=limF_range m _ (ybJ bs 10 0 0 s.1);unfold rC rV
 split
 ·split
  ·exact hn
  ·exact ⟨Int.le_refl _,Int.natCast_nonneg _⟩
 ·exact ⟨Int.le_refl _,Int.natCast_nonneg _⟩
def dA1 (bs:List Int):Int × RS:=rN 0 11 bs (0,0)
def dA2 (bs:List Int):Int × RS:=rN 1 1099511627776 bs (dA1 bs).2
def dA3 (bs:List Int):(ByteArray × Int) × RS:=rId bs (dA2 bs).2
def dA4 (bs:List Int):List Int × RS:=rY bs 65536 (dA3 bs).2
def dA5 (bs:List Int):Int × RS:=rC bs 16 (dA4 bs).2
def dA6 (bs:List Int):List ByteArray × RS:=rSums bs (dA5 bs).1.toNat (dA5 bs).2
def shL (s:ByteArray) (ix:Int) (xs:List Int) (ys:List ByteArray):Bool:=decide ((s.size=32∧0≤ix∧ix≤15)∧(1≤xs.length∧xs.length≤65536)∧(1≤ys.length∧ys.length≤16)∧sumsB ys=true)
theorem shL_eq {w:World} {B:Nat} {p:Pc} {xs:List Int} {ys:List ByteArray} (h:PcIn w B p xs ys):shB p ys=shL p.s p.ix xs ys:=by
 unfold shB shL;rw [h.1.1,h.2.1.1]
def okA (bs:List Int):Bool:=decide ((dA6 bs).2.2=0∧¬(dA6 bs).2.1 < bs.length)&&shL (dA3 bs).1.1 (dA3 bs).1.2 (dA4 bs).1 (dA6 bs).1
abbrev zPc:Array Value:=#[.string ⟨#[]⟩,.int .i64 0,.slice none 0 0,.slice none 0 0]
def DAPost (bs:List Int) (w:World) (e:Ending) (w':World):Prop:=
 (okA bs=true∧∃p:Pc,p.s=(dA3 bs).1.1∧p.ix=(dA3 bs).1.2∧e= .returned (.tuple #[.int .i64 (dA1 bs).1,.int .i64 (dA2 bs).1,.agg (cPc p),.int .i64 0])∧PcIn w' w'.heap.size p (dA4 bs).1 (dA6 bs).1∧Below w.heap.size w w'∧(∀t,p.d.a=some t→w.heap.size≤t.block)∧∀t,p.q.a=some t→w.heap.size≤t.block)
 ∨(okA bs=false∧e= .returned (.tuple #[.int .i64 0,.int .i64 0,.agg zPc,.int .i64 3])∧Below w.heap.size w w')
theorem pc4_size (p:Pc):(Tryz.prog.info? 42).map (·.size)=some (cPc p).size:=Tryz.sizePiece
theorem pc4_one (p:Pc):(cPc p).all (·.oneCell')=true:=by
 rw [Array.all_eq_true'];intro x hx;simp at hx;rcases hx with rfl |rfl |rfl |rfl<;>rfl
theorem zpc_size:(Tryz.prog.info? 42).map (·.size)=some zPc.size:=Tryz.sizePiece
theorem dacq_no (dv sq k dy:Int) (pr:ByteArray) (A:Option Addr) (n c:Nat) (w:World) (hk:k≠7):
 Calls Tryz.prog 103 #[.agg #[.int .i64 dv,.int .i64 sq,.int .i64 k,.int .i64 dy,.slice A n c,.string pr]] w fun e w'=>e= .returned (.tuple #[.int .i64 0,.int .i64 0,.agg zPc,.int .i64 1])∧Below w.heap.size w w':=by
 have hkb:(k != 7)=true:=by simp [hk]
 obtain ⟨W1,hW1⟩:∃W1:World,W1=(w.alloc (.cells #[.int .i64 dv,.int .i64 sq,.int .i64 k,.int .i64 dy,.slice A n c,.string pr] 55)).alloc (.cells zPc 42):=⟨_,rfl⟩
 have HB1:Hid (Below w.heap.size w W1):=by show Below _ _ _;rw [hW1];exact bl.alloc sI _
 have HG3:Hid (W1.heap[w.heap.size+1]? =some (.cells zPc 42 (0,0))):=by
  show _=_
  rw [hW1]
  have:=heap_alloc_new (w.alloc (.cells #[.int .i64 dv,.int .i64 sq,.int .i64 k,.int .i64 dy,.slice A n c,.string pr] 55)) (.cells zPc 42)
  simpa using this
 have HWE:=lh hW1;clear hW1;go_enter Tryz.func103,Tryz.ntmps103
 go_wp2_with ((with_reducible refine yaZ (o:=⟨none,_,_,_,_,_⟩) rfl 42 (.tmp 4) (.tmp 12) rfl (w.heap.size+1) 42 _ _ rfl rfl (by rw [←HWE.out];exact HG3.out) (pc_size _ _ _ _ _ _ _) (pc_sz _ _ _ _ _ _ _) (pc_one _ _ _ _ _ _ _) ?_);intro W7 HG7 HB7)
 rw [←HWE.out] at HB7;refine bodyPost_ret (yb4 rfl _ _ _ _ _ _ _ rfl HG7.out Tryz.underlying42 rfl zpc_size) rfl ⟨rfl,HB1.out.trans (HB7.out.below HB1.out.size (fun i hi=>by subst hi;omega))⟩
structure DS (V0 V:World) (g:Nat) (A1:Option Addr) (n c1:Nat) (bs:List Int) (s:RS) (b:Nat) (cs:Array Value):Prop where
 rd:RdS g A1 n c1 bs s V
 pc:V.heap[b]? =some (.cells cs 42 (0,0))
 but:But (fun k=>k=g∨k=b) V0 V
 gb:b≠g
 ab:∀a,A1=some a→b < a.block
theorem DS.read {V0 V V':World} {g:Nat} {A1:Option Addr} {n c1:Nat} {bs:List Int} {s s':RS} {b:Nat} {cs:Array Value} (h:DS V0 V g A1 n c1 bs s b cs) (hr:RdS g A1 n c1 bs s' V') (hb:But (fun k=>k=g) V V'):DS V0 V' g A1 n c1 bs s' b cs:=
 ⟨hr,(hb.block _ (lt_of_block h.pc) h.gb).trans h.pc,h.but.trans hb (fun i hi=> .inl (.inl hi)),h.gb,h.ab⟩
theorem DS.set {V0 V V':World} {g:Nat} {A1:Option Addr} {n c1:Nat} {bs:List Int} {s:RS} {b:Nat} {cs cs':Array Value} (h:DS V0 V g A1 n c1 bs s b cs) (hp:V'.heap[b]? =some (.cells cs' 42 (0,0))) (hb:But (fun k=>k=b) V V'):DS V0 V' g A1 n c1 bs s b cs':=
 ⟨h.rd.but2 hb (fun e=>h.gb e.symm) (fun a ha e=>by have:=h.ab a ha;omega),hp,h.but.trans hb (fun i hi=> .inl (.inr hi)),h.gb,h.ab⟩
theorem DS.grow {V0 V V':World} {g:Nat} {A1:Option Addr} {n c1:Nat} {bs:List Int} {s:RS} {b:Nat} {cs:Array Value} (h:DS V0 V g A1 n c1 bs s b cs) {B:Nat} (hb:Below B V V') (hB:V0.heap.size≤B) (hg:g < V0.heap.size) (hl:b < V0.heap.size) (hA:∀a,A1=some a→a.block < V0.heap.size):DS V0 V' g A1 n c1 bs s b cs:=by
 have hB':But (fun k=>B≤k) V V':=⟨hb.os,hb.tape,hb.output,hb.size,fun k hk hn=>hb.block k om⟩;exact ⟨h.rd.but2 hB' om (fun a ha=>by have:=hA a ha;omega),(hb.block _ om).trans h.pc,h.but.trans hB' (fun i hi=> .inr om),h.gb,h.ab⟩
theorem dacq_any (dv sq dy:Int) (pr:ByteArray) (A:Option Addr) (n c B:Nat) (bs:List Int) (w:World) (hx:Sl fB w B A n bs) (hB:B≤w.heap.size) (hn:n≤1000000) (hbr:∀b∈bs,0≤b∧b < 256):
 Calls Tryz.prog 103 #[.agg #[.int .i64 dv,.int .i64 sq,.int .i64 7,.int .i64 dy,.slice A n c,.string pr]] w (DAPost bs w):=by
 obtain ⟨i0,hi,hz0,hz1,hz2⟩:=info_parts Tryz.infoS;have HI:=lh hi;have HZ0:=lh hz0;have HZ1:=lh hz1;have HZ2:=lh hz2;have hl:bs.length=n:=hx.1;have hp0:(0,(0:Int)).1≤n:=Nat.zero_le _;have hp1:(dA1 bs).2.1≤n:=rN_le hl hp0;have hp2:(dA2 bs).2.1≤n:=rN_le hl hp1;have hp3:(dA3 bs).2.1≤n:=rId_le hl hp2;have hp4:(dA4 bs).2.1≤n:=rY_le hl hp3;have hp5:(dA5 bs).2.1≤n:=rC_le hl hp4
 obtain ⟨k5,hk5e,hk5⟩:∃k:Nat,(dA5 bs).1=k∧k≤16:=by
  have h:=rC_range (bs:=bs) (m:=16) (s:=(dA4 bs).2);exact ⟨(dA5 bs).1.toNat,(Int.toNat_of_nonneg h.1).symm,by have h2:(dA5 bs).1≤16:=h.2;omega⟩
 have HP6:Hid (∀k,(rSums bs k (dA5 bs).2).2.1≤n):=fun k=>ydL hl k hp5
 obtain ⟨W1,hW1⟩:∃W1:World,W1=(w.alloc (.cells #[.int .i64 dv,.int .i64 sq,.int .i64 7,.int .i64 dy,.slice A n c,.string pr] 55)).alloc (.cells zPc 42):=⟨_,rfl⟩
 have hb1:Below w.heap.size w W1:=by rw [hW1];exact bl.alloc sI _
 have hs1:W1.heap.size=w.heap.size+1+1:=by rw [hW1];simp
 have hg3:W1.heap[w.heap.size+1]? =some (.cells zPc 42 (0,0)):=by
  rw [hW1]
  have:=heap_alloc_new (w.alloc (.cells #[.int .i64 dv,.int .i64 sq,.int .i64 7,.int .i64 dy,.slice A n c,.string pr] 55)) (.cells zPc 42)
  simpa using this
 have HNR:=lh (ybO A n c bs W1 ((hx.up hb1 hB).more' (Nat.le_trans hB hb1.size)) hn);have HB1:=lh hb1;have HS1:=lh hs1;have HG3:=lh hg3;have HWE:=lh hW1;have HBR:=lh hbr;have HL:=lh hl;rw [hW1] at HNR;have H1:Hid (∀g A1 c1 V,n≤c1→RdS g A1 n c1 bs (0,0) V→Calls Tryz.prog 169 #[.pointer (some ⟨g,0,none⟩),.int .i64 0,.int .i64 11] V (RPost g A1 n c1 bs (.int .i64 (dA1 bs).1) (dA1 bs).2 V)):=fun g A1 c1 V hc h=>rn_any 0 11 de de g A1 n c1 bs (0,0) V h ⟨hbr,hn,hc⟩ hp0
 have H2:Hid (∀g A1 c1 V,n≤c1→RdS g A1 n c1 bs (dA1 bs).2 V→Calls Tryz.prog 169 #[.pointer (some ⟨g,0,none⟩),.int .i64 1,.int .i64 1099511627776] V (RPost g A1 n c1 bs (.int .i64 (dA2 bs).1) (dA2 bs).2 V)):=fun g A1 c1 V hc h=>rn_any 1 1099511627776 de de g A1 n c1 bs _ V h ⟨hbr,hn,hc⟩ hp1
 have H3:Hid (∀g A1 c1 V,n≤c1→RdS g A1 n c1 bs (dA2 bs).2 V→Calls Tryz.prog 170 #[.pointer (some ⟨g,0,none⟩)] V (RPost g A1 n c1 bs (.agg #[.string (dA3 bs).1.1,.int .i64 (dA3 bs).1.2]) (dA3 bs).2 V)):=fun g A1 c1 V hc h=>rid_any g A1 n c1 bs _ V h ⟨hbr,hn,hc⟩ hp2
 have H4:Hid (∀g A1 c1 V,n≤c1→RdS g A1 n c1 bs (dA3 bs).2 V→Calls Tryz.prog 171 #[.pointer (some ⟨g,0,none⟩),.int .i64 65536] V (RYPost g A1 n c1 bs (dA4 bs).1 (dA4 bs).2 V)):=fun g A1 c1 V hc h=>ry_any g A1 n c1 bs _ 65536 de V h ⟨hbr,hn,hc⟩ hp3
 have H5:Hid (∀g A1 c1 V,n≤c1→RdS g A1 n c1 bs (dA4 bs).2 V→Calls Tryz.prog 141 #[.pointer (some ⟨g,0,none⟩),.int .i64 16] V (RPost g A1 n c1 bs (.int .i64 (dA5 bs).1) (dA5 bs).2 V)):=fun g A1 c1 V hc h=>rc_any g A1 n c1 bs _ 16 de V h ⟨hbr,hn,hc⟩ hp4
 have H6:Hid (∀k g A1 c1 V,n≤c1→RdS g A1 n c1 bs (rSums bs k (dA5 bs).2).2 V→Calls Tryz.prog 172 #[.pointer (some ⟨g,0,none⟩)] V (RPost g A1 n c1 bs (.string (rS bs (rSums bs k (dA5 bs).2).2).1) (rS bs (rSums bs k (dA5 bs).2).2).2 V)):=fun k g A1 c1 V hc h=>rs_any g A1 n c1 bs _ V h ⟨hbr,hn,hc⟩ (HP6.out k)
 have HD6:Hid (dA6 bs=rSums bs (dA5 bs).1.toNat (dA5 bs).2):=rfl;have HOK:Hid (okA bs=(decide ((dA6 bs).2.2=0∧¬(dA6 bs).2.1 < n)&&shL (dA3 bs).1.1 (dA3 bs).1.2 (dA4 bs).1 (dA6 bs).1)):=by show okA bs=_;unfold okA;rw [hl]
 unfold DAPost;rw [hk5e] at H5;rw [HD6.out,hk5e,Int.toNat_natCast] at HOK;have HD6':Hid (dA6 bs=rSums bs k5 (dA5 bs).2):=by show _=_;rw [HD6.out,hk5e,Int.toNat_natCast]
 rw [HD6'.out];clear HD6 HD6' hk5e
 generalize dA1 bs=R1 at*
 generalize dA2 bs=R2 at*
 generalize dA3 bs=R3 at*
 generalize dA4 bs=R4 at*
 generalize dA5 bs=R5 at*
 obtain ⟨d1,s1⟩:=R1;obtain ⟨q1,s2⟩:=R2;obtain ⟨⟨st,ix⟩,s3⟩:=R3;obtain ⟨xs,s4⟩:=R4;obtain ⟨z5,s5⟩:=R5;dsimp only at H1 H2 H3 H4 H5 H6 HOK HP6 ⊢;clear hi hz0 hz1 hz2 hx hB hbr hl hp0 hp1 hp2 hp3 hp4 hp5 hb1 hs1 hg3 hW1;go_enter Tryz.func103,Tryz.ntmps103
 go_wp2_with (first
  |(go_at_call 81;(with_reducible refine HNR.out.mono ?_);rintro e V0 ⟨g,A1,c1,rfl,r0,x0,hg0,hb0,hc0,hA0⟩
    rw [←HWE.out] at hg0 hb0 hA0;have D0:Hid (DS V0 V0 g A1 n c1 bs (0,0) (w.heap.size+1) zPc):=⟨⟨⟨_,r0⟩,x0⟩,(hb0.block _ (lt_of_block HG3.out)).trans HG3.out,But.refl _ _,by have:=HS1.out;omega,fun a ha=>by have:=(hA0 a ha).1;have:=HS1.out;omega⟩;have HA1:Hid (∀a,A1=some a→a.block < V0.heap.size):=fun a ha=>(hA0 a ha).2
    have HC1:=lh hc0;have HG0:=lh hg0;have HB0:=lh hb0;have HGL:Hid (g < V0.heap.size):=lt_of_block r0
    clear r0 x0 hg0 hb0 hc0 hA0)
  |(go_at_call 169;(with_reducible refine (H1.out g A1 c1 _ HC1.out D0.out.rd).mono ?_);rintro e V1 ⟨rfl,r,b⟩
    have D1:=lh (D0.out.read r b)
    clear r b)
  |(go_at_call 169;(with_reducible refine (H2.out g A1 c1 _ HC1.out D1.out.rd).mono ?_);rintro e V2 ⟨rfl,r,b⟩
    have D2:=lh (D1.out.read r b)
    clear r b)
  |(go_at_call 170;(with_reducible refine (H3.out g A1 c1 _ HC1.out D2.out.rd).mono ?_);rintro e V3 ⟨rfl,r,b⟩
    have D3:=lh (D2.out.read r b)
    clear r b)
  |((with_reducible refine ydy (o:=⟨none,_,_,_,_,_⟩) rfl 31 (.tmp 22) (.tmp 21) rfl (w.heap.size+1) 42 _ _ _ _ _ _ rfl rfl D3.out.pc Tryz.sizePid (pid_one _ _) ?_);intro V4 HG4 HB4
    have D4:=lh (D3.out.set HG4.out HB4.out)
    clear HG4 HB4)
  |(go_at_call 171;(with_reducible refine (H4.out g A1 c1 _ HC1.out D4.out.rd).mono ?_);rintro e V5 ⟨Ad,kd,cd,rfl,ho,r,b⟩
    have D5:=D4.out.read r b;have HV4:Hid (V0.heap.size≤V4.heap.size):=D4.out.but.size;have cc2:=cell_of_row V5 (w.heap.size+1) 2 _ _ _ D5.pc;have ff2:=frozen_of_row V5 (w.heap.size+1) 2 _ _ D5.pc;simp at cc2;have D6:Hid (DS V0 (V5.setCell ⟨w.heap.size+1,2,none⟩ (.slice Ad kd cd)) g A1 n c1 bs s4 (w.heap.size+1) #[.string st,.int .i64 ix,.slice Ad kd cd,.slice none 0 0]):=D5.set (heap_setCell_same V5 _ 2 _ _ (.slice Ad kd cd) D5.pc) (But.setCell (p:=fun k=>k=w.heap.size+1) (x:=⟨w.heap.size+1,2,none⟩) (But.refl _ _) (.inl rfl) _);have HO6:Hid (Own fB 5 (V5.setCell ⟨w.heap.size+1,2,none⟩ (.slice Ad kd cd)) V0.heap.size (.slice Ad kd cd) xs):=(ho.low HV4.out).but (But.setCell (p:=fun k=>k=w.heap.size+1) (x:=⟨w.heap.size+1,2,none⟩) (But.refl _ _) (.inl rfl) _) (fun k hk e=>by have h1:=(World.ownsRow.lt ho k hk).1;have h2:=HV4.out;have h3:=HGL.out;have h4:=HG0.out;have h5:=HS1.out;omega)
    clear ho r b D5)
  |(go_at_call 141;(with_reducible refine (H5.out g A1 c1 _ HC1.out D6.out.rd).mono ?_);rintro e V7 ⟨rfl,r,b⟩
    clear cc2 ff2;have D7:=lh (D6.out.read r b);have HO7:Hid (Own fB 5 V7 V0.heap.size (.slice Ad kd cd) xs):=HO6.out.but b (fun k hk e=>by have h1:=(World.ownsRow.lt HO6.out k hk).1;have h3:=HGL.out;omega)
    clear r b))
 clear D1 D2 D3 D4 D6 HO6 H1 H2 H3 H4 H5 HNR
 go_loopw [28] (fun i wr=>∃(j:Nat) (A':Option Addr) (l' c':Nat),j≤k5∧i= .int .i64 j∧Hid (DS V0 wr g A1 n c1 bs (rSums bs j s5).2 (w.heap.size+1) #[.string st,.int .i64 ix,.slice Ad kd cd,.slice A' l' c'])∧Hid (Own fB 5 wr V0.heap.size (.slice Ad kd cd) xs)∧Hid (Own fT 9 wr V0.heap.size (.slice A' l' c') (rSums bs j s5).1)) (fun i _=>k5 - (intOf i).toNat)
 case atStart=>exact ⟨0,none,0,0,by omega,rfl,D7,HO7,Own.nil⟩
 case round=>
  obtain ⟨j,A',l',c',hj,rfl,D,HO,HT⟩:=hrel
  by_cases hlt:j < k5
  ·
   have hjI:(j:Int) < (k5:Int):=by omega
   have c3:=cell_of_row wr (w.heap.size+1) 3 _ _ _ D.out.pc;simp at c3
   go_wp2_with fail
   have HTl:Hid ((rSums bs j s5).1.length=j):=yca bs j s5;have HK1:Hid (((rSums bs j s5).1.length+[(rS bs (rSums bs j s5).2).1].length)*16≤140737488355328):=by show _≤_;rw [HTl.out];simp only [List.length_cons,List.length_nil];omega
   have HK2:Hid ((rSums bs j s5).1.length+[(rS bs (rSums bs j s5).2).1].length≤maxLen):=by show _≤_;rw [HTl.out];simp only [List.length_cons,List.length_nil];unfold maxLen;omega
   obtain ⟨x,hx⟩:∃x,x=(rS bs (rSums bs j s5).2).1:=⟨_,rfl⟩
   have H6j:=lh (H6.out j);rw [←hx] at H6j HK1 HK2;have HX:=lh hx;have HSJ:Hid (rSums bs (j+1) s5=((rSums bs j s5).1++[x],(rS bs (rSums bs j s5).2).2)):=by show _=_;rw [hx];rfl
   have HBB:Hid (w.heap.size+1 < V0.heap.size):=lt_of_block D0.out.pc;clear hx;refine wp_region_held_drew (S:=(fun _=>True)) yaV yaX (fun hHeld=>?_);refine tkY 0 ?_;refine tkY 2 ?_;refine rd2 1 3 (fun K hK=>?_) (fun K hK=>?_)
   ·go_simp
    refine hK.out _ _ yaX (fun hHeldq3=>?_);clear hK K hHeld
    try simp only [pt]
    refine rd1 3 (fun K hK=>?_)
    (go_simp;go_at_call 172;(refine (H6j.out g A1 c1 _ HC1.out ?_).mono ?_);(exact D.out.rd);(rintro e w6 ⟨rfl,r6,b6⟩);(have b6':But (fun k=>k=g) wr w6:=⟨b6.os,b6.tape,b6.output,b6.size,b6.block⟩);(have D6:=lh (D.out.read r6 b6'));(have c36:w6.cell? ⟨w.heap.size+1,3,none⟩=some (.slice A' l' c'):=by (rw [cell_of_row w6 _ 3 _ _ _ D6.out.pc];rfl));(have c36a:(w6.alloc (.cells #[.string x] 9)).cell? ⟨w.heap.size+1,3,none⟩=some (.slice A' l' c'):=by (rw [cell_of_row _ _ 3 _ _ _ ((Below.heap_alloc _ _ _ (lt_of_block D6.out.pc)).trans D6.out.pc)];rfl));(have HO6:=lh (HO.out.but b6' (fun k hk e=>by have h1:=(World.ownsRow.lt HO.out k hk).1;have h3:=HGL.out;omega)));(have HT6:=lh (HT.out.butG b6' (fun k hk e=>by have h1:=(World.ownsRow.lt HT.out k hk).1;have h3:=HGL.out;omega)));(have HS6:Hid (V0.heap.size≤w6.heap.size):=D6.out.but.size);(clear r6 b6 b6');(try go_simp))
    refine hK.out _ _ yaX (fun hHeldq4=>?_);clear hK K hHeldq3
    try simp only [pt]
    refine rd1 4 (fun K hK=>?_)
    go_simp
    refine hK.out _ _ yaX (fun hHeldq5=>?_);clear hK K hHeldq4
    try simp only [pt]
    refine rd1 5 (fun K hK=>?_)
    ((refine ybv (f:=fT) (.tmp 31) (.tmp 34) 24 rfl rfl 9 i0 (.string ⟨#[]⟩) 16 Tryz.underlying24 HI.out HZ0.out HZ1.out HZ2.out rfl (rSums bs j s5).1 V0.heap.size ?hown [x] ?hrow fT1 HK1.out HK2.out ?hbase ?_);(case hown=>exact HT6.out.alloc _);(case hrow=>exact ⟨_,_,1,1,rfl,rfl,SL.of_block (t:=9) (fr:=(0,0)) (heap_alloc_new _ _) (Nat.lt_succ_self _)⟩);(case hbase=>have:=HS6.out;simp;omega);(intro v7 w7 HT7 HG7 HV7 HB7);(have D7:=lh (D6.out.grow (HB7.out V0.heap.size w6 (br.alloc HS6.out _) nl) nl HGL.out HBB.out HA1.out));(have HO7:=lh ((HO6.out.alloc (.cells #[.string x] 9)).kept HG7.out (own_apart (HO6.out.alloc (.cells #[.string x] 9)) (HT6.out.alloc (.cells #[.string x] 9)) de)));(obtain ⟨A8,c8,hv8,_,_,_⟩:=HT7.out.shape);(obtain ⟨l8,hl8⟩:∃l,((rSums bs j s5).1++[x]).length=l:=⟨_,rfl⟩);(rw [hl8] at hv8);(subst hv8);(have c37:w7.cell? ⟨w.heap.size+1,3,none⟩=some (.slice A' l' c'):=by (rw [cell_of_row w7 _ 3 _ _ _ D7.out.pc];rfl));(have f37:=frozen_of_row w7 (w.heap.size+1) 3 _ _ D7.out.pc);(try clear hl8);(try go_simp))
    refine hK.out _ _ yaX (fun hHeldq6=>?_);clear hK K hHeldq5
    try simp only [pt]
    refine tkY 6 ?_;refine rd1 7 (fun K hK=>?_)
    go_simp
    refine hK.out _ _ yaX (fun hHeldq8=>?_);clear hK K hHeldq6
    try simp only [pt]
    refine wpAnyH_done yaV ?_ _
    go_wp2_with fail
    go_roundw
    case rel=>
     have hB8:But (fun k=>k=w.heap.size+1) w7 (w7.setCell ⟨w.heap.size+1,3,none⟩ (.slice A8 l8 c8)):=But.setCell (p:=fun k=>k=w.heap.size+1) (x:=⟨w.heap.size+1,3,none⟩) (But.refl _ _) (.inl rfl) _;have D8:=D7.out.set (heap_setCell_same w7 _ 3 _ _ (.slice A8 l8 c8) D7.out.pc) hB8;refine ⟨j+1,A8,l8,c8,by omega,by go_num,?_,HO7.out.but hB8 (fun k hk e=>by have h1:=(World.ownsRow.lt HO7.out k hk).1;have h3:=HBB.out;omega),?_⟩
     ·rw [HSJ.out]
      exact ⟨D8.rd,D8.pc,D8.but,D8.gb,D8.ab⟩
     ·rw [HSJ.out]
      exact HT7.out.butG hB8 (fun k hk e=>by have h1:=(World.ownsRow.lt HT7.out k hk).1;have h3:=HBB.out;omega)
    case measure=>simp [intOf];omega
   ·(go_simp;go_at_call 172;(refine (H6j.out g A1 c1 _ HC1.out ?_).mono ?_);(exact D.out.rd);(rintro e w6 ⟨rfl,r6,b6⟩);(have b6':But (fun k=>k=g) wr w6:=⟨b6.os,b6.tape,b6.output,b6.size,b6.block⟩);(have D6:=lh (D.out.read r6 b6'));(have c36:w6.cell? ⟨w.heap.size+1,3,none⟩=some (.slice A' l' c'):=by (rw [cell_of_row w6 _ 3 _ _ _ D6.out.pc];rfl));(have c36a:(w6.alloc (.cells #[.string x] 9)).cell? ⟨w.heap.size+1,3,none⟩=some (.slice A' l' c'):=by (rw [cell_of_row _ _ 3 _ _ _ ((Below.heap_alloc _ _ _ (lt_of_block D6.out.pc)).trans D6.out.pc)];rfl));(have HO6:=lh (HO.out.but b6' (fun k hk e=>by have h1:=(World.ownsRow.lt HO.out k hk).1;have h3:=HGL.out;omega)));(have HT6:=lh (HT.out.butG b6' (fun k hk e=>by have h1:=(World.ownsRow.lt HT.out k hk).1;have h3:=HGL.out;omega)));(have HS6:Hid (V0.heap.size≤w6.heap.size):=D6.out.but.size);(clear r6 b6 b6');(try go_simp))
    refine hK.out _ _ yaX (fun hHeldq9=>?_);clear hK K hHeld
    try simp only [pt]
    refine rd2 1 4 (fun K hK=>?_) (fun K hK=>?_)
    ·go_simp
     refine hK.out _ _ yaX (fun hHeldq10=>?_);clear hK K hHeldq9
     try simp only [pt]
     refine rd1 4 (fun K hK=>?_)
     go_simp
     refine hK.out _ _ yaX (fun hHeldq11=>?_);clear hK K hHeldq10
     try simp only [pt]
     refine rd1 5 (fun K hK=>?_)
     ((refine ybv (f:=fT) (.tmp 31) (.tmp 34) 24 rfl rfl 9 i0 (.string ⟨#[]⟩) 16 Tryz.underlying24 HI.out HZ0.out HZ1.out HZ2.out rfl (rSums bs j s5).1 V0.heap.size ?hown [x] ?hrow fT1 HK1.out HK2.out ?hbase ?_);(case hown=>exact HT6.out.alloc _);(case hrow=>exact ⟨_,_,1,1,rfl,rfl,SL.of_block (t:=9) (fr:=(0,0)) (heap_alloc_new _ _) (Nat.lt_succ_self _)⟩);(case hbase=>have:=HS6.out;simp;omega);(intro v7 w7 HT7 HG7 HV7 HB7);(have D7:=lh (D6.out.grow (HB7.out V0.heap.size w6 (br.alloc HS6.out _) nl) nl HGL.out HBB.out HA1.out));(have HO7:=lh ((HO6.out.alloc (.cells #[.string x] 9)).kept HG7.out (own_apart (HO6.out.alloc (.cells #[.string x] 9)) (HT6.out.alloc (.cells #[.string x] 9)) de)));(obtain ⟨A8,c8,hv8,_,_,_⟩:=HT7.out.shape);(obtain ⟨l8,hl8⟩:∃l,((rSums bs j s5).1++[x]).length=l:=⟨_,rfl⟩);(rw [hl8] at hv8);(subst hv8);(have c37:w7.cell? ⟨w.heap.size+1,3,none⟩=some (.slice A' l' c'):=by (rw [cell_of_row w7 _ 3 _ _ _ D7.out.pc];rfl));(have f37:=frozen_of_row w7 (w.heap.size+1) 3 _ _ D7.out.pc);(try clear hl8);(try go_simp))
     refine hK.out _ _ yaX (fun hHeldq12=>?_);clear hK K hHeldq11
     try simp only [pt]
     refine tkY 6 ?_;refine rd1 7 (fun K hK=>?_)
     go_simp
     refine hK.out _ _ yaX (fun hHeldq14=>?_);clear hK K hHeldq12
     try simp only [pt]
     refine wpAnyH_done yaV ?_ _
     go_wp2_with fail
     go_roundw
     case rel=>
      have hB8:But (fun k=>k=w.heap.size+1) w7 (w7.setCell ⟨w.heap.size+1,3,none⟩ (.slice A8 l8 c8)):=But.setCell (p:=fun k=>k=w.heap.size+1) (x:=⟨w.heap.size+1,3,none⟩) (But.refl _ _) (.inl rfl) _;have D8:=D7.out.set (heap_setCell_same w7 _ 3 _ _ (.slice A8 l8 c8) D7.out.pc) hB8;refine ⟨j+1,A8,l8,c8,by omega,by go_num,?_,HO7.out.but hB8 (fun k hk e=>by have h1:=(World.ownsRow.lt HO7.out k hk).1;have h3:=HBB.out;omega),?_⟩
      ·rw [HSJ.out]
       exact ⟨D8.rd,D8.pc,D8.but,D8.gb,D8.ab⟩
      ·rw [HSJ.out]
       exact HT7.out.butG hB8 (fun k hk e=>by have h1:=(World.ownsRow.lt HT7.out k hk).1;have h3:=HBB.out;omega)
     case measure=>simp [intOf];omega
    ·go_simp
     refine hK.out _ _ yaX (fun hHeldq15=>?_);clear hK K hHeldq9
     try simp only [pt]
     refine rd1 1 (fun K hK=>?_)
     go_simp
     refine hK.out _ _ yaX (fun hHeldq16=>?_);clear hK K hHeldq15
     try simp only [pt]
     refine rd1 5 (fun K hK=>?_)
     ((refine ybv (f:=fT) (.tmp 31) (.tmp 34) 24 rfl rfl 9 i0 (.string ⟨#[]⟩) 16 Tryz.underlying24 HI.out HZ0.out HZ1.out HZ2.out rfl (rSums bs j s5).1 V0.heap.size ?hown [x] ?hrow fT1 HK1.out HK2.out ?hbase ?_);(case hown=>exact HT6.out.alloc _);(case hrow=>exact ⟨_,_,1,1,rfl,rfl,SL.of_block (t:=9) (fr:=(0,0)) (heap_alloc_new _ _) (Nat.lt_succ_self _)⟩);(case hbase=>have:=HS6.out;simp;omega);(intro v7 w7 HT7 HG7 HV7 HB7);(have D7:=lh (D6.out.grow (HB7.out V0.heap.size w6 (br.alloc HS6.out _) nl) nl HGL.out HBB.out HA1.out));(have HO7:=lh ((HO6.out.alloc (.cells #[.string x] 9)).kept HG7.out (own_apart (HO6.out.alloc (.cells #[.string x] 9)) (HT6.out.alloc (.cells #[.string x] 9)) de)));(obtain ⟨A8,c8,hv8,_,_,_⟩:=HT7.out.shape);(obtain ⟨l8,hl8⟩:∃l,((rSums bs j s5).1++[x]).length=l:=⟨_,rfl⟩);(rw [hl8] at hv8);(subst hv8);(have c37:w7.cell? ⟨w.heap.size+1,3,none⟩=some (.slice A' l' c'):=by (rw [cell_of_row w7 _ 3 _ _ _ D7.out.pc];rfl));(have f37:=frozen_of_row w7 (w.heap.size+1) 3 _ _ D7.out.pc);(try clear hl8);(try go_simp))
     refine hK.out _ _ yaX (fun hHeldq17=>?_);clear hK K hHeldq16
     try simp only [pt]
     refine tkY 6 ?_;refine rd1 7 (fun K hK=>?_)
     go_simp
     refine hK.out _ _ yaX (fun hHeldq19=>?_);clear hK K hHeldq17
     try simp only [pt]
     refine wpAnyH_done yaV ?_ _
     go_wp2_with fail
     go_roundw
     case rel=>
      have hB8:But (fun k=>k=w.heap.size+1) w7 (w7.setCell ⟨w.heap.size+1,3,none⟩ (.slice A8 l8 c8)):=But.setCell (p:=fun k=>k=w.heap.size+1) (x:=⟨w.heap.size+1,3,none⟩) (But.refl _ _) (.inl rfl) _;have D8:=D7.out.set (heap_setCell_same w7 _ 3 _ _ (.slice A8 l8 c8) D7.out.pc) hB8;refine ⟨j+1,A8,l8,c8,by omega,by go_num,?_,HO7.out.but hB8 (fun k hk e=>by have h1:=(World.ownsRow.lt HO7.out k hk).1;have h3:=HBB.out;omega),?_⟩
      ·rw [HSJ.out]
       exact ⟨D8.rd,D8.pc,D8.but,D8.gb,D8.ab⟩
      ·rw [HSJ.out]
       exact HT7.out.butG hB8 (fun k hk e=>by have h1:=(World.ownsRow.lt HT7.out k hk).1;have h3:=HBB.out;omega)
     case measure=>simp [intOf];omega
  ·obtain rfl:j=k5:=by omega
   obtain ⟨⟨pv,hrd⟩,hsl⟩:=D.out.rd;have HEN:=lh (ydF g A1 n c1 _ pv _ wr hrd);obtain ⟨As,cs',hvs,hcs,hsS,_⟩:=HT.out.shape;obtain ⟨Ax,cx',hvx,hcx,hxS,_⟩:=HO.out.shape;have hkd:kd=xs.length:=by injection hvx
   have hcd:cd=cx':=by injection hvx
   have had:Ad=Ax:=by injection hvx
   have hks:l'=(rSums bs j s5).1.length:=by injection hvs
   have hcc:c'=cs':=by injection hvs
   have has:A'=As:=by injection hvs
   have HPI:Hid (PcIn wr wr.heap.size ⟨st,ix,⟨Ad,kd,cd⟩,⟨A',l',c'⟩⟩ xs (rSums bs j s5).1):=⟨⟨hkd.symm,by rw [had];exact hxS⟩,⟨hks.symm,by rw [has];exact hsS⟩,by rw [hkd,hcd];exact hcx,by rw [hks,hcc];exact hcs⟩;have HSE:Hid (shB ⟨st,ix,⟨Ad,kd,cd⟩,⟨A',l',c'⟩⟩ (rSums bs j s5).1=shL st ix xs (rSums bs j s5).1):=shL_eq HPI.out
   have HBV:Hid (Below w.heap.size w wr):=by
    have h1:Below w.heap.size w V0:=HB1.out.trans (HB0.out.mono HB1.out.size);exact h1.trans (D.out.but.below h1.size (fun i hi=>by have h2:=HG0.out;have h3:=HS1.out;rcases hi with rfl |rfl<;>omega))
   obtain ⟨ys,hys⟩:∃ys,ys=(rSums bs j s5).1:=⟨_,rfl⟩
   rw [←hys] at HPI HSE HOK;have HYS:=lh hys;obtain ⟨⟨p6,e6⟩,hp6⟩:∃q,(rSums bs j s5).2=q:=⟨_,rfl⟩
   rw [hp6] at HEN HOK;dsimp only at HEN HOK;obtain ⟨z,hz⟩:∃z:Int,(if e6=0 then (if p6 < n then 3 else 0) else e6)=z:=⟨_,rfl⟩
   rw [hz] at HEN;have HPC:=lh D.out.pc;have HFR:Hid ((∀t,Ad=some t→w.heap.size≤t.block)∧∀t,A'=some t→w.heap.size≤t.block):=⟨fun t ht=>by have h1:=(World.ownsRow.lt HO.out t.block (by rw [ht];rfl)).1;have h2:=HB0.out.size;have h3:=HB1.out.size;omega,fun t ht=>by have h1:=(World.ownsRow.lt HT.out t.block (by rw [ht];rfl)).1;have h2:=HB0.out.size;have h3:=HB1.out.size;omega⟩;clear D0 D7 D HO HT HO7 hrd hsl hvs hcs hsS hvx hcx hxS hkd hcd had hks hcc has hys hp6 H6 HP6 HI HZ0 HZ1 HZ2
   by_cases hz0:z=0
   ·subst hz0
    have hd6:decide (e6=0∧¬p6 < n)=true:=by
     by_cases h1:e6=0
     ·rw [if_pos h1] at hz
      by_cases h2:p6 < n
      ·rw [if_pos h2] at hz;cases hz
      ·exact decide_eq_true ⟨h1,h2⟩
     ·rw [if_neg h1] at hz;exact absurd hz h1
    rw [hd6,Bool.true_and,←HSE.out] at HOK;clear hz hd6;have HSH:Hid (∀V,Below wr.heap.size wr V→Calls Tryz.prog 71 #[.agg #[.string st,.int .i64 ix,.slice Ad kd cd,.slice A' l' c']] V fun e w'=>e= .returned (.bool (shB ⟨st,ix,⟨Ad,kd,cd⟩,⟨A',l',c'⟩⟩ ys))∧Below V.heap.size V w'):=fun V hb=>isShown_any ⟨st,ix,⟨Ad,kd,cd⟩,⟨A',l',c'⟩⟩ xs ys wr.heap.size V (HPI.out.up hb nl) hb.size
    cases hsh:shB ⟨st,ix,⟨Ad,kd,cd⟩,⟨A',l',c'⟩⟩ ys
    ·rw [hsh] at HOK HSH
     clear hsh HSE
     go_wp2_with (first
      |(go_at_call 142;(with_reducible refine HEN.out.mono ?_);rintro e w8 ⟨rfl,b8⟩
        have B8:=lh b8;have p8:=(b8.block _ (lt_of_block HPC.out)).trans HPC.out;have k0:=cell_of_row w8 (w.heap.size+1) 0 _ _ _ p8;have k1:=cell_of_row w8 (w.heap.size+1) 1 _ _ _ p8;have k2:=cell_of_row w8 (w.heap.size+1) 2 _ _ _ p8;have k3:=cell_of_row w8 (w.heap.size+1) 3 _ _ _ p8;simp at k0 k1 k2 k3;have P8:=lh p8
        clear b8 p8)
      |(go_at_call 71;(with_reducible refine (HSH.out _ B8.out).mono ?_);rintro e w9 ⟨rfl,b9⟩
        clear k0 k1 k2 k3;have P9:Hid (w9.heap[w.heap.size+1]? =some (.cells _ 42 (0,0))):=(b9.block _ (lt_of_block P8.out)).trans P8.out;have B9:Hid (Below wr.heap.size wr w9):=B8.out.trans (b9.mono B8.out.size)
        clear b9)
      |((with_reducible refine yaZ (o:=⟨none,_,_,_,_,_⟩) rfl 42 (.tmp 4) (.tmp 50) rfl (w.heap.size+1) 42 _ _ rfl rfl P9.out (pc_size _ _ _ _ _ _ _) (pc_sz _ _ _ _ _ _ _) (pc_one _ _ _ _ _ _ _) ?_);intro W7 HG7 HB7))
     refine bodyPost_ret (yb4 rfl _ _ _ _ _ _ _ rfl HG7.out Tryz.underlying42 rfl zpc_size) rfl (.inr ⟨HOK.out,rfl,?_⟩);have h1:=HBV.out.trans (B9.out.mono HBV.out.size);exact h1.trans (HB7.out.below h1.size (fun i hi=>by subst hi;omega))
    ·rw [hsh] at HOK HSH
     clear hsh HSE
     go_upto_region 15 with (first
      |(go_at_call 142;(with_reducible refine HEN.out.mono ?_);rintro e w8 ⟨rfl,b8⟩
        have B8:=lh b8;have p8:=(b8.block _ (lt_of_block HPC.out)).trans HPC.out;have k0:=cell_of_row w8 (w.heap.size+1) 0 _ _ _ p8;have k1:=cell_of_row w8 (w.heap.size+1) 1 _ _ _ p8;have k2:=cell_of_row w8 (w.heap.size+1) 2 _ _ _ p8;have k3:=cell_of_row w8 (w.heap.size+1) 3 _ _ _ p8;simp at k0 k1 k2 k3;have P8:=lh p8
        clear b8 p8)
      |(go_at_call 71;(with_reducible refine (HSH.out _ B8.out).mono ?_);rintro e w9 ⟨rfl,b9⟩
        clear k0 k1 k2 k3;have P9:=lh ((b9.block _ (lt_of_block P8.out)).trans P8.out);have B9:Hid (Below wr.heap.size wr w9):=B8.out.trans (b9.mono B8.out.size)
        clear b9))
     have k0:w9.cell? ⟨w.heap.size+1,0,none⟩=some (.string st):=by rw [cell_of_row w9 _ 0 _ _ _ P9.out];rfl
     have k1:w9.cell? ⟨w.heap.size+1,1,none⟩=some (.int .i64 ix):=by rw [cell_of_row w9 _ 1 _ _ _ P9.out];rfl
     have k2:w9.cell? ⟨w.heap.size+1,2,none⟩=some (.slice Ad kd cd):=by rw [cell_of_row w9 _ 2 _ _ _ P9.out];rfl
     have k3:w9.cell? ⟨w.heap.size+1,3,none⟩=some (.slice A' l' c'):=by rw [cell_of_row w9 _ 3 _ _ _ P9.out];rfl
     refine wp_region_held_drew (S:=(fun w'=>w'.cell? ⟨w.heap.size+1,0,none⟩=some (.string st)∧w'.cell? ⟨w.heap.size+1,1,none⟩=some (.int .i64 ix)∧w'.cell? ⟨w.heap.size+1,2,none⟩=some (.slice Ad kd cd)∧w'.cell? ⟨w.heap.size+1,3,none⟩=some (.slice A' l' c'))) yaV (by first |exact ⟨k0,k1,k2,k3⟩ |go_keep) (fun hHeld=>?_);refine tkY 0 ?_;refine tkY 1 ?_;refine tkY 2 ?_;refine tkY 3 ?_;refine tkY 4 ?_;refine rd1 5 (fun K hK=>?_)
     (refine ybd rfl 42 (.tmp 4) (.tmp 53) rfl (w.heap.size+1) 42 _ _ rfl rfl (by exact P9.out) (pc4_size ⟨st,ix,⟨Ad,kd,cd⟩,⟨A',l',c'⟩⟩) rfl (pc4_one ⟨st,ix,⟨Ad,kd,cd⟩,⟨A',l',c'⟩⟩) ?_);intro W7 HG7 HB7;(have q0:W7.cell? ⟨w.heap.size+1,0,none⟩=some (.string st):=by (rw [cell_of_row W7 _ 0 _ _ _ HG7.out];rfl));(have q1:W7.cell? ⟨w.heap.size+1,1,none⟩=some (.int .i64 ix):=by (rw [cell_of_row W7 _ 1 _ _ _ HG7.out];rfl));(have q2:W7.cell? ⟨w.heap.size+1,2,none⟩=some (.slice Ad kd cd):=by (rw [cell_of_row W7 _ 2 _ _ _ HG7.out];rfl));(have q3:W7.cell? ⟨w.heap.size+1,3,none⟩=some (.slice A' l' c'):=by (rw [cell_of_row W7 _ 3 _ _ _ HG7.out];rfl))
     refine hK.out _ _ (by first |exact ⟨q0,q1,q2,q3⟩ |go_keep) (fun hHeldg5=>?_);clear hK K hHeld
     try simp only [pt]
     refine tkY 6 ?_;refine wpAnyH_done yaV ?_ _
     go_wp2_with fail
     refine bodyPost_ret (yb4 rfl _ _ _ _ _ _ _ rfl HG7.out Tryz.underlying42 rfl (pc4_size ⟨st,ix,⟨Ad,kd,cd⟩,⟨A',l',c'⟩⟩)) rfl (.inl ⟨HOK.out,⟨st,ix,⟨Ad,kd,cd⟩,⟨A',l',c'⟩⟩,rfl,rfl,rfl,?_,?_⟩)
     ·have h97:Below w9.heap.size w9 W7:=⟨HB7.out.os,HB7.out.tape,HB7.out.output,HB7.out.size,fun k hk=>by
       by_cases hkb:k=w.heap.size+1
       ·subst hkb;exact HG7.out.trans P9.out.symm
       ·exact HB7.out.block k hk hkb⟩
      rw [←HYS.out];exact ((HPI.out.up B9.out nl).more B9.out.size |>.up h97 nl).more h97.size
     ·refine ⟨?_,HFR.out⟩
      have h1:=HBV.out.trans (B9.out.mono HBV.out.size);have h2:But (fun k=>k=w.heap.size+1) w9 W7:=⟨HB7.out.os,HB7.out.tape,HB7.out.output,HB7.out.size,HB7.out.block⟩;exact h1.trans (h2.below h1.size (fun i hi=>by subst hi;omega))
   ·have hd6:decide (e6=0∧¬p6 < n)=false:=by
     by_cases h1:e6=0
     ·rw [if_pos h1] at hz
      by_cases h2:p6 < n
      ·exact decide_eq_false (fun h=>h.2 h2)
      ·rw [if_neg h2] at hz;exact absurd hz.symm hz0
     ·exact decide_eq_false (fun h=>h1 h.1)
    rw [hd6,Bool.false_and] at HOK;have hzb:(z != 0)=true:=by simp [hz0]
    clear hz hd6 hz0 HSE HPI
    go_wp2_with (first
     |(go_at_call 142;(with_reducible refine HEN.out.mono ?_);rintro e w8 ⟨rfl,b8⟩
       have B8:=lh b8;have P8:=lh ((b8.block _ (lt_of_block HPC.out)).trans HPC.out)
       clear b8)
     |((with_reducible refine yaZ (o:=⟨none,_,_,_,_,_⟩) rfl 42 (.tmp 4) (.tmp 50) rfl (w.heap.size+1) 42 _ _ rfl rfl P8.out (pc_size _ _ _ _ _ _ _) (pc_sz _ _ _ _ _ _ _) (pc_one _ _ _ _ _ _ _) ?_);intro W7 HG7 HB7))
    refine bodyPost_ret (yb4 rfl _ _ _ _ _ _ _ rfl HG7.out Tryz.underlying42 rfl zpc_size) rfl (.inr ⟨HOK.out,rfl,?_⟩);have h1:=HBV.out.trans (B8.out.mono HBV.out.size);exact h1.trans (HB7.out.below h1.size (fun i hi=>by subst hi;omega))
