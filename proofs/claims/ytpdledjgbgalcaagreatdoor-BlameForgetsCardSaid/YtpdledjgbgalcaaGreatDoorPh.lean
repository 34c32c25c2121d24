/- Numbers, IDs and pieces checked: isNumber, isID, isShown; the reference's Entry, Shaped. The reference's Shaped. wire.Reader.Fail; readUint, readID. -/
import Derived.Test.YtpdledjgbgalcaaGreatDoorPe
import Derived.Test.YtpdledjgbgalcaaGreatDoorMr
import Derived.Test.YtpdledjgbgalcaaGreatDoorMc
namespace Go.Proofs.YtpdledjgbgalcaaGreatDoor
set_option maxRecDepth 100000
set_option maxHeartbeats 2000000
open Go.RowKit Go.Lib
set_option linter.unusedVariables false
set_option linter.unusedSimpArgs false
def numB (d q:Int):Bool:=decide ((0≤d∧d≤11)∧(1≤q∧q≤1099511627776))
def idB (s:ByteArray) (ix:Int):Bool:=decide (s.size=32∧0≤ix∧ix≤15)
def sumsB (ys:List ByteArray):Bool:=ys.all fun s=>decide (s.size=32)
structure Pc where
 s:ByteArray
 ix:Int
 d:Hd
 q:Hd
abbrev cPc (p:Pc):Array Value:=#[.string p.s,.int .i64 p.ix,.slice p.d.a p.d.n p.d.c,.slice p.q.a p.q.n p.q.c]
def shB (p:Pc) (ys:List ByteArray):Bool:=decide ((p.s.size=32∧0≤p.ix∧p.ix≤15)∧(1≤p.d.n∧p.d.n≤65536)∧(1≤p.q.n∧p.q.n≤16)∧sumsB ys=true)
theorem ybC {ys:List ByteArray}:sumsB ys=true↔∀s∈ys,s.size=32:=by unfold sumsB;simp
theorem ydu {ys:List ByteArray} {s:ByteArray} (h:s∈ys) (hs:s.size≠32):sumsB ys=false:=by
 cases hb:sumsB ys
 ·rfl
 ·exact absurd (ybC.1 hb s h) hs
def PcIn (w:World) (B:Nat) (p:Pc) (xs:List Int) (ys:List ByteArray):Prop:=Sl fB w B p.d.a p.d.n xs∧Sl fT w B p.q.a p.q.n ys∧p.d.n≤p.d.c∧p.q.n≤p.q.c
theorem PcIn.up {w w':World} {B B':Nat} {p:Pc} {xs:List Int} {ys:List ByteArray} (h:PcIn w B p xs ys) (hb:Below B' w w') (hB:B≤B'):PcIn w' B p xs ys:=⟨h.1.up hb hB,h.2.1.up hb hB,h.2.2⟩
theorem PcIn.more {w:World} {B B':Nat} {p:Pc} {xs:List Int} {ys:List ByteArray} (h:PcIn w B p xs ys) (hB:B≤B'):PcIn w B' p xs ys:=⟨h.1.more' hB,h.2.1.more' hB,h.2.2⟩
theorem yb3 (d q:Int) (w:World):Calls Tryz.prog 37 #[.int .i64 d,.int .i64 q] w fun e w'=>e= .returned (.bool (numB d q))∧w=w':=by
 have H1:=lh (fun W=>ybu d 0 11 W);have H2:=lh (fun W=>ybu q 1 1099511627776 W);have HN:Hid (numB d q=(decide (0≤d∧d≤11)&&decide (1≤q∧q≤1099511627776))):=by show _=_;unfold numB;rw [Bool.decide_and]
 rw [HN.out]
 cases h1:decide (0≤d∧d≤11)
 all_goals
  rw [h1] at H1;clear h1 HN;go_enter Tryz.func37,Tryz.ntmps37
  go_wp2_with (first
   |(go_at_call 42;(with_reducible refine (H1.out _).mono ?_);rintro e w1 ⟨rfl,rfl⟩)
   |(go_at_call 42;(with_reducible refine (H2.out _).mono ?_);rintro e w1 ⟨rfl,rfl⟩))
  go_ret;exact ⟨ya2 sI,rfl⟩
theorem isID_any (s:ByteArray) (ix:Int) (w:World):Calls Tryz.prog 85 #[.agg #[.string s,.int .i64 ix]] w fun e w'=>e= .returned (.bool (idB s ix))∧Below w.heap.size w w':=by
 have H1:=lh (fun W=>ybu ix 0 15 W);have HN:Hid (idB s ix=(decide (s.size=32)&&decide (0≤ix∧ix≤15))):=by show _=_;unfold idB;rw [Bool.decide_and]
 rw [HN.out]
 by_cases hs:s.size=32
 ·have hsI:((s.size:Nat):Int)=32:=by omega
  have hd:decide (s.size=32)=true:=decide_eq_true hs;rw [hd];clear HN hs hd;go_enter Tryz.func85,Tryz.ntmps85
  go_wp2_with (first
   |(go_at_call 42;(with_reducible refine (H1.out _).mono ?_);rintro e w1 ⟨rfl,rfl⟩))
  go_ret;exact ⟨ya2 sI,bl⟩
 ·have hsI:(((s.size:Nat):Int)==32)=false:=by simp;omega
  have hd:decide (s.size=32)=false:=decide_eq_false hs;rw [hd];clear HN hs hd H1;go_enter Tryz.func85,Tryz.ntmps85;go_wp2;go_ret;exact ⟨rfl,bl⟩
theorem indexF_shown (A:Option Addr) (n c B:Nat) (ys:List ByteArray) (w:World) (q:Nat) (hx:Sl fT w B A n ys) (hn:n≤1000000) (hf:∀s,Calls Tryz.prog 137 #[.string s,.pointer (some ⟨q,0,none⟩)] w fun e w'=>e= .returned (.bool (!decide (s.size=32)))∧w=w'):
 Calls Tryz.prog 165 #[.slice A n c,.func (.func 137) #[] #[.pointer (some ⟨q,0,none⟩)]] w fun e w'=>∃z:Int,e= .returned (.int .i64 z)∧decide (0≤z)= !sumsB ys∧w=w':=by
 have HX:=lh hx;have HXN:Hid (ys.length=n):=hx.1;have HC:=lh hf;clear hx hf;go_enter Tryz.func165,Tryz.ntmps165;go_wp2
 go_loopw [8] (fun i wr=>∃k:Nat,k≤n∧i= .int .i64 k∧Hid (∀s∈ys.take k,s.size=32)∧w=wr) (fun i _=>n - (intOf i).toNat)
 case atStart=>exact ⟨0,by omega,rfl,fun s h=>by simp at h,rfl⟩
 case round=>
  obtain ⟨k,hk,rfl,HN,rfl⟩:=hrel
  by_cases hlt:k < n
  ·obtain ⟨b,off,x,rfl,_,hg,hc⟩:=HX.out.2.at_ (k:=k) yaR
   have hkI:(k:Int) < (n:Int):=by omega
   have HC1:=lh (HC.out x)
   by_cases hs:x.size=32
   ·have HT:Hid (∀s∈ys.take (k+1),s.size=32):=fun s h=>by
     rw [yba hg,List.mem_append,List.mem_singleton] at h;rcases h with h |rfl
     ·exact HN.out s h
     ·exact hs
    have hd:decide (x.size=32)=true:=decide_eq_true hs;rw [hd] at HC1;clear hs hd hg
    go_wp2_with (first
     |(go_at_call 137;(with_reducible refine HC1.out.mono ?_);rintro e w1 ⟨rfl,rfl⟩))
    refine ⟨?rel,?measure⟩
    case rel=>exact ⟨k+1,by omega,by go_num,HT,by trivial⟩
    case measure=>simp [intOf];omega
   ·have HS:Hid (sumsB ys=false):=ydu (List.mem_of_getElem? hg) hs
    have hd:decide (x.size=32)=false:=decide_eq_false hs;rw [hd] at HC1;clear hs hd hg
    go_wp2_with (first
     |(go_at_call 137;(with_reducible refine HC1.out.mono ?_);rintro e w1 ⟨rfl,rfl⟩))
    go_ret;exact ⟨_,rfl,by rw [HS.out];simp,rfl⟩
  ·obtain rfl:k=n:=by omega
   go_wp2;go_ret;have h1:=HN.out;rw [List.take_of_length_le yaM] at h1;exact ⟨-1,rfl,by rw [ybC.2 h1];rfl,rfl⟩
theorem containsF_shown (A:Option Addr) (n c B:Nat) (ys:List ByteArray) (w:World) (q:Nat) (hx:Sl fT w B A n ys) (hn:n≤1000000) (hf:∀s,Calls Tryz.prog 137 #[.string s,.pointer (some ⟨q,0,none⟩)] w fun e w'=>e= .returned (.bool (!decide (s.size=32)))∧w=w'):
 Calls Tryz.prog 99 #[.slice A n c,.func (.func 137) #[] #[.pointer (some ⟨q,0,none⟩)]] w fun e w'=>e= .returned (.bool (!sumsB ys))∧w=w':=by
 have HC:=lh (indexF_shown A n c B ys w q hx hn hf);clear hx hf;go_enter Tryz.func99,Tryz.ntmps99
 go_wp2_with (first
  |(go_at_call 165;(with_reducible refine HC.out.mono ?_);rintro e w1 ⟨z,rfl,hz,rfl⟩;(have HZ:=lh hz);clear hz))
 go_ret;exact ⟨ya2 HZ.out,rfl⟩
theorem isShown1_any (s:ByteArray) (w:World):Calls Tryz.prog 136 #[.string s] w fun e w'=>e= .returned (.bool (decide (s.size=32)))∧w=w':=by
 by_cases hs:s.size=32
 ·have hsI:((s.size:Nat):Int)=32:=by omega
  rw [decide_eq_true hs];clear hs;go_enter Tryz.func136,Tryz.ntmps136;go_wp2;go_ret;exact ⟨rfl,rfl⟩
 ·have hsI:(((s.size:Nat):Int)==32)=false:=by simp;omega
  rw [decide_eq_false hs];clear hs;go_enter Tryz.func136,Tryz.ntmps136;go_wp2;go_ret;exact ⟨rfl,rfl⟩
theorem isShown2_any (q:Nat) (s:ByteArray) (w:World) (hq:w.cell? ⟨q,0,none⟩=some (.func (.func 136) #[] #[])):Calls Tryz.prog 137 #[.string s,.pointer (some ⟨q,0,none⟩)] w fun e w'=>e= .returned (.bool (!decide (s.size=32)))∧w=w':=by
 have H1:=lh (isShown1_any s w);go_enter Tryz.func137,Tryz.ntmps137
 go_wp2_with (first
  |(go_at_call 136;(with_reducible refine H1.out.mono ?_);rintro e w1 ⟨rfl,rfl⟩))
 go_ret;exact ⟨rfl,rfl⟩
theorem isShown_any (p:Pc) (xs:List Int) (ys:List ByteArray) (B:Nat) (w:World) (hx:PcIn w B p xs ys) (hB:B≤w.heap.size):Calls Tryz.prog 71 #[.agg (cPc p)] w fun e w'=>e= .returned (.bool (shB p ys))∧Below w.heap.size w w':=by
 have hsf:∀(a:Addr) (m:Mode) (w:World),(store a (.func (.func 136) #[] #[]) m).run Tryz.prog w=stored Tryz.prog w a (.func (.func 136) #[] #[]) m:=fun a m w=>run_store Tryz.prog w a _ m rfl
 have hmf:∀(fn:Fn) (first cap:Array Value) (w:World),(Instr.makeFunc fn first cap).run Tryz.prog w= .ok (.func fn first cap) w:=fun _ _ _ _=>rfl
 obtain ⟨s,ix,⟨a,n,c⟩,⟨a',m,c'⟩⟩:=p;have hy:Sl fT w B a' m ys:=hx.2.1;have hcn:Hid (n≤c):=hx.2.2.1;obtain ⟨W1,hW1⟩:∃W1:World,W1=(w.alloc (.cells #[.string s,.int .i64 ix,.slice a n c,.slice a' m c'] 42)).alloc (.cells #[.func (.func 136) #[] #[]] 163):=⟨_,rfl⟩
 have hb1:Below w.heap.size w W1:=by rw [hW1];exact bl.alloc sI _
 have hs1:W1.heap.size=w.heap.size+1+1:=by rw [hW1];simp
 have hc:W1.heap[w.heap.size]? =some (.cells #[.string s,.int .i64 ix,.slice a n c,.slice a' m c'] 42 (0,0)):=by rw [hW1,Below.heap_alloc _ _ _ sI];exact heap_alloc_new w _
 have hq:W1.heap[w.heap.size+1]? =some (.cells #[.func (.func 136) #[] #[]] 163 (0,0)):=by
  rw [hW1]
  have:=heap_alloc_new (w.alloc (.cells #[.string s,.int .i64 ix,.slice a n c,.slice a' m c'] 42)) (.cells #[.func (.func 136) #[] #[]] 163)
  simpa using this
 have HC:Hid (∀W,Below W1.heap.size W1 W→W.cell? ⟨w.heap.size,2,none⟩=some (.slice a n c)∧W.cell? ⟨w.heap.size,3,none⟩=some (.slice a' m c')):=fun W hb=>by
  have h:=(hb.block w.heap.size om).trans hc;exact ⟨by rw [cell_of_row W _ 2 _ _ _ h];rfl,by rw [cell_of_row W _ 3 _ _ _ h];rfl⟩
 have HF:Hid (m≤16→∀W,Below W1.heap.size W1 W→Calls Tryz.prog 99 #[.slice a' m c',.func (.func 137) #[] #[.pointer (some ⟨w.heap.size+1,0,none⟩)]] W fun e w'=>e= .returned (.bool (!sumsB ys))∧W=w'):=fun hm W hb=>
  containsF_shown a' m c' B ys W (w.heap.size+1) (hy.up (hb1.trans (hb.mono hb1.size)) hB) om (fun z=>isShown2_any _ z W (by rw [cell_of_row W _ 0 _ _ _ ((hb.block _ om).trans hq)];rfl))
 have HI:=lh (isID_any s ix W1);have H1:=lh (fun W=>ybu n 1 65536 W);have H2:=lh (fun W=>ybu m 1 16 W);have HB1:=lh hb1
 have HR:Hid (shB ⟨s,ix,⟨a,n,c⟩,⟨a',m,c'⟩⟩ ys=(idB s ix&&(decide ((1:Int)≤n∧(n:Int)≤65536)&&(decide ((1:Int)≤m∧(m:Int)≤16)&&sumsB ys)))):=by
  show decide _=_
  unfold idB;rw [Bool.eq_iff_iff];simp only [decide_eq_true_eq,Bool.and_eq_true]
  constructor
  ·rintro ⟨h1,h2,h3,h4⟩
   exact ⟨h1,by omega,by omega,h4⟩
  ·rintro ⟨h1,h2,h3,h4⟩
   exact ⟨h1,by omega,by omega,h4⟩
 have HWE:=lh hW1;rw [HR.out];rw [hW1] at HI
 show Calls Tryz.prog 71 #[.agg #[.string s,.int .i64 ix,.slice a n c,.slice a' m c']] w _
 clear hx hy hB hb1 hs1 hc hq hW1 HR
 cases h0:idB s ix
 ·rw [h0] at HI
  clear h0 HC HF H1 H2;go_enter Tryz.func71,Tryz.ntmps71
  go_wp2_with (first
   |(go_at_call 85;(with_reducible refine HI.out.mono ?_);rintro e w2 ⟨rfl,hb2⟩;rw [←HWE.out] at hb2;have HB2:=lh hb2;clear hb2))
  go_ret;exact ⟨rfl,HB1.out.trans (HB2.out.mono HB1.out.size)⟩
 ·rw [h0] at HI
  clear h0
  cases h1:decide ((1:Int)≤n∧(n:Int)≤65536)
  ·rw [h1] at H1
   clear h1 HF H2;go_enter Tryz.func71,Tryz.ntmps71
   go_wp2_with (first
    |(go_at_call 85;(with_reducible refine HI.out.mono ?_);rintro e w2 ⟨rfl,hb2⟩;rw [←HWE.out] at hb2;have HB2:=lh hb2;obtain ⟨k2,k3⟩:=HC.out w2 hb2;clear hb2)
    |(go_at_call 42;(with_reducible refine (H1.out _).mono ?_);rintro e w1 ⟨rfl,rfl⟩))
   go_ret;exact ⟨rfl,HB1.out.trans (HB2.out.mono HB1.out.size)⟩
  ·rw [h1] at H1
   clear h1
   cases h2:decide ((1:Int)≤m∧(m:Int)≤16)
   ·rw [h2] at H2
    clear h2 HF;go_enter Tryz.func71,Tryz.ntmps71
    go_wp2_with (first
     |(go_at_call 85;(with_reducible refine HI.out.mono ?_);rintro e w2 ⟨rfl,hb2⟩;rw [←HWE.out] at hb2;have HB2:=lh hb2;obtain ⟨k2,k3⟩:=HC.out w2 hb2;clear hb2)
     |(go_at_call 42;(with_reducible refine (H1.out _).mono ?_);rintro e w1 ⟨rfl,rfl⟩)
     |(go_at_call 42;(with_reducible refine (H2.out _).mono ?_);rintro e w1 ⟨rfl,rfl⟩))
    go_ret;exact ⟨rfl,HB1.out.trans (HB2.out.mono HB1.out.size)⟩
   ·rw [h2] at H2
    have HF1:=lh (HF.out (by have:=of_decide_eq_true h2;omega));clear h2 HF;go_enter Tryz.func71,Tryz.ntmps71
    go_wp2_with (first
     |(go_at_call 85;(with_reducible refine HI.out.mono ?_);rintro e w2 ⟨rfl,hb2⟩;rw [←HWE.out] at hb2;have HB2:=lh hb2;have HF2:=lh (HF1.out w2 hb2);obtain ⟨k2,k3⟩:=HC.out w2 hb2;clear hb2)
     |(go_at_call 42;(with_reducible refine (H1.out _).mono ?_);rintro e w1 ⟨rfl,rfl⟩)
     |(go_at_call 42;(with_reducible refine (H2.out _).mono ?_);rintro e w1 ⟨rfl,rfl⟩)
     |(go_at_call 99;(with_reducible refine HF2.out.mono ?_);rintro e w1 ⟨rfl,rfl⟩))
    go_ret;exact ⟨ya2 sI,HB1.out.trans (HB2.out.mono HB1.out.size)⟩
theorem fail_ok (g:Nat) (A:Option Addr) (n c p q:Nat) (w:World) (hr:Rd w g A n c p (q:Int) 0):
 Calls Tryz.prog 210 #[.pointer (some ⟨g,0,none⟩)] w fun e w'=>e= .returned (.tuple #[])∧Rd w' g A n c q (q:Int) 3∧But (fun k=>k=g) w w':=by
 have c3:=cell_of_row w g 3 _ _ _ hr;have f1:=frozen_of_row w g 1 _ _ hr;have f3:=frozen_of_row w g 3 _ _ hr;simp at c3;have h1:Rd (w.setCell ⟨g,3,none⟩ (.int .i64 3)) g A n c p (q:Int) 3:=heap_setCell_same _ _ 3 _ _ (.int .i64 3) hr;have d2:=cell_of_row _ g 2 _ _ _ h1;simp at d2;have H2:Hid (Rd ((w.setCell ⟨g,3,none⟩ (.int .i64 3)).setCell ⟨g,1,none⟩ (.int .i64 (q:Int))) g A n c q (q:Int) 3):=heap_setCell_same _ _ 1 _ _ (.int .i64 (q:Int)) h1;have HB:Hid (But (fun k=>k=g) w ((w.setCell ⟨g,3,none⟩ (.int .i64 3)).setCell ⟨g,1,none⟩ (.int .i64 (q:Int)))):=But.setCell (p:=fun k=>k=g) (x:=⟨g,1,none⟩) (But.setCell (p:=fun k=>k=g) (x:=⟨g,3,none⟩) (But.refl _ _) (.inl rfl) _) (.inl rfl) _;have c2:=cell_of_row w g 2 _ _ _ hr;have c1:=cell_of_row w g 1 _ _ _ hr;simp at c1 c2;clear hr h1;go_enter Tryz.func210,Tryz.ntmps210;go_wp2
 go_end0
 exact ⟨rfl,H2.out,HB.out⟩
theorem fail_err (g:Nat) (A:Option Addr) (n c p:Nat) (pv er:Int) (w:World) (hr:Rd w g A n c p pv er) (he:er≠0):
 Calls Tryz.prog 210 #[.pointer (some ⟨g,0,none⟩)] w fun e w'=>e= .returned (.tuple #[])∧w=w':=by
 have heb:(er==0)=false:=by simp [he]
 have c3:=cell_of_row w g 3 _ _ _ hr;simp at c3;clear hr he;go_enter Tryz.func210,Tryz.ntmps210;go_wp2
 go_end0
 exact ⟨rfl,rfl⟩
theorem ru2_any (g:Nat) (A:Option Addr) (n c:Nat) (bs:List Int) (s:RS) (w:World) (hr:RdS g A n c bs s w) (hk:RK bs n c) (hp:s.1≤n):
 Calls Tryz.prog 82 #[.pointer (some ⟨g,0,none⟩)] w fun e w'=>e= .returned (.int .u64 (rU bs s).1)∧(∃pv,Rd w' g A n c (rU bs s).2.1 pv (rU bs s).2.2∧(s.2=0→pv=(s.1:Int)))∧Sl fB w' g A n bs∧But (fun k=>k=g) w w':=by
 obtain ⟨⟨pv,h1⟩,h2⟩:=hr;obtain ⟨p,er⟩:=s;have hgl:=Nat.le_of_lt (lt_of_block h1)
 by_cases h0:er=0
 ·subst h0
  refine (ydE g A n c p pv bs w h1 h2 hk.1 hp hk.2.1).mono ?_;rintro e w' ⟨rfl,k1,k2⟩;have hx:=h2.butg k2 hgl;unfold rU;simp only [rV,if_true] at k1 ⊢
  split
  ·next hz=>
   rw [if_pos hz] at k1;rw [hz] at k1;exact ⟨rfl,⟨_,k1,fun _=>rfl⟩,hx,k2⟩
  ·next hz=>
   rw [if_neg hz] at k1;exact ⟨rfl,⟨_,k1,fun _=>rfl⟩,hx,k2⟩
 ·refine (ruint_err g A n c p pv er w h1 h0).mono ?_
  rintro e w' ⟨rfl,k1,k2⟩;unfold rU;simp only [rV,h0,if_false];exact ⟨by first |rfl |trivial,⟨pv,k1,by first |trivial |exact fun h=>h.elim⟩,h2.butg (But.of_below k2) hgl,But.of_below k2⟩
def rN (a m:Nat) (bs:List Int) (s:RS):Int × RS:=if s.2=0∧(rU bs s).2.2=0 then (if (a:Int)≤(rU bs s).1∧(rU bs s).1≤(m:Int) then rU bs s else (0,(s.1,3))) else (0,(rU bs s).2)
theorem yc1 (bs:List Int) (s:RS):0≤(rU bs s).1:=by
 unfold rU rV
 split
 ·split
  ·exact ybJ ..
  ·exact Int.le_refl _
 ·exact Int.le_refl _
theorem rU_bad {bs:List Int} {s:RS} (h:¬(s.2=0∧(rU bs s).2.2=0)):(rU bs s).1=0∧(rU bs s).2.2≠0:=by
 unfold rU at h ⊢
 by_cases h1:s.2=0
 ·unfold rV at h ⊢
  rw [if_pos h1] at h ⊢
  by_cases h2:(numF bs 10 0 0 s.1).2.1=0
  ·rw [if_pos h2] at h;exact absurd ⟨h1,rfl⟩ h
  ·rw [if_neg h2];exact ⟨rfl,h2⟩
 ·unfold rV
  rw [if_neg h1];exact ⟨rfl,h1⟩
theorem rN_le {a m:Nat} {bs:List Int} {s:RS} {n:Nat} (hl:bs.length=n) (h:s.1≤n):(rN a m bs s).2.1≤n:=by
 have h1:=rU_le hl h;unfold rN
 split
 ·split
  ·exact h1
  ·exact h
 ·exact h1
theorem rN_range {a m:Nat} {bs:List Int} {s:RS}:0≤(rN a m bs s).1∧(rN a m bs s).1≤(m:Int):=by
 unfold rN
 split
 ·split
  ·next h=>exact ⟨yc1 _ _,h.2⟩
  ·exact ⟨Int.le_refl _,Int.natCast_nonneg _⟩
 ·exact ⟨Int.le_refl _,Int.natCast_nonneg _⟩
theorem rn_any (a m:Nat) (ha:a≤1) (hm:m≤1099511627776) (g:Nat) (A:Option Addr) (n c:Nat) (bs:List Int) (s:RS) (w:World) (hr:RdS g A n c bs s w) (hk:RK bs n c) (hp:s.1≤n):
 Calls Tryz.prog 169 #[.pointer (some ⟨g,0,none⟩),.int .i64 a,.int .i64 m] w (RPost g A n c bs (.int .i64 (rN a m bs s).1) (rN a m bs s).2 w):=by
 have HC:=lh (ru2_any g A n c bs s w hr hk hp);have hnn:=yc1 bs s;have hbad:=rU_bad (bs:=bs) (s:=s);have hgl:Hid (g < w.heap.size):=hr.lt;have ham:(a:Int) % 18446744073709551616=a:=by omega
 have hmm:(m:Int) % 18446744073709551616=m:=by omega
 unfold rN;obtain ⟨z,s',hz⟩:∃z s',rU bs s=(z,s'):=⟨_,_,rfl⟩
 rw [hz] at HC hnn hbad ⊢;dsimp only at hnn hbad;clear hr hz hk hp
 by_cases hok:s.2=0∧s'.2=0
 ·obtain ⟨h1,h2⟩:=hok
  rw [if_pos ⟨h1,h2⟩]
  have HC2:Hid (Calls Tryz.prog 82 #[.pointer (some ⟨g,0,none⟩)] w fun e w'=>e= .returned (.int .u64 z)∧Rd w' g A n c s'.1 (s.1:Int) 0∧Sl fB w' g A n bs∧But (fun k=>k=g) w w'):=HC.out.mono (fun e w' ⟨k1,⟨pv,k2,k3⟩,k4,k5⟩=>by
   rw [k3 h1] at k2
   exact ⟨k1,(by rw [←h2];exact k2),k4,k5⟩)
  obtain ⟨q,q2⟩:=s';obtain ⟨p,p2⟩:=s;dsimp only at h1 h2 HC2 hbad;subst h1;subst h2;clear HC hbad
  have HFL:Hid (∀w1,Rd w1 g A n c q (p:Int) 0∧Sl fB w1 g A n bs∧But (fun k=>k=g) w w1→Calls Tryz.prog 210 #[.pointer (some ⟨g,0,none⟩)] w1 fun e w'=>e= .returned (.tuple #[])∧RdS g A n c bs (p,3) w'∧But (fun k=>k=g) w w'):=fun w1 ⟨k1,k2,k3⟩=>
   (fail_ok g A n c q p w1 k1).mono (fun e w' ⟨j1,j2,j3⟩=>⟨j1,⟨⟨_,j2⟩,k2.butg j3 (Nat.le_trans (Nat.le_of_lt hgl.out) k3.size)⟩,k3.trans j3 (fun i hi=> .inl hi)⟩)
  by_cases hlo:z < (a:Int)
  ·rw [if_neg om]
   go_enter Tryz.func169,Tryz.ntmps169
   go_wp2_with (first
    |(go_at_call 82;(with_reducible refine HC2.out.mono ?_);rintro e w1 ⟨rfl,k⟩;have K:=lh k;clear k)
    |(go_at_call 210;(with_reducible refine (HFL.out _ K.out).mono ?_);rintro e w2 ⟨rfl,k⟩;have K2:=lh k;clear k))
   go_ret;exact ⟨rfl,K2.out.1,K2.out.2⟩
  ·by_cases hhi:(m:Int) < z
   ·rw [if_neg om]
    go_enter Tryz.func169,Tryz.ntmps169
    go_wp2_with (first
     |(go_at_call 82;(with_reducible refine HC2.out.mono ?_);rintro e w1 ⟨rfl,k⟩;have K:=lh k;clear k)
     |(go_at_call 210;(with_reducible refine (HFL.out _ K.out).mono ?_);rintro e w2 ⟨rfl,k⟩;have K2:=lh k;clear k))
    go_ret;exact ⟨rfl,K2.out.1,K2.out.2⟩
   ·rw [if_pos om]
    clear HFL;go_enter Tryz.func169,Tryz.ntmps169
    go_wp2_with (first
     |(go_at_call 82;(with_reducible refine HC2.out.mono ?_);rintro e w1 ⟨rfl,k⟩;have K:=lh k;clear k))
    go_ret;exact ⟨by first |rfl |exact ret_int (show wrap64 z=z by unfold wrap64;omega),⟨⟨_,K.out.1⟩,K.out.2.1⟩,K.out.2.2⟩
 ·rw [if_neg hok]
  obtain ⟨hz0,he⟩:=hbad hok;have HC2:Hid (Calls Tryz.prog 82 #[.pointer (some ⟨g,0,none⟩)] w fun e w'=>e= .returned (.int .u64 0)∧RdS g A n c bs s' w'∧But (fun k=>k=g) w w'):=HC.out.mono (fun e w' ⟨k1,⟨pv,k2,k3⟩,k4,k5⟩=>⟨by rw [k1,hz0],⟨⟨pv,k2⟩,k4⟩,k5⟩);have HFL:Hid (∀w1,RdS g A n c bs s' w1∧But (fun k=>k=g) w w1→Calls Tryz.prog 210 #[.pointer (some ⟨g,0,none⟩)] w1 fun e w'=>e= .returned (.tuple #[])∧w1=w'):=fun w1 ⟨⟨⟨pv,k1⟩,k2⟩,k3⟩=>fail_err g A n c s'.1 pv s'.2 w1 k1 he
  have hmn:¬(m:Int) < 0:=by omega
  clear HC hbad hok hz0 he hnn;rcases (show a=0∨a=1 by omega) with rfl |rfl
  ·go_enter Tryz.func169,Tryz.ntmps169
   go_wp2_with (first
    |(go_at_call 82;(with_reducible refine HC2.out.mono ?_);rintro e w1 ⟨rfl,k⟩;have K:=lh k;clear k))
   go_ret;exact ⟨rfl,K.out.1,K.out.2⟩
  ·go_enter Tryz.func169,Tryz.ntmps169
   go_wp2_with (first
    |(go_at_call 82;(with_reducible refine HC2.out.mono ?_);rintro e w1 ⟨rfl,k⟩;have K:=lh k;clear k)
    |(go_at_call 210;(with_reducible refine (HFL.out _ K.out).mono ?_);rintro e w2 ⟨rfl,rfl⟩))
   go_ret;exact ⟨rfl,K.out.1,K.out.2⟩
def rId (bs:List Int) (s:RS):(ByteArray × Int) × RS:=(((rS bs s).1,(rN 0 15 bs (rS bs s).2).1),(rN 0 15 bs (rS bs s).2).2)
theorem rId_le {bs:List Int} {s:RS} {n:Nat} (hl:bs.length=n) (h:s.1≤n):(rId bs s).2.1≤n:=rN_le hl (rS_le hl h)
theorem Tryz.sizePid:(Tryz.prog.info? 31).map (·.size)=some 2:=by kernel_rfl
theorem pid_one (s:ByteArray) (ix:Int):(#[.string s,.int .i64 ix]:Array Value).all (·.oneCell')=true:=by
 rw [Array.all_eq_true'];intro x hx;simp at hx;rcases hx with rfl |rfl<;>rfl
theorem pid_size (s:ByteArray) (ix:Int):(Tryz.prog.info? 31).map (·.size)=some (#[.string s,.int .i64 ix]:Array Value).size:=Tryz.sizePid
theorem pid_sz (s:ByteArray) (ix:Int):(#[.string ⟨#[]⟩,.int .i64 0]:Array Value).size=(#[.string s,.int .i64 ix]:Array Value).size:=rfl
theorem rid_any (g:Nat) (A:Option Addr) (n c:Nat) (bs:List Int) (s:RS) (w:World) (hr:RdS g A n c bs s w) (hk:RK bs n c) (hp:s.1≤n):
 Calls Tryz.prog 170 #[.pointer (some ⟨g,0,none⟩)] w (RPost g A n c bs (.agg #[.string (rId bs s).1.1,.int .i64 (rId bs s).1.2]) (rId bs s).2 w):=by
 have hl:=hr.len;have hgl:=hr.lt;obtain ⟨W,hW⟩:∃W:World,W=w.alloc (.cells #[.string ⟨#[]⟩,.int .i64 0] 31):=⟨_,rfl⟩
 have hBW:Below w.heap.size w W:=by rw [hW];exact bl
 have hZ:W.heap[w.heap.size]? =some (.cells #[.string ⟨#[]⟩,.int .i64 0] 31 (0,0)):=by rw [hW];exact heap_alloc_new w _
 have HC1:=lh (rs_any g A n c bs s W (hr.on hBW) hk hp);have hp1:=rS_le hl hp;have HD:Hid (rId bs s=(((rS bs s).1,(rN 0 15 bs (rS bs s).2).1),(rN 0 15 bs (rS bs s).2).2)):=rfl;rw [HD.out];obtain ⟨st,s1,e1⟩:∃z s',rS bs s=(z,s'):=⟨_,_,rfl⟩
 rw [e1] at HC1 hp1 ⊢;have HC2:Hid (∀V,RdS g A n c bs s1 V→Calls Tryz.prog 169 #[.pointer (some ⟨g,0,none⟩),.int .i64 0,.int .i64 15] V (RPost g A n c bs (.int .i64 (rN 0 15 bs s1).1) (rN 0 15 bs s1).2 V)):=fun V hV=>rn_any 0 15 de de g A n c bs s1 V hV hk hp1
 obtain ⟨ix,s2,e2⟩:∃z s',rN 0 15 bs s1=(z,s'):=⟨_,_,rfl⟩
 dsimp only;rw [e2] at HC2 ⊢;have HZ:=lh hZ;have HBW:=lh hBW;have HWE:=lh hW;have HGL:=lh hgl;rw [hW] at HC1;clear hr hk hl hBW hZ hW e1 e2 HD hp hp1 hgl;go_enter Tryz.func170,Tryz.ntmps170
 go_wp2_with (first
  |(go_at_call 172;(with_reducible refine HC1.out.mono ?_);rintro e w1 ⟨rfl,r1,b1⟩
    rw [←HWE.out] at b1;have HG1:Hid (w1.heap[w.heap.size]? =some (.cells #[.string ⟨#[]⟩,.int .i64 0] 31 (0,0))):=(b1.block _ (lt_of_block HZ.out) (by have:=HGL.out;omega)).trans HZ.out;have R1:=lh r1;have B1:Hid (But (fun k=>k=g) w w1):=(But.of_below HBW.out).trans b1 (fun i hi=> .inl hi)
    clear r1 b1)
  |(go_at_call 169;(with_reducible refine (HC2.out _ R1.out).mono ?_);rintro e w2 ⟨rfl,r2,b2⟩
    have HG2:Hid (w2.heap[w.heap.size]? =some (.cells #[.string ⟨#[]⟩,.int .i64 0] 31 (0,0))):=(b2.block _ (lt_of_block HG1.out) (by have:=HGL.out;omega)).trans HG1.out;have R2:=lh r2;have B2:Hid (But (fun k=>k=g) w w2):=B1.out.trans b2 (fun i hi=> .inl hi)
    clear r2 b2)
  |((with_reducible refine yaZ (o:=⟨none,_,_,_,_,_⟩) rfl 31 (.tmp 2) (.tmp 9) rfl w.heap.size 31 _ _ rfl rfl HG2.out (pid_size _ _) (pid_sz _ _) (pid_one _ _) ?_);intro W7 HG7 HB7))
 refine bodyPost_ret (results_cell_row rfl _ _ _ _ _ _ _ rfl HG7.out Tryz.underlying31 rfl (pid_size _ _)) rfl ⟨rfl,?_,?_⟩
 ·exact R2.out.but HB7.out (fun k hk h=>by have:=HGL.out;omega)
 ·exact B2.out.trans HB7.out (fun i hi=> .inr om)
