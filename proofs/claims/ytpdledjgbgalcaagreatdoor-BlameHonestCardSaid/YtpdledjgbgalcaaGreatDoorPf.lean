/- The reference of wire: a number's encoding. The reference's list of values, plainly: what it encodes to. The reference of wire: Encode, over the kinds uint, bytes, text, sum, count. The reference's values made: number, sum, bytes. The reference's list of values while it grows. Numbers, IDs and pieces checked: isNumber, isID, isShown; the reference's Entry, Shaped. The reference's Shaped. Meetings: the reference's EncodeMeet; DecodeMeet of an encoding. -/
import Derived.Test.YtpdledjgbgalcaaGreatDoorMa
import Derived.IntWalk
import Derived.Deep.Onto
import Derived.Test.YtpdledjgbgalcaaGreatDoorPe
namespace Go.Proofs.YtpdledjgbgalcaaGreatDoor
set_option maxRecDepth 100000
set_option maxHeartbeats 4000000
open Go.RowKit
set_option linter.unusedVariables false
set_option linter.unusedSimpArgs false
open Go.RowKit Go.Lib
structure Vl where
 kind:Int
 u:Int
 n:Int
 b:Bool
 s:ByteArray
 most:Int
instance:Inhabited Vl:=⟨⟨0,0,0,false,⟨#[]⟩,0⟩⟩
abbrev fVl (x:Vl):List Value:=[.int .i64 x.kind,.int .u64 x.u,.int .i64 x.n,.bool x.b,.string x.s,.int .i64 x.most]
theorem fVl_len:∀x,(fVl x).length=6:=fun _=>rfl
theorem six {w:World} {b off m:Nat} {x:Vl} (h:∀(j:Nat) (v:Value),(fVl x)[j]? =some v→w.cell? ⟨b,off+(m+j),none⟩=some v):w.cell? ⟨b,off+m,none⟩=some (.int .i64 x.kind)∧w.cell? ⟨b,off+m+1,none⟩=some (.int .u64 x.u)∧w.cell? ⟨b,off+m+2,none⟩=some (.int .i64 x.n)∧w.cell? ⟨b,off+m+3,none⟩=some (.bool x.b)∧w.cell? ⟨b,off+m+4,none⟩=some (.string x.s)∧w.cell? ⟨b,off+m+5,none⟩=some (.int .i64 x.most):=
 ⟨h 0 _ rfl,h 1 _ rfl,h 2 _ rfl,h 3 _ rfl,h 4 _ rfl,h 5 _ rfl⟩
abbrev tVl:TypeId:=188
def VA (w W:World) (u:Value) (acc:List Vl):Prop:=OwnN fVl 6 tVl W w.heap.size u acc∧Below w.heap.size w W
section
variable {w W W':World} {u u':Value} {acc acc':List Vl}
theorem VA.on (h:VA w W u acc) (hb:Below W.heap.size W W'):VA w W' u acc:=⟨h.1.on hb,h.2.trans (hb.mono h.2.size)⟩
theorem VA.alloc (h:VA w W u acc) (o:Obj):VA w (W.alloc o) u acc:=h.on ((Below.refl _ _).alloc (Nat.le_refl _) o)
theorem VA.drew (h:VA w W u acc):VA w W.drew u acc:=h.on (Below.refl _ _).drew
theorem VA.drewN (h:VA w W u acc) (n:Nat):VA w (W.drewN n) u acc:=h.on ⟨rfl,rfl,rfl,Nat.le_refl _,fun _ _=>rfl⟩
theorem VA.app (h:VA w W u acc) (ho:OwnN fVl 6 tVl W' w.heap.size u' acc') (hg:W.grownBy W' u.ownBlock):VA w W' u' acc':=
 ⟨ho,h.2.grown hg h.2.size fun k hk=>(World.ownsRow.lt h.1 k hk).1⟩
theorem VA.start (hb:Below w.heap.size w W) {cs:Array Value} {ys:List Vl} {m:Nat} (hc:cs.toList=ys.flatMap fVl) (hm:ys.length=m) (hm1:m≤100):
 VA w (W.alloc (.cells cs tVl)) (.slice (some ⟨W.heap.size,0,none⟩) m m) ys:=by
 have h1:cs.size=m*6:=by rw [←Array.length_toList,hc,flat_len fVl_len,hm]
 have h2:=World.ownsRow_lit (base:=w.heap.size) (e:=tVl) W cs m hb.size (by unfold maxLen;omega) h1
 have hbA:Below W.heap.size W (W.alloc (.cells cs tVl)):=(Below.refl _ _).alloc (Nat.le_refl _) _
 refine ⟨?_,hb.trans (hbA.mono hb.size)⟩
 unfold OwnN;rw [hm,←hc];exact h2
theorem VA.row (h:VA w W u acc):∃A c,u= .slice A acc.length c∧acc.length≤c∧SlN fVl 6 W W.heap.size A acc.length acc:=by
 obtain ⟨A,c,h1,hc,h2,_⟩:=h.1.shape fVl_len
 exact ⟨A,c,h1,hc,h2⟩
end
section
variable {w:World} {u:Value} {acc:List Vl}
end
def numB (d q:Int):Bool:=decide ((0≤d∧d≤11)∧(1≤q∧q≤1099511627776))
def idB (s:ByteArray) (ix:Int):Bool:=decide (s.size=32∧0≤ix∧ix≤15)
def sumsB (ys:List ByteArray):Bool:=ys.all fun s=>decide (s.size=32)
structure Pc where
 s:ByteArray
 ix:Int
 d:Hd
 q:Hd
abbrev cPc (p:Pc):Array Value:=#[.string p.s,.int .i64 p.ix,.slice p.d.a p.d.n p.d.c,.slice p.q.a p.q.n p.q.c]
def shB (p:Pc) (ys:List ByteArray):Bool:=decide ((p.s.size=32∧0≤p.ix∧p.ix≤15)∧(1≤p.d.n∧p.d.n≤65536)∧(1≤p.q.n∧p.q.n≤16)∧sumsB ys=true)
theorem sumsB_iff {ys:List ByteArray}:sumsB ys=true↔∀s∈ys,s.size=32:=by unfold sumsB;simp
theorem sumsB_of_bad {ys:List ByteArray} {s:ByteArray} (h:s∈ys) (hs:s.size≠32):sumsB ys=false:=by
 cases hb:sumsB ys
 ·rfl
 ·exact absurd (sumsB_iff.1 hb s h) hs
def PcIn (w:World) (B:Nat) (p:Pc) (xs:List Int) (ys:List ByteArray):Prop:=Sl fB w B p.d.a p.d.n xs∧Sl fT w B p.q.a p.q.n ys∧p.d.n≤p.d.c∧p.q.n≤p.q.c
theorem PcIn.up {w w':World} {B B':Nat} {p:Pc} {xs:List Int} {ys:List ByteArray} (h:PcIn w B p xs ys) (hb:Below B' w w') (hB:B≤B'):PcIn w' B p xs ys:=⟨h.1.up hb hB,h.2.1.up hb hB,h.2.2⟩
theorem PcIn.more {w:World} {B B':Nat} {p:Pc} {xs:List Int} {ys:List ByteArray} (h:PcIn w B p xs ys) (hB:B≤B'):PcIn w B' p xs ys:=⟨h.1.more' hB,h.2.1.more' hB,h.2.2⟩
theorem isNumber_any (d q:Int) (w:World):Calls Tryz.prog 37 #[.int .i64 d,.int .i64 q] w fun e w'=>e= .returned (.bool (numB d q))∧w=w':=by
 have H1:=Lib.hid (fun W=>within_any d 0 11 W)
 have H2:=Lib.hid (fun W=>within_any q 1 1099511627776 W)
 have HN:Hid (numB d q=(decide (0≤d∧d≤11)&&decide (1≤q∧q≤1099511627776))):=by show _=_;unfold numB;rw [Bool.decide_and]
 rw [HN.out]
 cases h1:decide (0≤d∧d≤11)
 all_goals
  rw [h1] at H1
  clear h1 HN
  go_enter Tryz.func37,Tryz.ntmps37
  go_wp2_with (first
   |(go_at_call 42;(with_reducible refine (H1.out _).mono ?_);rintro e w1 ⟨rfl,rfl⟩)
   |(go_at_call 42;(with_reducible refine (H2.out _).mono ?_);rintro e w1 ⟨rfl,rfl⟩))
  go_ret
  exact ⟨ret_bool (by simp),rfl⟩
theorem isID_any (s:ByteArray) (ix:Int) (w:World):Calls Tryz.prog 85 #[.agg #[.string s,.int .i64 ix]] w fun e w'=>e= .returned (.bool (idB s ix))∧Below w.heap.size w w':=by
 have H1:=Lib.hid (fun W=>within_any ix 0 15 W)
 have HN:Hid (idB s ix=(decide (s.size=32)&&decide (0≤ix∧ix≤15))):=by show _=_;unfold idB;rw [Bool.decide_and]
 rw [HN.out]
 by_cases hs:s.size=32
 ·have hsI:((s.size:Nat):Int)=32:=by omega
  have hd:decide (s.size=32)=true:=decide_eq_true hs
  rw [hd]
  clear HN hs hd
  go_enter Tryz.func85,Tryz.ntmps85
  go_wp2_with (first
   |(go_at_call 42;(with_reducible refine (H1.out _).mono ?_);rintro e w1 ⟨rfl,rfl⟩))
  go_ret
  exact ⟨ret_bool (by simp),(Below.refl _ _).alloc (Nat.le_refl _) _⟩
 ·have hsI:(((s.size:Nat):Int)==32)=false:=by simp;omega
  have hd:decide (s.size=32)=false:=decide_eq_false hs
  rw [hd]
  clear HN hs hd H1
  go_enter Tryz.func85,Tryz.ntmps85
  go_wp2
  go_ret
  exact ⟨rfl,(Below.refl _ _).alloc (Nat.le_refl _) _⟩
theorem indexF_shown (A:Option Addr) (n c B:Nat) (ys:List ByteArray) (w:World) (q:Nat) (hx:Sl fT w B A n ys) (hn:n≤1000000) (hf:∀s,Calls Tryz.prog 137 #[.string s,.pointer (some ⟨q,0,none⟩)] w fun e w'=>e= .returned (.bool (!decide (s.size=32)))∧w=w'):
 Calls Tryz.prog 165 #[.slice A n c,.func (.func 137) #[] #[.pointer (some ⟨q,0,none⟩)]] w fun e w'=>∃z:Int,e= .returned (.int .i64 z)∧decide (0≤z)= !sumsB ys∧w=w':=by
 have HX:=Lib.hid hx
 have HXN:Hid (ys.length=n):=hx.1
 have HC:=Lib.hid hf
 clear hx hf
 go_enter Tryz.func165,Tryz.ntmps165
 go_wp2
 go_loopw [8] (fun i wr=>∃k:Nat,k≤n∧i= .int .i64 k∧Hid (∀s∈ys.take k,s.size=32)∧w=wr) (fun i _=>n - (intOf i).toNat)
 case atStart=>exact ⟨0,by omega,rfl,fun s h=>by simp at h,rfl⟩
 case round=>
  obtain ⟨k,hk,rfl,HN,rfl⟩:=hrel
  by_cases hlt:k < n
  ·obtain ⟨b,off,x,rfl,_,hg,hc⟩:=HX.out.2.at_ (k:=k) (by rw [HXN.out];exact hlt)
   have hkI:(k:Int) < (n:Int):=by omega
   have HC1:=Lib.hid (HC.out x)
   by_cases hs:x.size=32
   ·have HT:Hid (∀s∈ys.take (k+1),s.size=32):=fun s h=>by
     rw [take_snoc hg,List.mem_append,List.mem_singleton] at h
     rcases h with h |rfl
     ·exact HN.out s h
     ·exact hs
    have hd:decide (x.size=32)=true:=decide_eq_true hs
    rw [hd] at HC1
    clear hs hd hg
    go_wp2_with (first
     |(go_at_call 137;(with_reducible refine HC1.out.mono ?_);rintro e w1 ⟨rfl,rfl⟩))
    refine ⟨?rel,?measure⟩
    case rel=>exact ⟨k+1,by omega,by go_num,HT,by trivial⟩
    case measure=>simp [intOf];omega
   ·have HS:Hid (sumsB ys=false):=sumsB_of_bad (List.mem_of_getElem? hg) hs
    have hd:decide (x.size=32)=false:=decide_eq_false hs
    rw [hd] at HC1
    clear hs hd hg
    go_wp2_with (first
     |(go_at_call 137;(with_reducible refine HC1.out.mono ?_);rintro e w1 ⟨rfl,rfl⟩))
    go_ret
    exact ⟨_,rfl,by rw [HS.out];simp,rfl⟩
  ·obtain rfl:k=n:=by omega
   go_wp2
   go_ret
   have h1:=HN.out
   rw [List.take_of_length_le (by rw [HXN.out];exact Nat.le_refl _)] at h1
   exact ⟨-1,rfl,by rw [sumsB_iff.2 h1];rfl,rfl⟩
theorem containsF_shown (A:Option Addr) (n c B:Nat) (ys:List ByteArray) (w:World) (q:Nat) (hx:Sl fT w B A n ys) (hn:n≤1000000) (hf:∀s,Calls Tryz.prog 137 #[.string s,.pointer (some ⟨q,0,none⟩)] w fun e w'=>e= .returned (.bool (!decide (s.size=32)))∧w=w'):
 Calls Tryz.prog 99 #[.slice A n c,.func (.func 137) #[] #[.pointer (some ⟨q,0,none⟩)]] w fun e w'=>e= .returned (.bool (!sumsB ys))∧w=w':=by
 have HC:=Lib.hid (indexF_shown A n c B ys w q hx hn hf)
 clear hx hf
 go_enter Tryz.func99,Tryz.ntmps99
 go_wp2_with (first
  |(go_at_call 165;(with_reducible refine HC.out.mono ?_);rintro e w1 ⟨z,rfl,hz,rfl⟩;(have HZ:=Lib.hid hz);clear hz))
 go_ret
 exact ⟨ret_bool HZ.out,rfl⟩
theorem isShown1_any (s:ByteArray) (w:World):Calls Tryz.prog 136 #[.string s] w fun e w'=>e= .returned (.bool (decide (s.size=32)))∧w=w':=by
 by_cases hs:s.size=32
 ·have hsI:((s.size:Nat):Int)=32:=by omega
  rw [decide_eq_true hs]
  clear hs
  go_enter Tryz.func136,Tryz.ntmps136
  go_wp2
  go_ret
  exact ⟨rfl,rfl⟩
 ·have hsI:(((s.size:Nat):Int)==32)=false:=by simp;omega
  rw [decide_eq_false hs]
  clear hs
  go_enter Tryz.func136,Tryz.ntmps136
  go_wp2
  go_ret
  exact ⟨rfl,rfl⟩
theorem isShown2_any (q:Nat) (s:ByteArray) (w:World) (hq:w.cell? ⟨q,0,none⟩=some (.func (.func 136) #[] #[])):Calls Tryz.prog 137 #[.string s,.pointer (some ⟨q,0,none⟩)] w fun e w'=>e= .returned (.bool (!decide (s.size=32)))∧w=w':=by
 have H1:=Lib.hid (isShown1_any s w)
 go_enter Tryz.func137,Tryz.ntmps137
 go_wp2_with (first
  |(go_at_call 136;(with_reducible refine H1.out.mono ?_);rintro e w1 ⟨rfl,rfl⟩))
 go_ret
 exact ⟨rfl,rfl⟩
theorem isShown_any (p:Pc) (xs:List Int) (ys:List ByteArray) (B:Nat) (w:World) (hx:PcIn w B p xs ys) (hB:B≤w.heap.size):Calls Tryz.prog 71 #[.agg (cPc p)] w fun e w'=>e= .returned (.bool (shB p ys))∧Below w.heap.size w w':=by
 have hsf:∀(a:Addr) (m:Mode) (w:World),(store a (.func (.func 136) #[] #[]) m).run Tryz.prog w=stored Tryz.prog w a (.func (.func 136) #[] #[]) m:=fun a m w=>run_store Tryz.prog w a _ m rfl
 have hmf:∀(fn:Fn) (first cap:Array Value) (w:World),(Instr.makeFunc fn first cap).run Tryz.prog w= .ok (.func fn first cap) w:=fun _ _ _ _=>rfl
 obtain ⟨s,ix,⟨a,n,c⟩,⟨a',m,c'⟩⟩:=p
 have hy:Sl fT w B a' m ys:=hx.2.1
 have hcn:Hid (n≤c):=hx.2.2.1
 obtain ⟨W1,hW1⟩:∃W1:World,W1=(w.alloc (.cells #[.string s,.int .i64 ix,.slice a n c,.slice a' m c'] 42)).alloc (.cells #[.func (.func 136) #[] #[]] 163):=⟨_,rfl⟩
 have hb1:Below w.heap.size w W1:=by rw [hW1];exact ((Below.refl _ _).alloc (Nat.le_refl _) _).alloc (by simp) _
 have hs1:W1.heap.size=w.heap.size+1+1:=by rw [hW1];simp
 have hc:W1.heap[w.heap.size]? =some (.cells #[.string s,.int .i64 ix,.slice a n c,.slice a' m c'] 42 (0,0)):=by rw [hW1,Below.heap_alloc _ _ _ (by simp)];exact heap_alloc_new w _
 have hq:W1.heap[w.heap.size+1]? =some (.cells #[.func (.func 136) #[] #[]] 163 (0,0)):=by
  rw [hW1]
  have:=heap_alloc_new (w.alloc (.cells #[.string s,.int .i64 ix,.slice a n c,.slice a' m c'] 42)) (.cells #[.func (.func 136) #[] #[]] 163)
  simpa using this
 have HC:Hid (∀W,Below W1.heap.size W1 W→W.cell? ⟨w.heap.size,2,none⟩=some (.slice a n c)∧W.cell? ⟨w.heap.size,3,none⟩=some (.slice a' m c')):=fun W hb=>by
  have h:=(hb.block w.heap.size (by omega)).trans hc
  exact ⟨by rw [cell_of_row W _ 2 _ _ _ h];rfl,by rw [cell_of_row W _ 3 _ _ _ h];rfl⟩
 have HF:Hid (m≤16→∀W,Below W1.heap.size W1 W→Calls Tryz.prog 99 #[.slice a' m c',.func (.func 137) #[] #[.pointer (some ⟨w.heap.size+1,0,none⟩)]] W fun e w'=>e= .returned (.bool (!sumsB ys))∧W=w'):=fun hm W hb=>
  containsF_shown a' m c' B ys W (w.heap.size+1) (hy.up (hb1.trans (hb.mono hb1.size)) hB) (by omega) (fun z=>isShown2_any _ z W (by rw [cell_of_row W _ 0 _ _ _ ((hb.block _ (by omega)).trans hq)];rfl))
 have HI:=Lib.hid (isID_any s ix W1)
 have H1:=Lib.hid (fun W=>within_any n 1 65536 W)
 have H2:=Lib.hid (fun W=>within_any m 1 16 W)
 have HB1:=Lib.hid hb1
 have HR:Hid (shB ⟨s,ix,⟨a,n,c⟩,⟨a',m,c'⟩⟩ ys=(idB s ix&&(decide ((1:Int)≤n∧(n:Int)≤65536)&&(decide ((1:Int)≤m∧(m:Int)≤16)&&sumsB ys)))):=by
  show decide _=_
  unfold idB
  rw [Bool.eq_iff_iff]
  simp only [decide_eq_true_eq,Bool.and_eq_true]
  constructor
  ·rintro ⟨h1,h2,h3,h4⟩
   exact ⟨h1,by omega,by omega,h4⟩
  ·rintro ⟨h1,h2,h3,h4⟩
   exact ⟨h1,by omega,by omega,h4⟩
 have HWE:=Lib.hid hW1
 rw [HR.out]
 rw [hW1] at HI
 show Calls Tryz.prog 71 #[.agg #[.string s,.int .i64 ix,.slice a n c,.slice a' m c']] w _
 clear hx hy hB hb1 hs1 hc hq hW1 HR
 cases h0:idB s ix
 ·rw [h0] at HI
  clear h0 HC HF H1 H2
  go_enter Tryz.func71,Tryz.ntmps71
  go_wp2_with (first
   |(go_at_call 85;(with_reducible refine HI.out.mono ?_);rintro e w2 ⟨rfl,hb2⟩;rw [←HWE.out] at hb2;have HB2:=Lib.hid hb2;clear hb2))
  go_ret
  exact ⟨rfl,HB1.out.trans (HB2.out.mono HB1.out.size)⟩
 ·rw [h0] at HI
  clear h0
  cases h1:decide ((1:Int)≤n∧(n:Int)≤65536)
  ·rw [h1] at H1
   clear h1 HF H2
   go_enter Tryz.func71,Tryz.ntmps71
   go_wp2_with (first
    |(go_at_call 85;(with_reducible refine HI.out.mono ?_);rintro e w2 ⟨rfl,hb2⟩;rw [←HWE.out] at hb2;have HB2:=Lib.hid hb2;obtain ⟨k2,k3⟩:=HC.out w2 hb2;clear hb2)
    |(go_at_call 42;(with_reducible refine (H1.out _).mono ?_);rintro e w1 ⟨rfl,rfl⟩))
   go_ret
   exact ⟨rfl,HB1.out.trans (HB2.out.mono HB1.out.size)⟩
  ·rw [h1] at H1
   clear h1
   cases h2:decide ((1:Int)≤m∧(m:Int)≤16)
   ·rw [h2] at H2
    clear h2 HF
    go_enter Tryz.func71,Tryz.ntmps71
    go_wp2_with (first
     |(go_at_call 85;(with_reducible refine HI.out.mono ?_);rintro e w2 ⟨rfl,hb2⟩;rw [←HWE.out] at hb2;have HB2:=Lib.hid hb2;obtain ⟨k2,k3⟩:=HC.out w2 hb2;clear hb2)
     |(go_at_call 42;(with_reducible refine (H1.out _).mono ?_);rintro e w1 ⟨rfl,rfl⟩)
     |(go_at_call 42;(with_reducible refine (H2.out _).mono ?_);rintro e w1 ⟨rfl,rfl⟩))
    go_ret
    exact ⟨rfl,HB1.out.trans (HB2.out.mono HB1.out.size)⟩
   ·rw [h2] at H2
    have HF1:=Lib.hid (HF.out (by have:=of_decide_eq_true h2;omega))
    clear h2 HF
    go_enter Tryz.func71,Tryz.ntmps71
    go_wp2_with (first
     |(go_at_call 85;(with_reducible refine HI.out.mono ?_);rintro e w2 ⟨rfl,hb2⟩;rw [←HWE.out] at hb2;have HB2:=Lib.hid hb2;have HF2:=Lib.hid (HF1.out w2 hb2);obtain ⟨k2,k3⟩:=HC.out w2 hb2;clear hb2)
     |(go_at_call 42;(with_reducible refine (H1.out _).mono ?_);rintro e w1 ⟨rfl,rfl⟩)
     |(go_at_call 42;(with_reducible refine (H2.out _).mono ?_);rintro e w1 ⟨rfl,rfl⟩)
     |(go_at_call 99;(with_reducible refine HF2.out.mono ?_);rintro e w1 ⟨rfl,rfl⟩))
    go_ret
    exact ⟨ret_bool (by simp),HB1.out.trans (HB2.out.mono HB1.out.size)⟩
theorem left_anyZ (g:Nat) (A:Option Addr) (n c p:Nat) (pv er:Int) (w:World) (hr:Rd w g A n c p pv er) (hp:p≤n) (hn:n≤1000000):
 Calls Tryz.prog 83 #[.pointer (some ⟨g,0,none⟩)] w fun e w'=>e= .returned (.int .i64 ((n:Int) - p))∧∃m,w'=w.drewN m:=by
 have h0:=cell_of_row w g 0 _ _ _ hr
 have h1:=cell_of_row w g 1 _ _ _ hr
 simp at h0 h1
 have hw:IntKind.i64.wrap ((n:Int) - p)=(n:Int) - p:=by rw [IntWalk.i64_in _ (by omega)]
 clear hr
 go_enter Tryz.func83,Tryz.ntmps83
 go_wp2
 go_quiet (fail)
 go_wp2
 go_ret
 exact ⟨rfl,_,rfl⟩
theorem results_3 {fn:Func} {a b c:Tmp} (h:fn.results=#[.tmp a,.tmp b,.tmp c]) (tmps:Array Value) (P:Program) (w:World):
 (results fn tmps).run P w= .ok (.tuple #[tmps.getD a undef,tmps.getD b undef,tmps.getD c undef]) w:=by
 simp [results,h]
theorem encV_pos (xs:List Int):0 < (encV xs).length:=by
 have h0:∀n,0 < (enc n).length:=fun n=>by
  unfold enc encF
  split<;>simp
 unfold encV
 rw [List.length_append]
 have:=h0 (nrm xs).length
 omega
abbrev entryV (k:Int) (A:Option Addr) (n c:Nat):Value:= .agg #[.int .i64 0,.int .i64 0,.int .i64 k,.int .i64 0,.slice A n c,.string ⟨#[]⟩]
theorem dmeet_enc (q:Nat) (xs:List Int) (A:Option Addr) (n c B:Nat) (w:World) (hx:Sl fB w B A n ((q:Int)::encV xs)) (hc:n≤c) (hB:B≤w.heap.size) (hv:validB xs=true) (hq:q≤11):
 Calls Tryz.prog 35 #[entryV 9 A n c] w fun e w'=>∃A' n' c',e= .returned (.tuple #[.int .i64 (q:Int),.slice A' n' c',.int .i64 0])∧n'≤c'∧Sl I w' w'.heap.size A' n' (nrm xs)∧Below w.heap.size w w':=by
 have hbs:Byt ((q:Int)::encV xs):=Byt.app (xs:=[(q:Int)]) (fun x hx=>by rw [List.mem_singleton.1 hx];omega) (encV_byt xs)
 have hn1:n=(encV xs).length+1:=by rw [←hx.1];rfl
 have hel:=encV_len xs hv
 have hep:=encV_pos xs
 obtain ⟨b,off,rfl,hbB⟩:=hx.at0 (by omega)
 have hb1:Below w.heap.size w (w.alloc (.cells #[.int .i64 0,.int .i64 0,.int .i64 9,.int .i64 0,.slice (some ⟨b,off,none⟩) n c,.string ⟨#[]⟩] 55)):=(Below.refl _ _).alloc (Nat.le_refl _) _
 have HB1:=Lib.hid hb1
 have HX:=Lib.hid hx
 have HN:=Lib.hid (newReader_any (some ⟨b,off,none⟩) n c ((q:Int)::encV xs) _ ((hx.up hb1 hB).more' (Nat.le_trans hB hb1.size)) (by omega))
 have HU:Hid (∀g A1 c1 W,Rd W g A1 n c1 0 0 0→Sl fB W g A1 n ((q:Int)::encV xs)→Calls Tryz.prog 82 #[.pointer (some ⟨g,0,none⟩)] W fun e w'=>e= .returned (.int .u64 (q:Int))∧Rd w' g A1 n c1 1 0 0∧But (fun k=>k=g) W w'):=fun g A1 c1 W hr hs=>by
  refine (ruint_ok g A1 n c1 0 0 _ W hr hs hbs (by omega) (by omega)).mono ?_
  rintro e w' ⟨h1,h2,h3⟩
  rw [numF_small (by omega)] at h1 h2
  exact ⟨h1,h2,h3⟩
 have HD:Hid (∀W,Sl fB W W.heap.size (some ⟨b,off+1,none⟩) (n - 1) (encV xs)→Calls Tryz.prog 84 #[.slice (some ⟨b,off+1,none⟩) (n - 1) (c - 1)] W (Slc2 I (nrm xs) 0 W)):=fun W hs=>by
  have h:=decode_any (some ⟨b,off+1,none⟩) (n - 1) (c - 1) (encV xs) W hs (by omega) (encV_byt xs)
  unfold DecPost at h
  rw [decV_enc xs hv] at h
  exact h.mono fun _ _ ⟨A,n,c,h1,h2,h3,h4⟩=>⟨A,n,c,h1,h2,h3.1,h4⟩
 obtain ⟨iB,hB0,_,hB1,_⟩:=info_parts Tryz.infoB
 have hs2:∀W,(Instr.slice 40 (.slice (some ⟨b,off,none⟩) n c) (some (.int .i64 1)) none none).run Tryz.prog W= .ok (.slice (some ⟨b,off+1,none⟩) (n - 1) (c - 1)) W:=fun W=>by
  rw [run_slice_from (P:=Tryz.prog) 40 5 iB Tryz.underlying40 hB0 hB1 (some ⟨b,off,none⟩) n c .i64 1 1 rfl (by omega) hc W,if_neg (by omega)]
  rfl
 have HTl:Hid (∀W,Below w.heap.size w W→Sl fB W W.heap.size (some ⟨b,off+1,none⟩) (n - 1) (encV xs)):=fun W hb=>by
  refine ⟨by omega,fun _=>⟨b,off+1,rfl,Nat.lt_of_lt_of_le (Nat.lt_of_lt_of_le hbB hB) hb.size,fun k x hk=>?_⟩⟩
  obtain ⟨b',off',e,_,hat⟩:=(hx.up hb hB).2 (by rw [hx.1];omega)
  cases e
  have:=hat (k+1) x hk
  rw [show off+1+k=off+(k+1) by omega]
  exact this
 have hqI:¬(12:Int)≤(q:Int):=by omega
 have hlw:IntKind.i64.wrap ((n:Int) - ((n:Int) - 1))=1:=by rw [IntWalk.i64_in _ (by omega)];omega
 have hqw:IntKind.i64.wrap (q:Int)=(q:Int):=IntWalk.i64_in _ (by omega)
 have hnB:n≤131:=by omega
 have hnp:1≤n:=by omega
 clear hx hb1 hbs hn1 hel hep hv hB
 go_enter Tryz.func35,Tryz.ntmps35
 go_upto_region 5 with (first
  |(go_at_call 81;(with_reducible refine HN.out.mono ?_);rintro e w2 ⟨g,A1,c1,rfl,hr2,hs2',hg2,hb2,_⟩
    have HR2:=Lib.hid hr2
    have HS2:=Lib.hid hs2'
    have HGg:=Lib.hid hg2
    have HB2:Hid (Below w.heap.size w w2):=HB1.out.trans (hb2.mono (by simp))
    have HX2:Hid (w2.heap[w.heap.size]? =some (.cells #[.int .i64 0,.int .i64 0,.int .i64 9,.int .i64 0,.slice (some ⟨b,off,none⟩) n c,.string ⟨#[]⟩] 55 (0,0))):=(hb2.block _ (by simp)).trans (heap_alloc_new w _)
    clear hr2 hs2' hg2 hb2)
  |(go_at_call 82;(with_reducible refine (HU.out g A1 c1 w2 HR2.out HS2.out).mono ?_);rintro e w3 ⟨rfl,hr3,hb3⟩
    have HR3:=Lib.hid hr3
    have HB3:Hid (Below w.heap.size w w3):=HB2.out.trans (hb3.below HB2.out.size (fun i hi=>by have:=HGg.out;simp at this;omega))
    have HX3:Hid (w3.heap[w.heap.size]? =some (.cells #[.int .i64 0,.int .i64 0,.int .i64 9,.int .i64 0,.slice (some ⟨b,off,none⟩) n c,.string ⟨#[]⟩] 55 (0,0))):=(hb3.block _ (lt_of_block HX2.out) (by have:=HGg.out;simp at this;omega)).trans HX2.out
    clear hr3 hb3))
 have e4:=cell_of_row w3 w.heap.size 4 _ _ _ HX3.out
 simp at e4
 have HLf:Hid (∀a,Calls Tryz.prog 83 #[.pointer (some ⟨g,0,none⟩)] (w3.drewN a) fun e w'=>e= .returned (.int .i64 ((n:Int) - 1))∧∃m,w'=(w3.drewN a).drewN m):=fun a=>left_anyZ g A1 n c1 1 0 0 (w3.drewN a) HR3.out hnp (by omega)
 go_quiet ((go_at_call 83;with_reducible exact Calls.quiet_of (HLf.out _)))
 generalize hW:World.drewN w3 _=W4
 replace e4:W4.cell? ⟨w.heap.size,4,none⟩=some (.slice (some ⟨b,off,none⟩) n c):=by rw [←hW];exact e4
 have HB4:Hid (Below w.heap.size w W4):=by show Below ..;rw [←hW];exact below_drewN' HB3.out _
 clear hW
 go_wp2_with (first
  |(go_at_call 84;(with_reducible refine (HD.out _ (HTl.out _ HB4.out)).mono ?_);rintro e w5 ⟨A5,n5,c5,rfl,hc5,hs5,hb5⟩
    have HS5:=Lib.hid hs5
    have HB5:=Lib.hid hb5
    clear hs5 hb5))
 refine bodyPost_ret (results_3 rfl _ _ _) rfl ⟨A5,n5,c5,rfl,hc5,HS5.out,HB4.out.trans (HB5.out.mono HB4.out.size)⟩
