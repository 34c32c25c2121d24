/- Merkle blocks, roots and sums of one block. stripe.Verify and Acquits at a piece of one block; the piece of the law's examples. -/
import Derived.Test.YtpdledjgbgalcaaGreatDoorPc
namespace Go.Proofs.YtpdledjgbgalcaaGreatDoor
set_option maxRecDepth 100000
set_option maxHeartbeats 4000000
open Go.RowKit
set_option linter.unusedVariables false
set_option linter.unusedSimpArgs false
def leafS (xs:List Int):ByteArray:=baOf (shaB (0::xs))
def BkP (A:Option Addr) (n c:Nat) (xs:List Int) (w w0:World) (v0:Value) (x v:Value) (wr:World):Prop:=
 (x= .slice A n c∧v=v0∧w0=wr)∨(∃A' c',x= .slice A' 0 c'∧Hid (Own fT 9 wr w.heap.size v [leafS xs])∧Hid (Below w.heap.size w wr))
theorem Sl.at0 {w:World} {B n:Nat} {A:Option Addr} {xs:List Int} (h:Sl fB w B A n xs) (h0:0 < n):∃b off,A=some ⟨b,off,none⟩∧b < B:=by
 obtain ⟨b,off,e,hb,_⟩:=h.2 (by rw [h.1];exact h0);exact ⟨b,off,e,hb⟩
theorem rblocks_one (A:Option Addr) (n c B:Nat) (xs:List Int) (w:World) (hc:n≤c) (hx:Sl fB w B A n xs) (hB:B≤w.heap.size) (h0:0 < n) (hl:n≤512) (hxb:Byt xs):
 Calls Tryz.prog 180 #[.slice A n c,.int .i64 512] w fun e w'=>∃v,e= .returned (.tuple #[v,.int .i64 0])∧Own fT 9 w' w.heap.size v [leafS xs]∧Below w.heap.size w w':=by
 obtain ⟨i0,hi,hz0,hz1,hz2⟩:=info_parts Tryz.infoS;have HI:=lh hi;have HZ0:=lh hz0;have HZ1:=lh hz1;have HZ2:=lh hz2;obtain ⟨iB,hB0,_,hB1,_⟩:=info_parts Tryz.infoB;obtain ⟨b,off,rfl,hbB⟩:=hx.at0 h0;have HB0:Hid (Below w.heap.size w (w.alloc (.cells #[] 9))):=bl;have HO0:Hid (Own fT 9 (w.alloc (.cells #[] 9)) w.heap.size (.slice (some ⟨w.heap.size,0,none⟩) 0 0) []):=World.ownsRow_lit w #[] 0 nl yaS rfl
 have HC:Hid (Calls Tryz.prog 157 #[.slice (some ⟨b,off,none⟩) n c] (w.alloc (.cells #[] 9)) fun e w'=>e= .returned (.string (leafS xs))∧Below (w.alloc (.cells #[] 9)).heap.size (w.alloc (.cells #[] 9)) w'):=
  rleaf_any (some ⟨b,off,none⟩) n c B xs (w.alloc (.cells #[] 9)) (hx.up HB0.out hB) (Nat.le_trans hB HB0.out.size) om hxb
 have hs1:=fun W=>ybs (P:=Tryz.prog) 40 5 iB Tryz.underlying40 hB0 (some ⟨b,off,none⟩) n c .i64 (n:Int) n rfl hc W
 have hmin:(if (n:Int) < 512 then (n:Int) else 512)=(n:Int):=by split<;>omega
 have h1m:¬(1048576:Int) < (n:Int):=by omega
 have h0I:(0:Int) < (n:Int):=by omega
 clear hi hz0 hz1 hz2 hx hxb;go_enter Tryz.func180,Tryz.ntmps180
 go_upto_region 6 with fail
 go_loopw [0,6] (fun x v wr=>BkP (some ⟨b,off,none⟩) n c xs w (w.alloc (.cells #[] 9)) (.slice (some ⟨w.heap.size,0,none⟩) 0 0) x v wr) (fun x _ _=>ycf x)
 case atStart=>exact .inl ⟨rfl,rfl,rfl⟩
 case round=>
  rcases hrel with ⟨rfl,rfl,rfl⟩ |⟨A',c',rfl,HO,HB⟩
  ·go_upto_region 9 with (first
    |(go_at_call 157;(with_reducible refine HC.out.mono ?_);rintro e w1 ⟨rfl,hb1⟩
      have HB1:=lh hb1;have HO1:Hid (Own fT 9 w1 w.heap.size (.slice (some ⟨w.heap.size,0,none⟩) 0 0) []):=HO0.out.on HB1.out;have HS1:Hid (w.heap.size≤w1.heap.size):=Nat.le_trans HB0.out.size HB1.out.size
      clear hb1)
    |(at_builtin;(with_reducible refine ya4 (o:=⟨some 27,_,_,_,_,_⟩) rfl (.tmp 21) (.tmp 26) 24 rfl 9 i0 (.string ⟨#[]⟩) 16 Tryz.underlying24 HI.out HZ0.out HZ1.out HZ2.out rfl _ [] w.heap.size rfl HO1.out (leafS xs) 1 rfl fT1 de de HS1.out ?_);intro v2 w2 HO2 HG2 HV2
      have HB2:Hid (Below w.heap.size w w2):=(HB0.out.trans (HB1.out.mono HB0.out.size)).trans (yaY HG2.out (fun j hj=>(World.ownsRow.lt HO1.out j hj).1) HS1.out)))
   have hs2:=fun W=>ybk (P:=Tryz.prog) 40 5 iB Tryz.underlying40 hB0 hB1 (some ⟨b,off,none⟩) n c .i64 (n:Int) n rfl nl hc W
   obtain ⟨A2,hA2⟩:∃A2,A2=if c=n then (some ⟨b,off,none⟩:Option Addr) else (some ⟨b,off,none⟩:Option Addr).map (·.add n):=⟨_,rfl⟩
   obtain ⟨c2,hc2⟩:∃c2,c2=c - n:=⟨_,rfl⟩
   rw [←hA2,Nat.sub_self,←hc2] at hs2;clear hA2 hc2 hs1 hmin;go_wp2
   all_goals refine ⟨?rel,?measure⟩
   all_goals first
    |exact .inr ⟨_,_,rfl,HO2,HB2⟩
    |exact h0
  ·go_wp2
   go_ret2;exact ⟨_,rfl,HO.out,HB.out⟩
theorem rroot_one (A:Option Addr) (c B:Nat) (s:ByteArray) (w:World) (hx:Sl fT w B A 1 [s]):
 Calls Tryz.prog 65 #[.slice A 1 c] w fun e w'=>e= .returned (.string s)∧w=w':=by
 obtain ⟨b,off,x,rfl,_,hg,hx0⟩:=hx.2.at_ (k:=0) sI;simp at hg;subst hg;rw [Nat.add_zero] at hx0;clear hx;go_enter Tryz.func65,Tryz.ntmps65
 go_wp2_with fail
 go_ret;exact ⟨rfl,rfl⟩
theorem rof_one (A:Option Addr) (n c B:Nat) (xs:List Int) (w:World) (hc:n≤c) (hx:Sl fB w B A n xs) (hB:B≤w.heap.size) (h0:0 < n) (hl:n≤512) (hxb:Byt xs):
 Calls Tryz.prog 122 #[.slice A n c,.int .i64 512] w fun e w'=>e= .returned (.tuple #[.string (leafS xs),.int .i64 0])∧Below w.heap.size w w':=by
 have HC:=lh (rblocks_one A n c B xs w hc hx hB h0 hl hxb);clear hx hxb;go_enter Tryz.func122,Tryz.ntmps122
 go_wp2_with (first
  |(go_at_call 180;(with_reducible refine HC.out.mono ?_);rintro e w1 ⟨v,rfl,ho,hb⟩
    have HB:=lh hb;obtain ⟨A1,c1,hv1,_,hs1,_⟩:=ho.shape;have HC2:=lh (rroot_one A1 c1 w1.heap.size (leafS xs) w1 ⟨rfl,hs1⟩)
    replace hv1:v= .slice A1 1 c1:=hv1
    subst hv1
    clear ho hb hs1)
  |(go_at_call 65;(with_reducible refine HC2.out.mono ?_);rintro e w2 ⟨rfl,rfl⟩))
 go_ret2;exact ⟨rfl,HB.out⟩
theorem mblocks_one (A:Option Addr) (n c B:Nat) (xs:List Int) (w:World) (hG:Glob w) (hc:n≤c) (hx:Sl fB w B A n xs) (hB:B≤w.heap.size) (h0:0 < n) (hl:n≤512) (hxb:Byt xs):
 Calls Tryz.prog 166 #[.slice A n c,.int .i64 512] w fun e w'=>∃v,e= .returned (.tuple #[v,.int .i64 0])∧Own fT 9 w' w.heap.size v [leafS xs]∧Below w.heap.size w w':=by
 obtain ⟨i0,hi,hz0,hz1,hz2⟩:=info_parts Tryz.infoS;have HI:=lh hi;have HZ0:=lh hz0;have HZ1:=lh hz1;have HZ2:=lh hz2;obtain ⟨iB,hB0,_,hB1,_⟩:=info_parts Tryz.infoB;obtain ⟨b,off,rfl,hbB⟩:=hx.at0 h0;have HB0:Hid (Below w.heap.size w w):=Below.refl _ _;have HO0:Hid (Own fT 9 w w.heap.size (.slice none 0 0) []):=Own.nil
 have HC:Hid (Calls Tryz.prog 151 #[.slice (some ⟨b,off,none⟩) n c] w fun e w'=>e= .returned (.string (leafS xs))∧Below w.heap.size w w'):=
  ycU (some ⟨b,off,none⟩) n c B xs w hG hx hc hB om hxb (fun a ha=>by injection ha with ha;subst ha;exact Nat.lt_of_lt_of_le hbB hB)
 have hs1:=fun W=>ybs (P:=Tryz.prog) 40 5 iB Tryz.underlying40 hB0 (some ⟨b,off,none⟩) n c .i64 (n:Int) n rfl hc W
 have hmin:(if (n:Int) < 512 then (n:Int) else 512)=(n:Int):=by split<;>omega
 have h1m:¬(1048576:Int) < (n:Int):=by omega
 have h0I:(0:Int) < (n:Int):=by omega
 clear hi hz0 hz1 hz2 hx hxb hG;go_enter Tryz.func166,Tryz.ntmps166
 go_upto_region 6 with fail
 go_loopw [0,6] (fun x v wr=>BkP (some ⟨b,off,none⟩) n c xs w w (.slice none 0 0) x v wr) (fun x _ _=>ycf x)
 case atStart=>exact .inl ⟨rfl,rfl,rfl⟩
 case round=>
  rcases hrel with ⟨rfl,rfl,rfl⟩ |⟨A',c',rfl,HO,HB⟩
  ·go_upto_region 9 with (first
    |(go_at_call 151;(with_reducible refine HC.out.mono ?_);rintro e w1 ⟨rfl,hb1⟩
      have HB1:=lh hb1;have HO1:Hid (Own fT 9 w1 w.heap.size (.slice none 0 0) []):=HO0.out.on HB1.out;have HS1:Hid (w.heap.size≤w1.heap.size):=Nat.le_trans HB0.out.size HB1.out.size
      clear hb1)
    |(at_builtin;(with_reducible refine ya4 (o:=⟨some 26,_,_,_,_,_⟩) rfl (.tmp 20) (.tmp 25) 24 rfl 9 i0 (.string ⟨#[]⟩) 16 Tryz.underlying24 HI.out HZ0.out HZ1.out HZ2.out rfl _ [] w.heap.size rfl HO1.out (leafS xs) 1 rfl fT1 de de HS1.out ?_);intro v2 w2 HO2 HG2 HV2
      have HB2:Hid (Below w.heap.size w w2):=(HB0.out.trans (HB1.out.mono HB0.out.size)).trans (yaY HG2.out (fun j hj=>(World.ownsRow.lt HO1.out j hj).1) HS1.out)))
   have hs2:=fun W=>ybk (P:=Tryz.prog) 40 5 iB Tryz.underlying40 hB0 hB1 (some ⟨b,off,none⟩) n c .i64 (n:Int) n rfl nl hc W
   obtain ⟨A2,hA2⟩:∃A2,A2=if c=n then (some ⟨b,off,none⟩:Option Addr) else (some ⟨b,off,none⟩:Option Addr).map (·.add n):=⟨_,rfl⟩
   obtain ⟨c2,hc2⟩:∃c2,c2=c - n:=⟨_,rfl⟩
   rw [←hA2,Nat.sub_self,←hc2] at hs2;clear hA2 hc2 hs1 hmin;go_wp2
   all_goals refine ⟨?rel,?measure⟩
   all_goals first
    |exact .inr ⟨_,_,rfl,HO2,HB2⟩
    |exact h0
  ·go_wp2
   go_ret2;exact ⟨_,rfl,HO.out,HB.out⟩
theorem mroot_one (A:Option Addr) (c B:Nat) (s:ByteArray) (w:World) (hx:Sl fT w B A 1 [s]):
 Calls Tryz.prog 102 #[.slice A 1 c] w fun e w'=>e= .returned (.string s)∧w=w':=by
 obtain ⟨b,off,x,rfl,_,hg,hx0⟩:=hx.2.at_ (k:=0) sI;simp at hg;subst hg;rw [Nat.add_zero] at hx0;clear hx;go_enter Tryz.func102,Tryz.ntmps102
 go_wp2_with fail
 go_ret;exact ⟨rfl,rfl⟩
theorem mof_one (A:Option Addr) (n c B:Nat) (xs:List Int) (w:World) (hG:Glob w) (hc:n≤c) (hx:Sl fB w B A n xs) (hB:B≤w.heap.size) (h0:0 < n) (hl:n≤512) (hxb:Byt xs):
 Calls Tryz.prog 101 #[.slice A n c,.int .i64 512] w fun e w'=>e= .returned (.tuple #[.string (leafS xs),.int .i64 0])∧Below w.heap.size w w':=by
 have HC:=lh (mblocks_one A n c B xs w hG hc hx hB h0 hl hxb);clear hx hxb hG;go_enter Tryz.func101,Tryz.ntmps101
 go_wp2_with (first
  |(go_at_call 166;(with_reducible refine HC.out.mono ?_);rintro e w1 ⟨v,rfl,ho,hb⟩
    have HB:=lh hb;obtain ⟨A1,c1,hv1,_,hs1,_⟩:=ho.shape;have HC2:=lh (mroot_one A1 c1 w1.heap.size (leafS xs) w1 ⟨rfl,hs1⟩)
    replace hv1:v= .slice A1 1 c1:=hv1
    subst hv1
    clear ho hb hs1)
  |(go_at_call 102;(with_reducible refine HC2.out.mono ?_);rintro e w2 ⟨rfl,rfl⟩))
 go_ret2;exact ⟨rfl,HB.out⟩
theorem psum_one (A:Option Addr) (n c B:Nat) (xs:List Int) (w:World) (hc:n≤c) (hx:Sl fB w B A n xs) (hB:B≤w.heap.size) (h0:0 < n) (hl:n≤512) (hxb:Byt xs):
 Calls Tryz.prog 64 #[.slice A n c] w fun e w'=>e= .returned (.string (leafS xs))∧Below w.heap.size w w':=by
 have HC:=lh (rof_one A n c B xs w hc hx hB h0 hl hxb);clear hx hxb;go_enter Tryz.func64,Tryz.ntmps64
 go_wp2_with (first
  |(go_at_call 122;(with_reducible refine HC.out.mono ?_);rintro e w1 ⟨rfl,hb⟩
    have HB:=lh hb
    clear hb))
 go_ret;exact ⟨rfl,HB.out⟩
open Go.RowKit Go.Lib
theorem baOf_size (xs:List Int):(baOf xs).size=xs.length:=by
 unfold baOf strOfNums;rw [←ByteArray.size_data];simp
theorem ybI (xs:List Int):(leafS xs).size=32:=by unfold leafS;rw [baOf_size,ybA]
theorem vf_any (s:ByteArray) (w:World) (hs:s.size=32):Calls Tryz.prog 100 #[.string s] w fun e w'=>e= .returned (.bool false)∧w=w':=by
 go_enter Tryz.func100,Tryz.ntmps100;go_wp2;go_ret;exact ⟨rfl,rfl⟩
theorem indexF_one (A:Option Addr) (c B:Nat) (s:ByteArray) (w:World) (hx:Sl fT w B A 1 [s]) (hs:s.size=32):
 Calls Tryz.prog 165 #[.slice A 1 c,.func (.func 100) #[] #[]] w fun e w'=>e= .returned (.int .i64 (-1))∧w=w':=by
 obtain ⟨b,off,x,rfl,_,hg,hx0⟩:=hx.2.at_ (k:=0) sI;simp at hg;subst hg;rw [Nat.add_zero] at hx0;have HC:=lh (fun W=>vf_any s W hs);clear hx;go_enter Tryz.func165,Tryz.ntmps165;go_wp2
 go_loopw [8] (fun i wr=>(i= .int .i64 0∨i= .int .i64 1)∧w=wr) (fun i _=>1 - (intOf i).toNat)
 case atStart=>exact ⟨.inl rfl,rfl⟩
 case round=>
  obtain ⟨rfl |rfl,rfl⟩:=hrel
  ·go_wp2_with (first
    |(go_at_call 100;(with_reducible refine (HC.out _).mono ?_);rintro e w1 ⟨rfl,rfl⟩))
   refine ⟨?rel,?measure⟩
   case rel=>first |exact ⟨.inr rfl,rfl⟩ |simp
   case measure=>simp [intOf]
  ·go_wp2
   go_ret;exact ⟨rfl,rfl⟩
theorem containsF_one (A:Option Addr) (c B:Nat) (s:ByteArray) (w:World) (hx:Sl fT w B A 1 [s]) (hs:s.size=32):
 Calls Tryz.prog 99 #[.slice A 1 c,.func (.func 100) #[] #[]] w fun e w'=>e= .returned (.bool false)∧w=w':=by
 have HC:=lh (indexF_one A c B s w hx hs);clear hx;go_enter Tryz.func99,Tryz.ntmps99
 go_wp2_with (first
  |(go_at_call 165;(with_reducible refine HC.out.mono ?_);rintro e w1 ⟨rfl,rfl⟩))
 go_ret;exact ⟨rfl,rfl⟩
theorem verify_one (n c c' B:Nat) (A A':Option Addr) (xs:List Int) (w:World) (hG:Glob w) (hc:n≤c) (hx:Sl fB w B A n xs) (hy:Sl fT w B A' 1 [leafS xs]) (hB:B≤w.heap.size) (h0:0 < n) (hl:n≤512) (hxb:Byt xs):
 Calls Tryz.prog 48 #[.agg #[.string (leafS xs),.int .i64 0,.slice A n c,.slice A' 1 c']] w fun e w'=>e= .returned (.bool true)∧Below w.heap.size w w':=by
 have hs:=ybI xs;obtain ⟨b,off,x,hA',hbB,hg,hx0⟩:=hy.2.at_ (k:=0) sI;simp at hg;subst hg;subst hA';have hb1:Below w.heap.size w (w.alloc (.cells #[.string (leafS xs),.int .i64 0,.slice A n c,.slice (some ⟨b,off,none⟩) 1 c'] 42)):=bl;have HB1:=lh hb1;have HC:=lh (containsF_one (some ⟨b,off,none⟩) c' B (leafS xs) _ (hy.up hb1 hB) hs);have HC2:=lh (mof_one A n c B xs _ (hG.on hb1) hc (hx.up hb1 hB) (Nat.le_trans hB hb1.size) h0 hl hxb);have HY:=lh hy;have HBB:=lh hB;have HBL:Hid (b < w.heap.size):=Nat.lt_of_lt_of_le hbB hB;obtain ⟨s,hse⟩:∃s,s=leafS xs:=⟨_,rfl⟩
 rw [←hse] at HC HC2 HY hs hx0 HB1 ⊢;have h0I:(1:Int)≤(n:Int):=by omega
 have hlI:(n:Int)≤65536:=by omega
 clear hb1 hG hx hy hxb hse;go_enter Tryz.func48,Tryz.ntmps48
 go_upto_region 8 with (first
  |(go_at_call 99;(with_reducible refine HC.out.mono ?_);rintro e w1 ⟨rfl,hw1⟩;subst hw1)
  |(go_at_call 101;(with_reducible refine HC2.out.mono ?_);rintro e w2 ⟨rfl,hb2⟩
    have HB2:=lh hb2
    clear hb2))
 have HBw:Hid (Below w.heap.size w w2):=HB1.out.trans (HB2.out.mono sI);have d0:w2.heap[w.heap.size]? =some (.cells #[.string s,.int .i64 0,.slice A n c,.slice (some ⟨b,off,none⟩) 1 c'] 42 (0,0)):=(HB2.out.block _ sI).trans (heap_alloc_new w _);have e0:=cell_of_row w2 w.heap.size 0 _ _ _ d0;have e1:=cell_of_row w2 w.heap.size 1 _ _ _ d0;have e3:=cell_of_row w2 w.heap.size 3 _ _ _ d0;simp at e0 e1 e3;have hx2:w2.cell? ⟨b,off,none⟩=some (.string s):=(HBw.out.cell (p:=⟨b,off,none⟩) HBL.out).trans hx0;have HCR:Hid (∀n,Calls Tryz.prog 102 #[.slice (some ⟨b,off,none⟩) 1 c'] (w2.drewN n) fun e w'=>e= .returned (.string s)∧w2.drewN n=w'):=fun n=>mroot_one (some ⟨b,off,none⟩) c' B s (w2.drewN n) (HY.out.up (ya0 HBw.out n) HBB.out)
 clear d0 hx0
 go_quiet ((go_at_call 102;with_reducible exact Calls.quiet_of_same (same_of (HCR.out _))))
 go_wp2;go_ret;exact ⟨rfl,ya0 HBw.out _⟩
def ybB (s:ByteArray) (n:Int):Array Value:=#[.int .i64 0,.int .i64 0,.int .i64 2,.int .i64 0,.string s,.int .i64 0,.int .i64 n,.int .i64 0,.int .i64 0,.int .i64 0,.int .i64 0,.string ⟨#[]⟩,.slice none 0 0,.int .i64 0,.slice none 0 0,.slice none 0 0,.string ⟨#[]⟩,.int .i64 0,.string ⟨#[]⟩,.string ⟨#[]⟩]
theorem acquits_one (n c c' B:Nat) (A A':Option Addr) (xs:List Int) (w:World) (hG:Glob w) (hc:n≤c) (hx:Sl fB w B A n xs) (hy:Sl fT w B A' 1 [leafS xs]) (hB:B≤w.heap.size) (h0:0 < n) (hl:n≤512) (hxb:Byt xs):
 Calls Tryz.prog 15 #[.agg (ybB (leafS xs) n),.agg #[.string (leafS xs),.int .i64 0,.slice A n c,.slice A' 1 c']] w fun e w'=>e= .returned (.bool true)∧Below w.heap.size w w':=by
 have hb1:Below w.heap.size w ((w.alloc (.cells (ybB (leafS xs) n) 39)).alloc (.cells #[.string (leafS xs),.int .i64 0,.slice A n c,.slice A' 1 c'] 42)):=bl.alloc sI _;have HB1:=lh hb1;have HC:=lh (verify_one n c c' B A A' xs _ (hG.on hb1) hc (hx.up hb1 hB) (hy.up hb1 hB) (Nat.le_trans hB hb1.size) h0 hl hxb);obtain ⟨s,hse⟩:∃s,s=leafS xs:=⟨_,rfl⟩
 rw [←hse] at HC HB1 ⊢;clear hb1 hG hx hy hxb hse;unfold ybB at HC HB1 ⊢;go_enter Tryz.func15,Tryz.ntmps15
 go_wp2_with (first
  |(go_at_call 48;(with_reducible refine HC.out.mono ?_);rintro e w1 ⟨rfl,hb2⟩
    have HB2:=lh hb2
    clear hb2))
 go_ret;exact ⟨rfl,HB1.out.trans (HB2.out.mono yaW)⟩
theorem one_str (w:World) (s:ByteArray):Sl fT (w.alloc (.cells #[.string s] 9)) (w.heap.size+1) (some ⟨w.heap.size,0,none⟩) 1 [s]:=
 ⟨rfl,SL.of_block (t:=9) (fr:=(0,0)) (heap_alloc_new w _) (Nat.lt_succ_self _)⟩
theorem Tryz.sizePiece:(Tryz.prog.info? 42).map (·.size)=some 4:=by kernel_rfl
theorem pc_size (s:ByteArray) (A A':Option Addr) (n c n' c':Nat):(Tryz.prog.info? 42).map (·.size)=some (#[.string s,.int .i64 0,.slice A n c,.slice A' n' c']:Array Value).size:=Tryz.sizePiece
theorem pc_sz (s:ByteArray) (A A':Option Addr) (n c n' c':Nat):(#[.string ⟨#[]⟩,.int .i64 0,.slice none 0 0,.slice none 0 0]:Array Value).size=(#[.string s,.int .i64 0,.slice A n c,.slice A' n' c']:Array Value).size:=rfl
theorem pc_one (s:ByteArray) (A A':Option Addr) (n c n' c':Nat):(#[.string s,.int .i64 0,.slice A n c,.slice A' n' c']:Array Value).all (·.oneCell')=true:=by
 rw [Array.all_eq_true'];intro x hx;simp at hx;rcases hx with rfl |rfl |rfl |rfl<;>rfl
theorem piece_any (A:Option Addr) (n c B:Nat) (xs:List Int) (w:World) (hc:n≤c) (hx:Sl fB w B A n xs) (hB:B≤w.heap.size) (h0:0 < n) (hl:n≤512) (hxb:Byt xs):
 Calls Tryz.prog 29 #[.slice A n c] w fun e w'=>∃A',e= .returned (.agg #[.string (leafS xs),.int .i64 0,.slice A n c,.slice A' 1 1])∧Sl fT w' w'.heap.size A' 1 [leafS xs]∧Below w.heap.size w w':=by
 have hb0:Below w.heap.size w (w.alloc (.cells #[.string ⟨#[]⟩,.int .i64 0,.slice none 0 0,.slice none 0 0] 42)):=bl;have HC:=lh (psum_one A n c B xs _ hc (hx.up hb0 hB) (Nat.le_trans hB hb0.size) h0 hl hxb);have HB0:=lh hb0;obtain ⟨s,hse⟩:∃s,s=leafS xs:=⟨_,rfl⟩
 rw [←hse] at HC ⊢;clear hb0 hx hxb hse;go_enter Tryz.func29,Tryz.ntmps29
 go_wp2_with (first
  |(go_at_call 64;(with_reducible refine HC.out.mono ?_);rintro e w1 ⟨rfl,hb1⟩
    have HB1:=lh hb1;have HG1:Hid (w1.heap[w.heap.size]? =some (.cells #[.string ⟨#[]⟩,.int .i64 0,.slice none 0 0,.slice none 0 0] 42 (0,0))):=(hb1.block _ sI).trans (heap_alloc_new w _);have HR1:=lh (rroot_one (some ⟨w1.heap.size,0,none⟩) 1 _ s _ (one_str w1 s));have HG3:Hid (((w1.alloc (.cells #[.string s] 9)).alloc (.cells #[.string s] 9)).heap[w.heap.size]? =some (.cells #[.string ⟨#[]⟩,.int .i64 0,.slice none 0 0,.slice none 0 0] 42 (0,0))):=(Below.heap_alloc _ _ _ (Nat.lt_of_lt_of_le (lt_of_block HG1.out) sI)).trans ((Below.heap_alloc _ _ _ (lt_of_block HG1.out)).trans HG1.out)
    clear hb1)
  |(go_at_call 65;(with_reducible refine HR1.out.mono ?_);rintro e w2 ⟨rfl,hw2⟩;subst hw2)
  |((with_reducible refine yaZ (o:=⟨none,_,_,_,_,_⟩) rfl 42 (.tmp 2) (.tmp 13) rfl w.heap.size 42 _ _ rfl rfl HG3.out (pc_size _ _ _ _ _ _ _) (pc_sz _ _ _ _ _ _ _) (pc_one _ _ _ _ _ _ _) ?_);intro W7 HG7 HB7))
 have hbw:Below w.heap.size w ((w1.alloc (.cells #[.string s] 9)).alloc (.cells #[.string s] 9)):=((HB0.out.trans (HB1.out.mono sI)).alloc (HB0.out.trans (HB1.out.mono sI)).size _).alloc (by have:=(HB0.out.trans (HB1.out.mono sI)).size;simp;omega) _;refine bodyPost_ret (results_cell_row rfl _ _ _ _ _ _ _ rfl HG7.out Tryz.underlying42 rfl (pc_size _ _ _ _ _ _ _)) rfl ⟨_,rfl,?_,hbw.trans (HB7.out.below hbw.size (fun i hi=>Nat.le_of_eq hi.symm))⟩;refine ⟨rfl,SL.of_block (t:=9) (fr:=(0,0)) (g:=w1.heap.size+1) ((HB7.out.block _ sI (by have:=HB0.out.size;have:=HB1.out.size;simp at*;omega)).trans (heap_alloc2_new w1 _ _)) (Nat.lt_of_lt_of_le sI HB7.out.size)⟩
