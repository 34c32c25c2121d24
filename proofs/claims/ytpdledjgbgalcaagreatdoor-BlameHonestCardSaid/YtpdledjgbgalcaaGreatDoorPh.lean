/- Receipts and tokens checked: receipt.valid, isToken; the reference's Valid, Token. The reference: Valid of a receipt; isToken. -/
import Derived.Test.YtpdledjgbgalcaaGreatDoorPf
import Derived.Test.YtpdledjgbgalcaaGreatDoorZe
namespace Go.Proofs.YtpdledjgbgalcaaGreatDoor
set_option maxRecDepth 100000
set_option maxHeartbeats 4000000
open Go.RowKit Go.Lib
set_option linter.unusedVariables false
set_option linter.unusedSimpArgs false
def rgB (x a b:Int):Bool:=decide (a≤x∧x≤b)
def arB (ys:List ByteArray) (m:Nat):Bool:=decide (ys.length≤m)&&sumsB ys
def pvB (vt:Int) (s:ByteArray) (ix sz:Int):Bool:=rgB vt 0 11&&(decide (s.size=32)&&(rgB ix 0 15&&rgB sz 1 65536))
def vaB (r:Rcp) (ps qs rs:List ByteArray):Bool:=rgB r.hd 0 11&&(pvB r.vt r.s r.ix r.sz&&(rgB r.dy 0 999999&&(rgB r.sr 0 1099511627776&&(rgB r.ct 1 256&&(rgB r.pl 0 (r.ct - 1)&&(decide (r.rt.size=32)&&(arB ps 8&&(arB rs 8&&(arB qs 300&&rgB r.si 0 255)))))))))
def RcIn (w:World) (B:Nat) (r:Rcp) (ps qs rs:List ByteArray):Prop:=Sl fT w B r.pa.a r.pa.n ps∧Sl fT w B r.pb.a r.pb.n qs∧Sl fT w B r.pc.a r.pc.n rs
theorem RcIn.up {w w':World} {B B':Nat} {r:Rcp} {ps qs rs:List ByteArray} (h:RcIn w B r ps qs rs) (hb:Below B' w w') (hB:B≤B'):RcIn w' B r ps qs rs:=⟨h.1.up hb hB,h.2.1.up hb hB,h.2.2.up hb hB⟩
theorem RcIn.more {w:World} {B B':Nat} {r:Rcp} {ps qs rs:List ByteArray} (h:RcIn w B r ps qs rs) (hB:B≤B'):RcIn w B' r ps qs rs:=⟨h.1.more' hB,h.2.1.more' hB,h.2.2.more' hB⟩
def tkB (s:ByteArray) (ix:Int) (no an:ByteArray):Bool:=idB s ix&&(decide (no.size=32)&&decide (an.size=32))
theorem rwithin_any (x a b:Int) (w:World):Calls Tryz.prog 144 #[.int .i64 x,.int .i64 a,.int .i64 b] w fun e w'=>e= .returned (.bool (rgB x a b))∧w=w':=by
 by_cases h1:a≤x
 ·by_cases h2:x≤b
  ·skip
   go_enter Tryz.func144,Tryz.ntmps144
   go_wp2
   go_ret
   exact ⟨ret_bool (by unfold rgB;first |exact (decide_eq_true (by omega)).symm |exact (decide_eq_false (by omega)).symm),rfl⟩
  ·skip
   go_enter Tryz.func144,Tryz.ntmps144
   go_wp2
   go_ret
   exact ⟨ret_bool (by unfold rgB;first |exact (decide_eq_true (by omega)).symm |exact (decide_eq_false (by omega)).symm),rfl⟩
 ·skip
  go_enter Tryz.func144,Tryz.ntmps144
  go_wp2
  go_ret
  exact ⟨ret_bool (by unfold rgB;first |exact (decide_eq_true (by omega)).symm |exact (decide_eq_false (by omega)).symm),rfl⟩
theorem areSums1_any (s:ByteArray) (w:World):Calls Tryz.prog 197 #[.string s] w fun e w'=>e= .returned (.bool (!decide (s.size=32)))∧w=w':=by
 by_cases hs:s.size=32
 ·have hsI:(((s.size:Nat):Int) != 32)=false:=by simp;omega
  rw [decide_eq_true hs]
  clear hs
  go_enter Tryz.func197,Tryz.ntmps197
  go_wp2
  go_ret
  exact ⟨rfl,rfl⟩
 ·have hsI:(((s.size:Nat):Int) != 32)=true:=by simp;omega
  rw [decide_eq_false hs]
  clear hs
  go_enter Tryz.func197,Tryz.ntmps197
  go_wp2
  go_ret
  exact ⟨rfl,rfl⟩
theorem indexF_are (A:Option Addr) (n c B:Nat) (ys:List ByteArray) (w:World) (hx:Sl fT w B A n ys) (hn:n≤1000000) (hf:∀s,Calls Tryz.prog 197 #[.string s] w fun e w'=>e= .returned (.bool (!decide (s.size=32)))∧w=w'):
 Calls Tryz.prog 165 #[.slice A n c,.func (.func 197) #[] #[]] w fun e w'=>∃z:Int,e= .returned (.int .i64 z)∧decide (0≤z)= !sumsB ys∧w=w':=by
 have HX:=Lib.hid hx
 have HXN:Hid (ys.length=n):=hx.1
 have HC:=Lib.hid hf
 clear hx hf
 go_enter Tryz.func165,Tryz.ntmps165
 go_wp2
 go_loopw [8] (fun i wr=>∃k:Nat,k≤n∧i= .int .i64 k∧Hid (∀s∈ys.take k,s.size=32)∧w=wr) (fun i _=>n - (intOf i).toNat)
 case atStart=>exact ⟨0,by omega,rfl,fun s h=>by simp at h,rfl⟩
 case round=>
  obtain ⟨k,hk,rfl,HN,rfl⟩:=hrel
  by_cases hlt:k < n
  ·obtain ⟨b,off,x,rfl,_,hg,hc⟩:=HX.out.2.at_ (k:=k) (by rw [HXN.out];exact hlt)
   have hkI:(k:Int) < (n:Int):=by omega
   have HC1:=Lib.hid (HC.out x)
   by_cases hs:x.size=32
   ·have HT:Hid (∀s∈ys.take (k+1),s.size=32):=fun s h=>by
     rw [take_snoc hg,List.mem_append,List.mem_singleton] at h
     rcases h with h |rfl
     ·exact HN.out s h
     ·exact hs
    have hd:decide (x.size=32)=true:=decide_eq_true hs
    rw [hd] at HC1
    clear hs hd hg
    go_wp2_with (first
     |(go_at_call 197;(with_reducible refine HC1.out.mono ?_);rintro e w1 ⟨rfl,rfl⟩))
    refine ⟨?rel,?measure⟩
    case rel=>exact ⟨k+1,by omega,by go_num,HT,by trivial⟩
    case measure=>simp [intOf];omega
   ·have HS:Hid (sumsB ys=false):=sumsB_of_bad (List.mem_of_getElem? hg) hs
    have hd:decide (x.size=32)=false:=decide_eq_false hs
    rw [hd] at HC1
    clear hs hd hg
    go_wp2_with (first
     |(go_at_call 197;(with_reducible refine HC1.out.mono ?_);rintro e w1 ⟨rfl,rfl⟩))
    go_ret
    exact ⟨_,rfl,by rw [HS.out];simp,rfl⟩
  ·obtain rfl:k=n:=by omega
   go_wp2
   go_ret
   have h1:=HN.out
   rw [List.take_of_length_le (by rw [HXN.out];exact Nat.le_refl _)] at h1
   exact ⟨-1,rfl,by rw [sumsB_iff.2 h1];rfl,rfl⟩
theorem containsF_are (A:Option Addr) (n c B:Nat) (ys:List ByteArray) (w:World) (hx:Sl fT w B A n ys) (hn:n≤1000000) (hf:∀s,Calls Tryz.prog 197 #[.string s] w fun e w'=>e= .returned (.bool (!decide (s.size=32)))∧w=w'):
 Calls Tryz.prog 99 #[.slice A n c,.func (.func 197) #[] #[]] w fun e w'=>e= .returned (.bool (!sumsB ys))∧w=w':=by
 have HC:=Lib.hid (indexF_are A n c B ys w hx hn hf)
 clear hx hf
 go_enter Tryz.func99,Tryz.ntmps99
 go_wp2_with (first
  |(go_at_call 165;(with_reducible refine HC.out.mono ?_);rintro e w1 ⟨z,rfl,hz,rfl⟩;(have HZ:=Lib.hid hz);clear hz))
 go_ret
 exact ⟨ret_bool HZ.out,rfl⟩
theorem areSums_any (A:Option Addr) (n c B m:Nat) (ys:List ByteArray) (w:World) (hx:Sl fT w B A n ys) (hm:m≤1000):Calls Tryz.prog 146 #[.slice A n c,.int .i64 m] w fun e w'=>e= .returned (.bool (arB ys m))∧w=w':=by
 have HYN:Hid (ys.length=n):=hx.1
 have HC:Hid (n≤m→Calls Tryz.prog 99 #[.slice A n c,.func (.func 197) #[] #[]] w fun e w'=>e= .returned (.bool (!sumsB ys))∧w=w'):=fun h=>containsF_are A n c B ys w hx (by omega) (fun s=>areSums1_any s w)
 clear hx
 unfold arB
 rw [HYN.out]
 by_cases h:n≤m
 ·have HC1:=Lib.hid (HC.out h)
  have hI:(n:Int)≤(m:Int):=by omega
  rw [decide_eq_true h]
  clear h HC
  go_enter Tryz.func146,Tryz.ntmps146
  go_wp2_with (first
   |(go_at_call 99;(with_reducible refine HC1.out.mono ?_);rintro e w1 ⟨rfl,rfl⟩))
  go_ret
  exact ⟨ret_bool (by simp),rfl⟩
 ·have hI:¬(n:Int)≤(m:Int):=by omega
  rw [decide_eq_false h]
  clear h HC
  go_enter Tryz.func146,Tryz.ntmps146
  go_wp2
  go_ret
  exact ⟨rfl,rfl⟩
theorem pvalid_any (vt:Int) (s:ByteArray) (ix sz:Int) (w:World):Calls Tryz.prog 145 #[.agg #[.int .i64 vt,.string s,.int .i64 ix,.int .i64 sz]] w fun e w'=>e= .returned (.bool (pvB vt s ix sz))∧w.alloc (.cells #[.int .i64 vt,.string s,.int .i64 ix,.int .i64 sz] 223)=w':=by
 have H0:=Lib.hid (fun W=>rwithin_any vt 0 11 W)
 have H2:=Lib.hid (fun W=>rwithin_any ix 0 15 W)
 have H3:=Lib.hid (fun W=>rwithin_any sz 1 65536 W)
 unfold pvB
 cases h0:rgB vt 0 11
 ·rw [h0] at H0
  skip
  have HH0:=Lib.hid h0
  clear h0
  go_enter Tryz.func145,Tryz.ntmps145
  go_wp2_with (first
   |(go_at_call 144;(with_reducible refine (H0.out _).mono ?_);rintro e w1 ⟨rfl,rfl⟩)
   |(go_at_call 144;(with_reducible refine (H2.out _).mono ?_);rintro e w1 ⟨rfl,rfl⟩)
   |(go_at_call 144;(with_reducible refine (H3.out _).mono ?_);rintro e w1 ⟨rfl,rfl⟩))
  go_ret
  exact ⟨ret_bool (by simp only [HH0.out,Bool.false_and,Bool.and_false,Bool.true_and,Bool.and_true,Bool.not_false,Bool.not_true]),rfl⟩
 ·rw [h0] at H0
  skip
  have HH0:=Lib.hid h0
  clear h0
  cases h1:decide (s.size=32)
  ·have hz1:((((s).size:Nat):Int)==32)=false:=by have:=of_decide_eq_false h1;simp;omega
   have hz101:((((s).size:Nat):Int) != 32)=true:=by have:=of_decide_eq_false h1;simp;omega
   skip
   have HH1:=Lib.hid h1
   clear h1
   go_enter Tryz.func145,Tryz.ntmps145
   go_wp2_with (first
    |(go_at_call 144;(with_reducible refine (H0.out _).mono ?_);rintro e w1 ⟨rfl,rfl⟩)
    |(go_at_call 144;(with_reducible refine (H2.out _).mono ?_);rintro e w1 ⟨rfl,rfl⟩)
    |(go_at_call 144;(with_reducible refine (H3.out _).mono ?_);rintro e w1 ⟨rfl,rfl⟩))
   go_ret
   exact ⟨ret_bool (by simp only [HH0.out,HH1.out,Bool.false_and,Bool.and_false,Bool.true_and,Bool.and_true,Bool.not_false,Bool.not_true]),rfl⟩
  ·have hz1:(((s).size:Nat):Int)=32:=by have:=of_decide_eq_true h1;omega
   skip
   have HH1:=Lib.hid h1
   clear h1
   cases h2:rgB ix 0 15
   ·rw [h2] at H2
    skip
    have HH2:=Lib.hid h2
    clear h2
    go_enter Tryz.func145,Tryz.ntmps145
    go_wp2_with (first
     |(go_at_call 144;(with_reducible refine (H0.out _).mono ?_);rintro e w1 ⟨rfl,rfl⟩)
     |(go_at_call 144;(with_reducible refine (H2.out _).mono ?_);rintro e w1 ⟨rfl,rfl⟩)
     |(go_at_call 144;(with_reducible refine (H3.out _).mono ?_);rintro e w1 ⟨rfl,rfl⟩))
    go_ret
    exact ⟨ret_bool (by simp only [HH0.out,HH1.out,HH2.out,Bool.false_and,Bool.and_false,Bool.true_and,Bool.and_true,Bool.not_false,Bool.not_true]),rfl⟩
   ·rw [h2] at H2
    skip
    have HH2:=Lib.hid h2
    clear h2
    cases h3:rgB sz 1 65536
    ·rw [h3] at H3
     skip
     have HH3:=Lib.hid h3
     clear h3
     go_enter Tryz.func145,Tryz.ntmps145
     go_wp2_with (first
      |(go_at_call 144;(with_reducible refine (H0.out _).mono ?_);rintro e w1 ⟨rfl,rfl⟩)
      |(go_at_call 144;(with_reducible refine (H2.out _).mono ?_);rintro e w1 ⟨rfl,rfl⟩)
      |(go_at_call 144;(with_reducible refine (H3.out _).mono ?_);rintro e w1 ⟨rfl,rfl⟩))
     go_ret
     exact ⟨ret_bool (by simp only [HH0.out,HH1.out,HH2.out,HH3.out,Bool.false_and,Bool.and_false,Bool.true_and,Bool.and_true,Bool.not_false,Bool.not_true]),rfl⟩
    ·rw [h3] at H3
     skip
     have HH3:=Lib.hid h3
     clear h3
     go_enter Tryz.func145,Tryz.ntmps145
     go_wp2_with (first
      |(go_at_call 144;(with_reducible refine (H0.out _).mono ?_);rintro e w1 ⟨rfl,rfl⟩)
      |(go_at_call 144;(with_reducible refine (H2.out _).mono ?_);rintro e w1 ⟨rfl,rfl⟩)
      |(go_at_call 144;(with_reducible refine (H3.out _).mono ?_);rintro e w1 ⟨rfl,rfl⟩))
     go_ret
     exact ⟨ret_bool (by simp only [HH0.out,HH1.out,HH2.out,HH3.out,Bool.false_and,Bool.and_false,Bool.true_and,Bool.and_true,Bool.not_false,Bool.not_true]),rfl⟩
theorem isToken_any (s:ByteArray) (ix:Int) (no an:ByteArray) (w:World):Calls Tryz.prog 38 #[.agg #[.string s,.int .i64 ix,.string no,.string an]] w fun e w'=>e= .returned (.bool (tkB s ix no an))∧Below w.heap.size w w':=by
 obtain ⟨W1,hW1⟩:∃W1:World,W1=w.alloc (.cells #[.string s,.int .i64 ix,.string no,.string an] 37):=⟨_,rfl⟩
 have hb1:Below w.heap.size w W1:=by rw [hW1];exact (Below.refl _ _).alloc (Nat.le_refl _) _
 have hc:W1.heap[w.heap.size]? =some (.cells #[.string s,.int .i64 ix,.string no,.string an] 37 (0,0)):=by rw [hW1];exact heap_alloc_new w _
 have HC:Hid (∀V,Below W1.heap.size W1 V→V.cell? ⟨w.heap.size,2,none⟩=some (.string no)∧V.cell? ⟨w.heap.size,3,none⟩=some (.string an)):=fun V hb=>by
  have h:=(hb.block _ (lt_of_block hc)).trans hc
  exact ⟨by rw [cell_of_row V _ 2 _ _ _ h];rfl,by rw [cell_of_row V _ 3 _ _ _ h];rfl⟩
 have H0:=Lib.hid (isID_any s ix W1)
 have HB1:=Lib.hid hb1
 have HWE:=Lib.hid hW1
 rw [hW1] at H0
 unfold tkB
 clear hb1 hc hW1
 cases h0:idB s ix
 ·rw [h0] at H0
  skip
  have HH0:=Lib.hid h0
  clear h0
  go_enter Tryz.func38,Tryz.ntmps38
  go_wp2_with (first
   |(go_at_call 85;(with_reducible refine H0.out.mono ?_);rintro e w2 ⟨rfl,hb2⟩;rw [←HWE.out] at hb2;(have HB2:=Lib.hid (HB1.out.trans (hb2.mono HB1.out.size)));obtain ⟨q2,q3⟩:=HC.out _ hb2;clear hb2))
  go_ret
  exact ⟨ret_bool (by simp only [HH0.out,Bool.false_and,Bool.and_false,Bool.true_and,Bool.and_true,Bool.not_false,Bool.not_true]),HB2.out⟩
 ·rw [h0] at H0
  skip
  have HH0:=Lib.hid h0
  clear h0
  cases h1:decide (no.size=32)
  ·have hz1:((((no).size:Nat):Int)==32)=false:=by have:=of_decide_eq_false h1;simp;omega
   have hz101:((((no).size:Nat):Int) != 32)=true:=by have:=of_decide_eq_false h1;simp;omega
   skip
   have HH1:=Lib.hid h1
   clear h1
   go_enter Tryz.func38,Tryz.ntmps38
   go_wp2_with (first
    |(go_at_call 85;(with_reducible refine H0.out.mono ?_);rintro e w2 ⟨rfl,hb2⟩;rw [←HWE.out] at hb2;(have HB2:=Lib.hid (HB1.out.trans (hb2.mono HB1.out.size)));obtain ⟨q2,q3⟩:=HC.out _ hb2;clear hb2))
   go_ret
   exact ⟨ret_bool (by simp only [HH0.out,HH1.out,Bool.false_and,Bool.and_false,Bool.true_and,Bool.and_true,Bool.not_false,Bool.not_true]),HB2.out⟩
  ·have hz1:(((no).size:Nat):Int)=32:=by have:=of_decide_eq_true h1;omega
   skip
   have HH1:=Lib.hid h1
   clear h1
   cases h2:decide (an.size=32)
   ·have hz2:((((an).size:Nat):Int)==32)=false:=by have:=of_decide_eq_false h2;simp;omega
    have hz102:((((an).size:Nat):Int) != 32)=true:=by have:=of_decide_eq_false h2;simp;omega
    skip
    have HH2:=Lib.hid h2
    clear h2
    go_enter Tryz.func38,Tryz.ntmps38
    go_wp2_with (first
     |(go_at_call 85;(with_reducible refine H0.out.mono ?_);rintro e w2 ⟨rfl,hb2⟩;rw [←HWE.out] at hb2;(have HB2:=Lib.hid (HB1.out.trans (hb2.mono HB1.out.size)));obtain ⟨q2,q3⟩:=HC.out _ hb2;clear hb2))
    go_ret
    exact ⟨ret_bool (by simp only [HH0.out,HH1.out,HH2.out,Bool.false_and,Bool.and_false,Bool.true_and,Bool.and_true,Bool.not_false,Bool.not_true]),HB2.out⟩
   ·have hz2:(((an).size:Nat):Int)=32:=by have:=of_decide_eq_true h2;omega
    skip
    have HH2:=Lib.hid h2
    clear h2
    go_enter Tryz.func38,Tryz.ntmps38
    go_wp2_with (first
     |(go_at_call 85;(with_reducible refine H0.out.mono ?_);rintro e w2 ⟨rfl,hb2⟩;rw [←HWE.out] at hb2;(have HB2:=Lib.hid (HB1.out.trans (hb2.mono HB1.out.size)));obtain ⟨q2,q3⟩:=HC.out _ hb2;clear hb2))
    go_ret
    exact ⟨ret_bool (by simp only [HH0.out,HH1.out,HH2.out,Bool.false_and,Bool.and_false,Bool.true_and,Bool.and_true,Bool.not_false,Bool.not_true]),HB2.out⟩
