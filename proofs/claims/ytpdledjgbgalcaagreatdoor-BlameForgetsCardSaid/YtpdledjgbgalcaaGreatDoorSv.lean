/- receipt.valid. -/
import Derived.Test.YtpdledjgbgalcaaGreatDoorPm
namespace Go.Proofs.YtpdledjgbgalcaaGreatDoor
set_option maxRecDepth 100000
set_option maxHeartbeats 16000000
open Go.RowKit Go.Lib
set_option linter.unusedVariables false
set_option linter.unusedSimpArgs false
theorem valid_any (r:Rcp) (ps qs rs:List ByteArray) (B:Nat) (w:World) (hx:RcIn w B r ps qs rs) (hB:B≤w.heap.size):Calls Tryz.prog 87 #[.agg #[.int .i64 r.hd,.int .i64 r.vt,.string r.s,.int .i64 r.ix,.int .i64 r.sz,.int .i64 r.dy,.int .i64 r.sr,.int .i64 r.ct,.int .i64 r.pl,.string r.rt,.slice r.pa.a r.pa.n r.pa.c,.int .i64 r.si,.slice r.pb.a r.pb.n r.pb.c,.slice r.pc.a r.pc.n r.pc.c]] w fun e w'=>e= .returned (.bool (vaB r ps qs rs))∧Below w.heap.size w w':=by
 have HX:Hid (∀V,Below w.heap.size w V→RcIn V B r ps qs rs):=fun V hb=>hx.up hb hB
 have H0:=lh (fun W=>ybo r.hd 0 11 W);have H1:=lh (fun W=>pvalid_any r.vt r.s r.ix r.sz W);have H2:=lh (fun W=>ybo r.dy 0 999999 W);have H3:=lh (fun W=>ybo r.sr 0 1099511627776 W);have H4:=lh (fun W=>ybo r.ct 1 256 W);have H5:=lh (fun W=>ybo r.pl 0 (r.ct - 1) W);have H10:=lh (fun W=>ybo r.si 0 255 W);have H7:Hid (∀V,Below w.heap.size w V→Calls Tryz.prog 146 #[.slice r.pa.a r.pa.n r.pa.c,.int .i64 8] V fun e w'=>e= .returned (.bool (arB ps 8))∧V=w'):=fun V hb=>ycM _ _ _ B 8 ps V (HX.out V hb).1 de
 have H8:Hid (∀V,Below w.heap.size w V→Calls Tryz.prog 146 #[.slice r.pc.a r.pc.n r.pc.c,.int .i64 8] V fun e w'=>e= .returned (.bool (arB rs 8))∧V=w'):=fun V hb=>ycM _ _ _ B 8 rs V (HX.out V hb).2.2 de
 have H9:Hid (∀V,Below w.heap.size w V→Calls Tryz.prog 146 #[.slice r.pb.a r.pb.n r.pb.c,.int .i64 300] V fun e w'=>e= .returned (.bool (arB qs 300))∧V=w'):=fun V hb=>ycM _ _ _ B 300 qs V (HX.out V hb).2.1 de
 have HB2:Hid (Below w.heap.size w ((w.alloc (.cells #[.int .i64 r.hd,.int .i64 r.vt,.string r.s,.int .i64 r.ix,.int .i64 r.sz,.int .i64 r.dy,.int .i64 r.sr,.int .i64 r.ct,.int .i64 r.pl,.string r.rt,.slice r.pa.a r.pa.n r.pa.c,.int .i64 r.si,.slice r.pb.a r.pb.n r.pb.c,.slice r.pc.a r.pc.n r.pc.c] 35)).alloc (.cells #[.int .i64 r.vt,.string r.s,.int .i64 r.ix,.int .i64 r.sz] 223))):=bl.alloc sI _;have HB1:Hid (Below w.heap.size w (w.alloc (.cells #[.int .i64 r.hd,.int .i64 r.vt,.string r.s,.int .i64 r.ix,.int .i64 r.sz,.int .i64 r.dy,.int .i64 r.sr,.int .i64 r.ct,.int .i64 r.pl,.string r.rt,.slice r.pa.a r.pa.n r.pa.c,.int .i64 r.si,.slice r.pb.a r.pb.n r.pb.c,.slice r.pc.a r.pc.n r.pc.c] 35))):=bl;unfold vaB;clear hx hB
 cases h0:rgB r.hd 0 11
 ·rw [h0] at H0
  skip
  have HH0:=lh h0;clear h0;go_enter Tryz.func87,Tryz.ntmps87
  go_wp2_with (first
   |(go_at_call 144;(with_reducible refine (H0.out _).mono ?_);rintro e w1 ⟨rfl,rfl⟩)
   |(go_at_call 144;(with_reducible refine (H2.out _).mono ?_);rintro e w1 ⟨rfl,rfl⟩)
   |(go_at_call 144;(with_reducible refine (H3.out _).mono ?_);rintro e w1 ⟨rfl,rfl⟩)
   |(go_at_call 144;(with_reducible refine (H4.out _).mono ?_);rintro e w1 ⟨rfl,rfl⟩)
   |(go_at_call 144;(with_reducible refine (H5.out _).mono ?_);rintro e w1 ⟨rfl,rfl⟩)
   |(go_at_call 144;(with_reducible refine (H10.out _).mono ?_);rintro e w1 ⟨rfl,rfl⟩)
   |(go_at_call 145;(with_reducible refine (H1.out _).mono ?_);rintro e w1 ⟨rfl,rfl⟩)
   |(go_at_call 146;(with_reducible refine (H7.out _ HB2.out).mono ?_);rintro e w1 ⟨rfl,rfl⟩)
   |(go_at_call 146;(with_reducible refine (H8.out _ HB2.out).mono ?_);rintro e w1 ⟨rfl,rfl⟩)
   |(go_at_call 146;(with_reducible refine (H9.out _ HB2.out).mono ?_);rintro e w1 ⟨rfl,rfl⟩))
  go_ret;exact ⟨ya2 yaB,by first |exact HB2.out |exact HB1.out⟩
 ·rw [h0] at H0
  skip
  have HH0:=lh h0;clear h0
  cases h1:pvB r.vt r.s r.ix r.sz
  ·rw [h1] at H1
   skip
   have HH1:=lh h1;clear h1;go_enter Tryz.func87,Tryz.ntmps87
   go_wp2_with (first
    |(go_at_call 144;(with_reducible refine (H0.out _).mono ?_);rintro e w1 ⟨rfl,rfl⟩)
    |(go_at_call 144;(with_reducible refine (H2.out _).mono ?_);rintro e w1 ⟨rfl,rfl⟩)
    |(go_at_call 144;(with_reducible refine (H3.out _).mono ?_);rintro e w1 ⟨rfl,rfl⟩)
    |(go_at_call 144;(with_reducible refine (H4.out _).mono ?_);rintro e w1 ⟨rfl,rfl⟩)
    |(go_at_call 144;(with_reducible refine (H5.out _).mono ?_);rintro e w1 ⟨rfl,rfl⟩)
    |(go_at_call 144;(with_reducible refine (H10.out _).mono ?_);rintro e w1 ⟨rfl,rfl⟩)
    |(go_at_call 145;(with_reducible refine (H1.out _).mono ?_);rintro e w1 ⟨rfl,rfl⟩)
    |(go_at_call 146;(with_reducible refine (H7.out _ HB2.out).mono ?_);rintro e w1 ⟨rfl,rfl⟩)
    |(go_at_call 146;(with_reducible refine (H8.out _ HB2.out).mono ?_);rintro e w1 ⟨rfl,rfl⟩)
    |(go_at_call 146;(with_reducible refine (H9.out _ HB2.out).mono ?_);rintro e w1 ⟨rfl,rfl⟩))
   go_ret;exact ⟨ya2 yay,by first |exact HB2.out |exact HB1.out⟩
  ·rw [h1] at H1
   skip
   have HH1:=lh h1;clear h1
   cases h2:rgB r.dy 0 999999
   ·rw [h2] at H2
    skip
    have HH2:=lh h2;clear h2;go_enter Tryz.func87,Tryz.ntmps87
    go_wp2_with (first
     |(go_at_call 144;(with_reducible refine (H0.out _).mono ?_);rintro e w1 ⟨rfl,rfl⟩)
     |(go_at_call 144;(with_reducible refine (H2.out _).mono ?_);rintro e w1 ⟨rfl,rfl⟩)
     |(go_at_call 144;(with_reducible refine (H3.out _).mono ?_);rintro e w1 ⟨rfl,rfl⟩)
     |(go_at_call 144;(with_reducible refine (H4.out _).mono ?_);rintro e w1 ⟨rfl,rfl⟩)
     |(go_at_call 144;(with_reducible refine (H5.out _).mono ?_);rintro e w1 ⟨rfl,rfl⟩)
     |(go_at_call 144;(with_reducible refine (H10.out _).mono ?_);rintro e w1 ⟨rfl,rfl⟩)
     |(go_at_call 145;(with_reducible refine (H1.out _).mono ?_);rintro e w1 ⟨rfl,rfl⟩)
     |(go_at_call 146;(with_reducible refine (H7.out _ HB2.out).mono ?_);rintro e w1 ⟨rfl,rfl⟩)
     |(go_at_call 146;(with_reducible refine (H8.out _ HB2.out).mono ?_);rintro e w1 ⟨rfl,rfl⟩)
     |(go_at_call 146;(with_reducible refine (H9.out _ HB2.out).mono ?_);rintro e w1 ⟨rfl,rfl⟩))
    go_ret;exact ⟨ya2 yat,by first |exact HB2.out |exact HB1.out⟩
   ·rw [h2] at H2
    skip
    have HH2:=lh h2;clear h2
    cases h3:rgB r.sr 0 1099511627776
    ·rw [h3] at H3
     skip
     have HH3:=lh h3;clear h3;go_enter Tryz.func87,Tryz.ntmps87
     go_wp2_with (first
      |(go_at_call 144;(with_reducible refine (H0.out _).mono ?_);rintro e w1 ⟨rfl,rfl⟩)
      |(go_at_call 144;(with_reducible refine (H2.out _).mono ?_);rintro e w1 ⟨rfl,rfl⟩)
      |(go_at_call 144;(with_reducible refine (H3.out _).mono ?_);rintro e w1 ⟨rfl,rfl⟩)
      |(go_at_call 144;(with_reducible refine (H4.out _).mono ?_);rintro e w1 ⟨rfl,rfl⟩)
      |(go_at_call 144;(with_reducible refine (H5.out _).mono ?_);rintro e w1 ⟨rfl,rfl⟩)
      |(go_at_call 144;(with_reducible refine (H10.out _).mono ?_);rintro e w1 ⟨rfl,rfl⟩)
      |(go_at_call 145;(with_reducible refine (H1.out _).mono ?_);rintro e w1 ⟨rfl,rfl⟩)
      |(go_at_call 146;(with_reducible refine (H7.out _ HB2.out).mono ?_);rintro e w1 ⟨rfl,rfl⟩)
      |(go_at_call 146;(with_reducible refine (H8.out _ HB2.out).mono ?_);rintro e w1 ⟨rfl,rfl⟩)
      |(go_at_call 146;(with_reducible refine (H9.out _ HB2.out).mono ?_);rintro e w1 ⟨rfl,rfl⟩))
     go_ret;exact ⟨ya2 yaq,by first |exact HB2.out |exact HB1.out⟩
    ·rw [h3] at H3
     skip
     have HH3:=lh h3;clear h3
     cases h4:rgB r.ct 1 256
     ·rw [h4] at H4
      skip
      have HH4:=lh h4;clear h4;go_enter Tryz.func87,Tryz.ntmps87
      go_wp2_with (first
       |(go_at_call 144;(with_reducible refine (H0.out _).mono ?_);rintro e w1 ⟨rfl,rfl⟩)
       |(go_at_call 144;(with_reducible refine (H2.out _).mono ?_);rintro e w1 ⟨rfl,rfl⟩)
       |(go_at_call 144;(with_reducible refine (H3.out _).mono ?_);rintro e w1 ⟨rfl,rfl⟩)
       |(go_at_call 144;(with_reducible refine (H4.out _).mono ?_);rintro e w1 ⟨rfl,rfl⟩)
       |(go_at_call 144;(with_reducible refine (H5.out _).mono ?_);rintro e w1 ⟨rfl,rfl⟩)
       |(go_at_call 144;(with_reducible refine (H10.out _).mono ?_);rintro e w1 ⟨rfl,rfl⟩)
       |(go_at_call 145;(with_reducible refine (H1.out _).mono ?_);rintro e w1 ⟨rfl,rfl⟩)
       |(go_at_call 146;(with_reducible refine (H7.out _ HB2.out).mono ?_);rintro e w1 ⟨rfl,rfl⟩)
       |(go_at_call 146;(with_reducible refine (H8.out _ HB2.out).mono ?_);rintro e w1 ⟨rfl,rfl⟩)
       |(go_at_call 146;(with_reducible refine (H9.out _ HB2.out).mono ?_);rintro e w1 ⟨rfl,rfl⟩))
      go_ret;exact ⟨ya2 (by simp only [HH0.out,HH1.out,HH2.out,HH3.out,HH4.out,Bool.false_and,Bool.and_false,Bool.true_and,Bool.and_true,Bool.not_false,Bool.not_true]),by first |exact HB2.out |exact HB1.out⟩
     ·rw [h4] at H4
      have hct:=of_decide_eq_true h4
      skip
      have HH4:=lh h4;clear h4
      cases h5:rgB r.pl 0 (r.ct - 1)
      ·rw [h5] at H5
       skip
       have HH5:=lh h5;clear h5;go_enter Tryz.func87,Tryz.ntmps87
       go_wp2_with (first
        |(go_at_call 144;(with_reducible refine (H0.out _).mono ?_);rintro e w1 ⟨rfl,rfl⟩)
        |(go_at_call 144;(with_reducible refine (H2.out _).mono ?_);rintro e w1 ⟨rfl,rfl⟩)
        |(go_at_call 144;(with_reducible refine (H3.out _).mono ?_);rintro e w1 ⟨rfl,rfl⟩)
        |(go_at_call 144;(with_reducible refine (H4.out _).mono ?_);rintro e w1 ⟨rfl,rfl⟩)
        |(go_at_call 144;(with_reducible refine (H5.out _).mono ?_);rintro e w1 ⟨rfl,rfl⟩)
        |(go_at_call 144;(with_reducible refine (H10.out _).mono ?_);rintro e w1 ⟨rfl,rfl⟩)
        |(go_at_call 145;(with_reducible refine (H1.out _).mono ?_);rintro e w1 ⟨rfl,rfl⟩)
        |(go_at_call 146;(with_reducible refine (H7.out _ HB2.out).mono ?_);rintro e w1 ⟨rfl,rfl⟩)
        |(go_at_call 146;(with_reducible refine (H8.out _ HB2.out).mono ?_);rintro e w1 ⟨rfl,rfl⟩)
        |(go_at_call 146;(with_reducible refine (H9.out _ HB2.out).mono ?_);rintro e w1 ⟨rfl,rfl⟩))
       go_ret;exact ⟨ya2 (by simp only [HH0.out,HH1.out,HH2.out,HH3.out,HH4.out,HH5.out,Bool.false_and,Bool.and_false,Bool.true_and,Bool.and_true,Bool.not_false,Bool.not_true]),by first |exact HB2.out |exact HB1.out⟩
      ·rw [h5] at H5
       skip
       have HH5:=lh h5;clear h5
       cases h6:decide (r.rt.size=32)
       ·have hz6:((((r.rt).size:Nat):Int)==32)=false:=by have:=of_decide_eq_false h6;simp;omega
        have hz106:((((r.rt).size:Nat):Int) != 32)=true:=by have:=of_decide_eq_false h6;simp;omega
        skip
        have HH6:=lh h6;clear h6;go_enter Tryz.func87,Tryz.ntmps87
        go_wp2_with (first
         |(go_at_call 144;(with_reducible refine (H0.out _).mono ?_);rintro e w1 ⟨rfl,rfl⟩)
         |(go_at_call 144;(with_reducible refine (H2.out _).mono ?_);rintro e w1 ⟨rfl,rfl⟩)
         |(go_at_call 144;(with_reducible refine (H3.out _).mono ?_);rintro e w1 ⟨rfl,rfl⟩)
         |(go_at_call 144;(with_reducible refine (H4.out _).mono ?_);rintro e w1 ⟨rfl,rfl⟩)
         |(go_at_call 144;(with_reducible refine (H5.out _).mono ?_);rintro e w1 ⟨rfl,rfl⟩)
         |(go_at_call 144;(with_reducible refine (H10.out _).mono ?_);rintro e w1 ⟨rfl,rfl⟩)
         |(go_at_call 145;(with_reducible refine (H1.out _).mono ?_);rintro e w1 ⟨rfl,rfl⟩)
         |(go_at_call 146;(with_reducible refine (H7.out _ HB2.out).mono ?_);rintro e w1 ⟨rfl,rfl⟩)
         |(go_at_call 146;(with_reducible refine (H8.out _ HB2.out).mono ?_);rintro e w1 ⟨rfl,rfl⟩)
         |(go_at_call 146;(with_reducible refine (H9.out _ HB2.out).mono ?_);rintro e w1 ⟨rfl,rfl⟩))
        go_ret;exact ⟨ya2 (by simp only [HH0.out,HH1.out,HH2.out,HH3.out,HH4.out,HH5.out,HH6.out,Bool.false_and,Bool.and_false,Bool.true_and,Bool.and_true,Bool.not_false,Bool.not_true]),by first |exact HB2.out |exact HB1.out⟩
       ·have hz6:(((r.rt).size:Nat):Int)=32:=by have:=of_decide_eq_true h6;omega
        skip
        have HH6:=lh h6;clear h6
        cases h7:arB ps 8
        ·rw [h7] at H7
         skip
         have HH7:=lh h7;clear h7;go_enter Tryz.func87,Tryz.ntmps87
         go_wp2_with (first
          |(go_at_call 144;(with_reducible refine (H0.out _).mono ?_);rintro e w1 ⟨rfl,rfl⟩)
          |(go_at_call 144;(with_reducible refine (H2.out _).mono ?_);rintro e w1 ⟨rfl,rfl⟩)
          |(go_at_call 144;(with_reducible refine (H3.out _).mono ?_);rintro e w1 ⟨rfl,rfl⟩)
          |(go_at_call 144;(with_reducible refine (H4.out _).mono ?_);rintro e w1 ⟨rfl,rfl⟩)
          |(go_at_call 144;(with_reducible refine (H5.out _).mono ?_);rintro e w1 ⟨rfl,rfl⟩)
          |(go_at_call 144;(with_reducible refine (H10.out _).mono ?_);rintro e w1 ⟨rfl,rfl⟩)
          |(go_at_call 145;(with_reducible refine (H1.out _).mono ?_);rintro e w1 ⟨rfl,rfl⟩)
          |(go_at_call 146;(with_reducible refine (H7.out _ HB2.out).mono ?_);rintro e w1 ⟨rfl,rfl⟩)
          |(go_at_call 146;(with_reducible refine (H8.out _ HB2.out).mono ?_);rintro e w1 ⟨rfl,rfl⟩)
          |(go_at_call 146;(with_reducible refine (H9.out _ HB2.out).mono ?_);rintro e w1 ⟨rfl,rfl⟩))
         go_ret;exact ⟨ya2 (by simp only [HH0.out,HH1.out,HH2.out,HH3.out,HH4.out,HH5.out,HH6.out,HH7.out,Bool.false_and,Bool.and_false,Bool.true_and,Bool.and_true,Bool.not_false,Bool.not_true]),by first |exact HB2.out |exact HB1.out⟩
        ·rw [h7] at H7
         skip
         have HH7:=lh h7;clear h7
         cases h8:arB rs 8
         ·rw [h8] at H8
          skip
          have HH8:=lh h8;clear h8;go_enter Tryz.func87,Tryz.ntmps87
          go_wp2_with (first
           |(go_at_call 144;(with_reducible refine (H0.out _).mono ?_);rintro e w1 ⟨rfl,rfl⟩)
           |(go_at_call 144;(with_reducible refine (H2.out _).mono ?_);rintro e w1 ⟨rfl,rfl⟩)
           |(go_at_call 144;(with_reducible refine (H3.out _).mono ?_);rintro e w1 ⟨rfl,rfl⟩)
           |(go_at_call 144;(with_reducible refine (H4.out _).mono ?_);rintro e w1 ⟨rfl,rfl⟩)
           |(go_at_call 144;(with_reducible refine (H5.out _).mono ?_);rintro e w1 ⟨rfl,rfl⟩)
           |(go_at_call 144;(with_reducible refine (H10.out _).mono ?_);rintro e w1 ⟨rfl,rfl⟩)
           |(go_at_call 145;(with_reducible refine (H1.out _).mono ?_);rintro e w1 ⟨rfl,rfl⟩)
           |(go_at_call 146;(with_reducible refine (H7.out _ HB2.out).mono ?_);rintro e w1 ⟨rfl,rfl⟩)
           |(go_at_call 146;(with_reducible refine (H8.out _ HB2.out).mono ?_);rintro e w1 ⟨rfl,rfl⟩)
           |(go_at_call 146;(with_reducible refine (H9.out _ HB2.out).mono ?_);rintro e w1 ⟨rfl,rfl⟩))
          go_ret;exact ⟨ya2 (by simp only [HH0.out,HH1.out,HH2.out,HH3.out,HH4.out,HH5.out,HH6.out,HH7.out,HH8.out,Bool.false_and,Bool.and_false,Bool.true_and,Bool.and_true,Bool.not_false,Bool.not_true]),by first |exact HB2.out |exact HB1.out⟩
         ·rw [h8] at H8
          skip
          have HH8:=lh h8;clear h8
          cases h9:arB qs 300
          ·rw [h9] at H9
           skip
           have HH9:=lh h9;clear h9;go_enter Tryz.func87,Tryz.ntmps87
           go_wp2_with (first
            |(go_at_call 144;(with_reducible refine (H0.out _).mono ?_);rintro e w1 ⟨rfl,rfl⟩)
            |(go_at_call 144;(with_reducible refine (H2.out _).mono ?_);rintro e w1 ⟨rfl,rfl⟩)
            |(go_at_call 144;(with_reducible refine (H3.out _).mono ?_);rintro e w1 ⟨rfl,rfl⟩)
            |(go_at_call 144;(with_reducible refine (H4.out _).mono ?_);rintro e w1 ⟨rfl,rfl⟩)
            |(go_at_call 144;(with_reducible refine (H5.out _).mono ?_);rintro e w1 ⟨rfl,rfl⟩)
            |(go_at_call 144;(with_reducible refine (H10.out _).mono ?_);rintro e w1 ⟨rfl,rfl⟩)
            |(go_at_call 145;(with_reducible refine (H1.out _).mono ?_);rintro e w1 ⟨rfl,rfl⟩)
            |(go_at_call 146;(with_reducible refine (H7.out _ HB2.out).mono ?_);rintro e w1 ⟨rfl,rfl⟩)
            |(go_at_call 146;(with_reducible refine (H8.out _ HB2.out).mono ?_);rintro e w1 ⟨rfl,rfl⟩)
            |(go_at_call 146;(with_reducible refine (H9.out _ HB2.out).mono ?_);rintro e w1 ⟨rfl,rfl⟩))
           go_ret;exact ⟨ya2 (by simp only [HH0.out,HH1.out,HH2.out,HH3.out,HH4.out,HH5.out,HH6.out,HH7.out,HH8.out,HH9.out,Bool.false_and,Bool.and_false,Bool.true_and,Bool.and_true,Bool.not_false,Bool.not_true]),by first |exact HB2.out |exact HB1.out⟩
          ·rw [h9] at H9
           skip
           have HH9:=lh h9;clear h9
           cases h10:rgB r.si 0 255
           ·rw [h10] at H10
            skip
            have HH10:=lh h10;clear h10;go_enter Tryz.func87,Tryz.ntmps87
            go_wp2_with (first
             |(go_at_call 144;(with_reducible refine (H0.out _).mono ?_);rintro e w1 ⟨rfl,rfl⟩)
             |(go_at_call 144;(with_reducible refine (H2.out _).mono ?_);rintro e w1 ⟨rfl,rfl⟩)
             |(go_at_call 144;(with_reducible refine (H3.out _).mono ?_);rintro e w1 ⟨rfl,rfl⟩)
             |(go_at_call 144;(with_reducible refine (H4.out _).mono ?_);rintro e w1 ⟨rfl,rfl⟩)
             |(go_at_call 144;(with_reducible refine (H5.out _).mono ?_);rintro e w1 ⟨rfl,rfl⟩)
             |(go_at_call 144;(with_reducible refine (H10.out _).mono ?_);rintro e w1 ⟨rfl,rfl⟩)
             |(go_at_call 145;(with_reducible refine (H1.out _).mono ?_);rintro e w1 ⟨rfl,rfl⟩)
             |(go_at_call 146;(with_reducible refine (H7.out _ HB2.out).mono ?_);rintro e w1 ⟨rfl,rfl⟩)
             |(go_at_call 146;(with_reducible refine (H8.out _ HB2.out).mono ?_);rintro e w1 ⟨rfl,rfl⟩)
             |(go_at_call 146;(with_reducible refine (H9.out _ HB2.out).mono ?_);rintro e w1 ⟨rfl,rfl⟩))
            go_ret;exact ⟨ya2 yal,by first |exact HB2.out |exact HB1.out⟩
           ·rw [h10] at H10
            skip
            have HH10:=lh h10;clear h10;go_enter Tryz.func87,Tryz.ntmps87
            go_wp2_with (first
             |(go_at_call 144;(with_reducible refine (H0.out _).mono ?_);rintro e w1 ⟨rfl,rfl⟩)
             |(go_at_call 144;(with_reducible refine (H2.out _).mono ?_);rintro e w1 ⟨rfl,rfl⟩)
             |(go_at_call 144;(with_reducible refine (H3.out _).mono ?_);rintro e w1 ⟨rfl,rfl⟩)
             |(go_at_call 144;(with_reducible refine (H4.out _).mono ?_);rintro e w1 ⟨rfl,rfl⟩)
             |(go_at_call 144;(with_reducible refine (H5.out _).mono ?_);rintro e w1 ⟨rfl,rfl⟩)
             |(go_at_call 144;(with_reducible refine (H10.out _).mono ?_);rintro e w1 ⟨rfl,rfl⟩)
             |(go_at_call 145;(with_reducible refine (H1.out _).mono ?_);rintro e w1 ⟨rfl,rfl⟩)
             |(go_at_call 146;(with_reducible refine (H7.out _ HB2.out).mono ?_);rintro e w1 ⟨rfl,rfl⟩)
             |(go_at_call 146;(with_reducible refine (H8.out _ HB2.out).mono ?_);rintro e w1 ⟨rfl,rfl⟩)
             |(go_at_call 146;(with_reducible refine (H9.out _ HB2.out).mono ?_);rintro e w1 ⟨rfl,rfl⟩))
            go_ret;exact ⟨ya2 yal,by first |exact HB2.out |exact HB1.out⟩
