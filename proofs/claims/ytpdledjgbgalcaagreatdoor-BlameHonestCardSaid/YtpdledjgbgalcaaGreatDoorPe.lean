/- Meetings: EncodeMeet, DecodeMeet; the reference's Entry, EncodeMeet. wire.AppendUint and sha256.Sum, any bytes. One-time signatures: parameters. -/
import Derived.Test.YtpdledjgbgalcaaGreatDoorPd
import Derived.Test.YtpdledjgbgalcaaGreatDoorMh
import Derived.OwnWalk
import Derived.Test.YtpdledjgbgalcaaGreatDoorPj
namespace Go.Proofs.YtpdledjgbgalcaaGreatDoor
set_option maxRecDepth 100000
open Go.RowKit Go.Lib
set_option linter.unusedVariables false
set_option linter.unusedSimpArgs false
def inB (p:Int):Bool:=decide (0≤p∧p≤11)
theorem within_any (x a b:Int) (w:World):Calls Tryz.prog 42 #[.int .i64 x,.int .i64 a,.int .i64 b] w fun e w'=>e= .returned (.bool (decide (a≤x∧x≤b)))∧w=w':=by
 by_cases h1:a≤x
 ·by_cases h2:x≤b
  ·go_enter Tryz.func42,Tryz.ntmps42
   go_wp2
   go_ret
   exact ⟨ret_bool (by simp [h1,h2]),rfl⟩
  ·go_enter Tryz.func42,Tryz.ntmps42
   go_wp2
   go_ret
   exact ⟨ret_bool (by simp [h1,h2]),rfl⟩
 ·go_enter Tryz.func42,Tryz.ntmps42
  go_wp2
  go_ret
  exact ⟨ret_bool (by have:¬a≤x:=by omega
                      simp [this]),rfl⟩
theorem apU_any (n:Nat) (w:World) (hn:n < 18446744073709551616):
 Calls Tryz.prog 70 #[.slice none 0 0,.int .u64 n] w fun e w'=>∃v,e= .returned v∧Own fB 5 w' w.heap.size v (enc n)∧Below w.heap.size w w':=by
 obtain ⟨i0,hi,hz0,hz1,hz2⟩:=info_parts Tryz.infoB
 have HI:=Lib.hid hi
 have HZ0:=Lib.hid hz0
 have HZ1:=Lib.hid hz1
 have HZ2:=Lib.hid hz2
 have HC:Hid (∀v W,Own fB 5 W w.heap.size v []→Below w.heap.size w W→Calls Tryz.prog 135 #[v,.int .u64 n] W fun e w'=>∃v',e= .returned v'∧Own fB 5 w' w.heap.size v' (enc n)∧Below w.heap.size w w'):=fun v W hO hb=>
  (extend_any v [] n W w.heap.size hO hb.size hn (by simp)).mono (fun e w' ⟨v',h1,h2,h3,_⟩=>⟨v',h1,h2,hb.trans (h3.below hb.size (fun i hi=>(World.ownsRow.lt hO i hi).1))⟩)
 clear hi hz0 hz1 hz2
 go_enter Tryz.func70,Tryz.ntmps70
 go_wp2_with (first
  |(at_make
    refine wpList_make_own w (o:=⟨some 8,_,_,_,_,_⟩) rfl _ _ 40 rfl w.heap.size 5 i0 (.int .u8 0) 1 Tryz.underlying40 HI.out HZ0.out HZ1.out _ _ 10 10 rfl rfl rfl (by rw [HZ2.out];decide) (by unfold maxLen;omega) (Nat.le_refl _) ?_
    intro w1 hO1 hG1
    have HO1:Hid (Own fB 5 w1 w.heap.size (.slice (some ⟨w.heap.size,0,none⟩) 0 10) []):=hO1
    have HB1:Hid (Below w.heap.size w w1):=grown_below hG1 (fun k hk=>by cases hk) (Nat.le_refl _)
    have HS1:Hid (w.heap.size≤w1.heap.size):=HB1.out.size
    clear hO1 hG1)
  |(go_at_call 135;(with_reducible refine (HC.out _ w1 HO1.out HB1.out).mono ?_);rintro e w3 ⟨v3,rfl,ho,hb⟩))
 go_ret
 exact ⟨_,rfl,ho,hb⟩
theorem encV_len (xs:List Int) (h:validB xs=true):(encV xs).length≤130:=by
 unfold encV
 have h1:=enc_len (nrm xs).length
 have h2:=encL_len (nrm xs)
 have h3:=nrm_len xs
 have h4:=valid_len h
 rw [List.length_append]
 omega
theorem encV_byt (xs:List Int):Byt (encV xs):=by
 unfold encV
 refine Byt.app (enc_rng _) ?_
 intro b hb
 obtain ⟨x,_,h⟩:=List.mem_flatMap.1 hb
 exact enc_rng _ b h
theorem enc_small {p:Nat} (h:p < 128):enc p=[(p:Int)]:=by simp [enc,encF,h]
theorem numF_small {p:Nat} (h:p < 128) (bs:List Int):numF ((p:Int)::bs) 10 0 0 0=((p:Int),0,1):=by
 have h1:¬(128:Int)≤(p:Int):=by omega
 have h2:(p:Int) % 128=p:=by omega
 simp [numF,h1,h2]
def MeetPost (p:Int) (xs:List Int) (w:World) (e:Ending) (w':World):Prop:=
 ((inB p&&validB xs)=true∧Slc2 fB (p::encV xs) 0 w e w')∨((inB p&&validB xs)=false∧e= .returned (.tuple #[.slice none 0 0,.int .i64 1])∧Below w.heap.size w w')
theorem emeet_any (p:Int) (A:Option Addr) (n:Nat) (xs:List Int) (c:Nat) (w:World) (B:Nat) (hx:Sl I w B A n xs) (hB:B≤w.heap.size) (hl:n≤1000000):
 Calls Tryz.prog 31 #[.int .i64 p,.slice A n c] w (MeetPost p xs w):=by
 obtain ⟨i0,hi,hz0,hz1,hz2⟩:=info_parts Tryz.infoB
 have HI:=Lib.hid hi
 have HZ0:=Lib.hid hz0
 have HZ1:=Lib.hid hz1
 have HZ2:=Lib.hid hz2
 have HC:=Lib.hid (encode_any A n xs c w B hx hB hl)
 have HW:=Lib.hid (fun W=>within_any p 0 11 W)
 clear hi hz0 hz1 hz2 hx
 by_cases hp:0≤p∧p≤11
 ·obtain ⟨q,rfl⟩:∃q:Nat,p=(q:Int):=⟨p.toNat,by omega⟩
  have hd:decide ((0:Int)≤(q:Int)∧(q:Int)≤11)=true:=decide_eq_true hp
  have hq:q < 128:=by omega
  have HIn:Hid (inB (q:Int)=true):=hd
  have HQ:Hid (enc q=[(q:Int)]):=enc_small hq
  rw [hd] at HW
  have hqI:(q:Int) % 18446744073709551616=(q:Int):=by omega
  have HAU:=Lib.hid (fun W=>apU_any q W (by omega))
  clear hp hd
  go_enter Tryz.func31,Tryz.ntmps31
  go_upto_region 4 with (first
   |(go_at_call 42;(with_reducible refine (HW.out _).mono ?_);rintro e w1 ⟨rfl,rfl⟩)
   |(go_at_call 69;(with_reducible refine HC.out.mono ?_)
     rintro e w1 (⟨hv,A1,n1,c1,rfl,hc1,hs1,hb1⟩ |⟨hv,A1,n1,c1,rfl,hc1,hs1,hb1⟩)))
  ·have HV:=Lib.hid hv
   have HB1:=Lib.hid hb1
   have HS1:=Lib.hid hs1
   have hbl:=encV_len xs hv
   have HLe:Hid ((encV xs).length=n1):=hs1.1
   clear hv hb1 hs1
   go_wp2_with (first
    |(go_at_call 70;(with_reducible refine (HAU.out _).mono ?_);rintro e w2 ⟨v2,rfl,ho2,hb2⟩
      have HO2:=Lib.hid ho2
      have HB2:=Lib.hid hb2
      have HS2:Hid (Sl fB w2 w1.heap.size A1 n1 (encV xs)):=HS1.out.up hb2 (Nat.le_refl _)
      have HL1:Hid (((enc q).length+(encV xs).length)*1≤140737488355328):=by show _≤_;have:=enc_len q;omega
      have HL2:Hid ((enc q).length+(encV xs).length≤maxLen):=by show _≤_;have:=enc_len q;unfold maxLen;omega
      have HSz:Hid (w1.heap.size≤w2.heap.size):=hb2.size
      clear ho2 hb2)
    |(at_builtin;(with_reducible refine wpList_app (o:=⟨some 22,_,_,_,_,_⟩) rfl (.tmp 20) (.tmp 21) 40 rfl 5 i0 (.int .u8 0) 1 Tryz.underlying40 HI.out HZ0.out HZ1.out HZ2.out rfl _ (enc q) w1.heap.size rfl HO2.out _ _ _ w1.heap.size (encV xs) rfl HS2.out fB1 HL1.out HL2.out HSz.out ?_);intro v3 w3 HO3 HG3 HV3
      have HB3:Hid (Below w1.heap.size w1 w3):=HB2.out.trans (grown_below HG3.out (fun j hj=>(World.ownsRow.lt HO2.out j hj).1) HSz.out)))
   go_ret2
   obtain ⟨A3,c3,hv3,hc3,hs3,_⟩:=HO3.out.shape
   refine .inl ⟨by rw [HIn.out,HV.out];rfl,A3,(enc q++encV xs).length,c3,by rw [←hv3];rfl,hc3,⟨by rw [HQ.out];rfl,?_⟩,HB1.out.trans (HB3.out.mono HB1.out.size)⟩
   rw [HQ.out] at hs3
   exact hs3
  ·have HV:=Lib.hid hv
   have HB1:=Lib.hid hb1
   clear hv hb1 hs1
   go_wp2
   go_ret2
   exact .inr ⟨by rw [HV.out,Bool.and_false],rfl,HB1.out⟩
 ·have hd:decide ((0:Int)≤p∧p≤11)=false:=decide_eq_false hp
  have HIn:Hid (inB p=false):=hd
  rw [hd] at HW
  clear hp hd HC
  go_enter Tryz.func31,Tryz.ntmps31
  go_wp2_with (first
   |(go_at_call 42;(with_reducible refine (HW.out _).mono ?_);rintro e w1 ⟨rfl,rfl⟩))
  go_ret2
  exact .inr ⟨by rw [HIn.out];rfl,rfl,Below.refl _ _⟩
theorem apG_any (A:Option Addr) (m c B:Nat) (xs:List Int) (n:Nat) (w:World) (hx:Sl fB w B A m xs) (hB:B≤w.heap.size) (hm:m≤1000) (hn:n < 18446744073709551616):
 Calls Tryz.prog 70 #[.slice A m c,.int .u64 n] w fun e w'=>∃v,e= .returned v∧Own fB 5 w' w.heap.size v (xs++enc n)∧Below w.heap.size w w':=by
 obtain ⟨i0,hi,hz0,hz1,hz2⟩:=info_parts Tryz.infoB
 have HI:=Lib.hid hi
 have HZ0:=Lib.hid hz0
 have HZ1:=Lib.hid hz1
 have HZ2:=Lib.hid hz2
 have hxl:xs.length=m:=hx.1
 have HC:Hid (∀v W,Own fB 5 W w.heap.size v xs→Below w.heap.size w W→Calls Tryz.prog 135 #[v,.int .u64 n] W fun e w'=>∃v',e= .returned v'∧Own fB 5 w' w.heap.size v' (xs++enc n)∧Below w.heap.size w w'):=fun v W hO hb=>
  (extend_any v xs n W w.heap.size hO hb.size hn (by omega)).mono (fun e w' ⟨v',h1,h2,h3,_⟩=>⟨v',h1,h2,hb.trans (h3.below hb.size (fun i hi=>(World.ownsRow.lt hO i hi).1))⟩)
 have HX:=Lib.hid (fun W (hb:Below w.heap.size w W)=>hx.up hb hB)
 have HL1:Hid (((([]:List Int)).length+xs.length)*1≤140737488355328):=by show _≤_;simp;omega
 have HL2:Hid ((([]:List Int)).length+xs.length≤maxLen):=by show _≤_;simp;unfold maxLen;omega
 have HM:Hid ((m:Int)+10=((m+10:Nat):Int)):=by show _=_;omega
 have HM2:Hid (i0.bytes*(m+10)≤281474976710656):=by show _≤_;rw [hz2];omega
 have HM3:Hid (m+10≤maxLen):=by show _≤_;unfold maxLen;omega
 have hmI:¬(9223372036854775807:Int) < (m:Int)+10:=by omega
 clear hi hz0 hz1 hz2 hx hxl hB
 go_enter Tryz.func70,Tryz.ntmps70
 go_wp2_with (first
  |(at_make;(refine wpList_make_own w (o:=⟨some 8,_,_,_,_,_⟩) rfl _ _ 40 rfl w.heap.size 5 i0 (.int .u8 0) 1 Tryz.underlying40 HI.out HZ0.out HZ1.out _ _ _ (m+10) rfl rfl HM.out HM2.out HM3.out (Nat.le_refl _) ?_);intro w1 hO1 hG1;(have HO1:Hid (Own fB 5 w1 w.heap.size (.slice (some ⟨w.heap.size,0,none⟩) 0 (m+10:Nat)) []):=hO1);(have HB1:Hid (Below w.heap.size w w1):=grown_below hG1 (fun k hk=>by cases hk) (Nat.le_refl _));(have HS1:Hid (w.heap.size≤w1.heap.size):=HB1.out.size);clear hO1 hG1)
  |(at_builtin;(with_reducible refine wpList_app (o:=⟨some 10,_,_,_,_,_⟩) rfl (.tmp 8) (.tmp 9) 40 rfl 5 i0 (.int .u8 0) 1 Tryz.underlying40 HI.out HZ0.out HZ1.out HZ2.out rfl _ ([]:List Int) w.heap.size rfl HO1.out A m c B xs rfl (HX.out w1 HB1.out) fB1 HL1.out HL2.out HS1.out ?_);intro v2 w2 HO2 HG2 HV2;(have HB2:Hid (Below w.heap.size w w2):=HB1.out.trans (grown_below HG2.out (fun j hj=>(World.ownsRow.lt HO1.out j hj).1) HS1.out));(have HO2':Hid (Own fB 5 w2 w.heap.size v2 xs):=HO2.out))
  |(go_at_call 135;(with_reducible refine (HC.out _ w2 HO2'.out HB2.out).mono ?_);rintro e w3 ⟨v3,rfl,ho,hb⟩))
 go_ret
 exact ⟨_,rfl,ho,hb⟩
theorem ssum_any (A:Option Addr) (n c B:Nat) (xs:List Int) (w:World) (hG:Glob w) (hx:Sl fB w B A n xs) (hc:n≤c) (hB:B≤w.heap.size) (hl:n≤549755813887) (hxb:Byt xs) (hA:∀a,A=some a→a.block < w.heap.size):
 Calls Tryz.prog 154 #[.slice A n c] w fun e w'=>e= .returned (.string (baOf (shaB xs)))∧Below w.heap.size w w':=by
 have HC0:=Lib.hid (stNew_any w hG)
 have HXB:=Lib.hid hxb
 have hb0:Below w.heap.size w (w.alloc newSt):=(Below.refl _ _).alloc (Nat.le_refl _) _
 have H2:Hid (Calls Tryz.prog 199 #[.pointer (some ⟨w.heap.size,0,none⟩),.slice A n c] (w.alloc newSt) fun e w'=>e= .returned (.tuple #[])∧St w' w.heap.size xs∧But (fun k=>k=w.heap.size) (w.alloc newSt) w'):=
  write_any w.heap.size [] xs A n c B (w.alloc newSt) (newSt_St w) (hx.up hb0 hB) hc (Nat.le_trans hB hb0.size) hxb (fun a ha=>Nat.ne_of_lt (hA a ha)) (by rw [hx.1];simp;omega) (hG.on hb0).1 (hG.on hb0).2.2 (Nat.ne_of_gt hG.2.2)
 have H3:Hid (∀w2,St w2 w.heap.size xs→Below w.heap.size w w2→Calls Tryz.prog 200 #[.pointer (some ⟨w.heap.size,0,none⟩)] w2 fun e w'=>e= .returned (.string (baOf (shaB xs)))∧Below w2.heap.size w2 w'):=fun w2 h2 hb=>
  sum_any w.heap.size xs w2 h2 (by rw [hx.1];omega) (hG.on hb).1 (hG.on hb).2.2
 have HB0:=Lib.hid hb0
 clear hG hx hxb hA hb0
 go_enter Tryz.func154,Tryz.ntmps154
 go_wp2_with (first
  |(go_at_call 198;(with_reducible refine HC0.out.mono ?_);rintro e w0 ⟨rfl,hw0⟩;subst hw0)
  |(go_at_call 199;(with_reducible refine H2.out.mono ?_);rintro e w2 ⟨rfl,hs2,hb2⟩;(have HS2:=Lib.hid hs2);(have HB2:Hid (Below w.heap.size w w2):=HB0.out.trans (hb2.below HB0.out.size (fun i hi=>Nat.le_of_eq hi.symm)));clear hs2 hb2)
  |(go_at_call 200;(with_reducible refine (H3.out w2 HS2.out HB2.out).mono ?_);rintro e w3 ⟨rfl,hb3⟩;(have HB3:=Lib.hid hb3);clear hb3))
 go_ret
 exact ⟨rfl,HB2.out.trans (HB3.out.mono HB2.out.size)⟩
def BitN (b:Int) (β:Nat):Prop:=(b=1∧β=1)∨(b=2∧β=2)∨(b=4∧β=4)
abbrev cPm (b:Int):Array Value:=#[.int .i64 b,.int .i64 32]
def lsF (β:Nat):Int:=if β=1 then 1 else if β=2 then 3 else 15
def cNI (β:Nat):Int:=if β=1 then 9 else if β=2 then 5 else 3
def mNI (β:Nat):Int:=if β=1 then 256 else if β=2 then 128 else 64
theorem olast_any (b:Int) (β:Nat) (hb:BitN b β) (w:World):Calls Tryz.prog 245 #[.agg (cPm b)] w fun e w'=>e= .returned (.int .i64 (lsF β))∧Below w.heap.size w w':=by
 have HB:Hid (Below w.heap.size w (w.alloc (.cells (cPm b) 268))):=(Below.refl _ _).alloc (Nat.le_refl _) _
 rcases hb with ⟨rfl,rfl⟩ |⟨rfl,rfl⟩ |⟨rfl,rfl⟩
 all_goals
  go_enter Tryz.func245,Tryz.ntmps245
  go_wp2
  go_ret
  exact ⟨rfl,HB.out⟩
theorem ovalid_any (b:Int) (β:Nat) (hb:BitN b β) (w:World):Calls Tryz.prog 263 #[.agg (cPm b)] w fun e w'=>e= .returned (.bool true)∧Below w.heap.size w w':=by
 have HB:Hid (Below w.heap.size w (w.alloc (.cells (cPm b) 268))):=(Below.refl _ _).alloc (Nat.le_refl _) _
 have i0:∀w,(Instr.index 324 (.agg #[.int .i64 1,.int .i64 2,.int .i64 4,.int .i64 8]) (.int .i64 0)).run Tryz.prog w= .ok (.int .i64 1) w:=fun _=>by kernel_rfl
 have i1:∀w,(Instr.index 324 (.agg #[.int .i64 1,.int .i64 2,.int .i64 4,.int .i64 8]) (.int .i64 1)).run Tryz.prog w= .ok (.int .i64 2) w:=fun _=>by kernel_rfl
 have i2:∀w,(Instr.index 324 (.agg #[.int .i64 1,.int .i64 2,.int .i64 4,.int .i64 8]) (.int .i64 2)).run Tryz.prog w= .ok (.int .i64 4) w:=fun _=>by kernel_rfl
 rcases hb with ⟨rfl,rfl⟩ |⟨rfl,rfl⟩ |⟨rfl,rfl⟩
 all_goals
  go_enter Tryz.func263,Tryz.ntmps263
  go_wp2
  refine wp_loop_rounds 3 ?_
  rw [rounds_succ]
  go_wp2
  (try rw [rounds_succ])
  go_wp2
  (try rw [rounds_succ])
  go_wp2
  go_ret
  exact ⟨rfl,HB.out⟩
theorem counts_any (b:Int) (β:Nat) (hb:BitN b β) (w:World):Calls Tryz.prog 264 #[.agg (cPm b)] w fun e w'=>e= .returned (.tuple #[.int .i64 (mNI β),.int .i64 (cNI β)])∧Below w.heap.size w w':=by
 have HB:Hid (Below w.heap.size w (w.alloc (.cells (cPm b) 268))):=(Below.refl _ _).alloc (Nat.le_refl _) _
 have HL:=Lib.hid (fun W=>olast_any b β hb W)
 have hs:(w.alloc (.cells (cPm b) 268)).heap.size=w.heap.size+1:=by simp
 have HC:Hid (∀V,Below (w.heap.size+1) (w.alloc (.cells (cPm b) 268)) V→V.cell? ⟨w.heap.size,0,none⟩=some (.int .i64 b)∧V.cell? ⟨w.heap.size,1,none⟩=some (.int .i64 32)):=fun V hv=>by
  have q:=(hv.block w.heap.size (Nat.lt_succ_self _)).trans (heap_alloc_new w _)
  refine ⟨?_,?_⟩<;>(rw [cell_of_row V _ _ _ _ _ q];rfl)
 have HS:=Lib.hid hs
 rcases hb with ⟨rfl,rfl⟩ |⟨rfl,rfl⟩ |⟨rfl,rfl⟩
 all_goals
  clear hs
  first |rw [show lsF 1=1 from rfl] at HL |rw [show lsF 2=3 from rfl] at HL |rw [show lsF 4=15 from rfl] at HL
  go_enter Tryz.func264,Tryz.ntmps264
  go_wp2_with (go_at_call 245;(with_reducible refine (HL.out _).mono ?_);rintro e W1 ⟨rfl,hb1⟩;(have HB1:Hid (Below (w.heap.size+1) (w.alloc (.cells (cPm _) 268)) W1):=HS.out▸hb1);(have hc:=HC.out W1 HB1.out);obtain ⟨c0,c1⟩:=hc;clear hb1)
  refine wp_loop_rounds 10 ?_
  repeat (rw [rounds_succ];go_wp2)
  go_ret2
  exact ⟨rfl,HB.out.trans (HB1.out.mono (Nat.le_succ _))⟩
