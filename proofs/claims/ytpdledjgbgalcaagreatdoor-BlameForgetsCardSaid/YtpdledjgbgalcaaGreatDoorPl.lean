/- A string of equal bytes; the reference's tags, secrets and seeds. The reference's one-time keys and signatures, of two bits. -/
import Derived.Test.YtpdledjgbgalcaaGreatDoorPk
import Derived.ArgAppend
import Derived.Test.YtpdledjgbgalcaaGreatDoorPu
namespace Go.Proofs.YtpdledjgbgalcaaGreatDoor
set_option maxRecDepth 100000
set_option maxHeartbeats 8000000
open Go.RowKit Go.Lib
set_option linter.unusedVariables false
set_option linter.unusedSimpArgs false
theorem encPosF (n:Nat):0 < (enc n).length:=by
 unfold enc encF
 split<;>simp
theorem ycA {w:World} {ops:Array Oper} {rest:List Oper} {o:Oper} {a:Act} {Q:Exit→Act→World→Prop} (hg:o.guard=none) (s x:Operand) (hop:o.op=Op.call {callee:=Callee.builtin Builtin.append,args:=#[s,x],argTypes:=#[40,40]})
 (A A5:Option Addr) (n m c B B5:Nat) (xs ys:List Int) (hs:a.eval s= .slice A n n) (hx:Sl fB w B A n xs) (hy:a.eval x= .slice A5 m c) (hys:Sl fB w B5 A5 m ys) (h0:0 < n) (hm:0 < m) (hl:n+m≤1000000)
 (hK:∀v w',Hid (Own fB 5 w' w.heap.size v (xs++ys))→Hid (Below w.heap.size w w')→wpList Tryz.prog ops Q rest (a.put o.dst v) w'):wpList Tryz.prog ops Q (o::rest) a w:=by
 obtain ⟨i0,hi,hz0,hz1,hz2⟩:=info_parts Tryz.infoB;obtain ⟨b,off,e1,_,hc⟩:=hx.2 (by have:=hx.1;omega);obtain ⟨b5,off5,e5,_,hc5⟩:=hys.2 (by have:=hys.1;omega);subst e1 e5;refine wpList_append_grows (P:=Tryz.prog) w hg s x 40 hop 5 i0 (.int .u8 0) 1 1 Tryz.underlying40 hi hz0 hz1 hz2 rfl de (some ⟨b,off,none⟩) n n (xs.map fB) hs (fun h=>by cases h) (by simp [hx.1]) (fun b' hb' j u hu=>?_) ⟨b5,off5,none⟩ m c (ys.map fB) hy (by simp [hys.1]) (fun j u hu=>?_) (fun u hu=>?_) om yaS om (fun v w' ho hgw=>hK v w' ?_ ?_)
 ·obtain rfl:(⟨b,off,none⟩:Addr)=b':=by injection hb'
  rw [List.getElem?_map] at hu;obtain ⟨z,hz,rfl⟩:=Option.map_eq_some_iff.1 hu;rw [Addr.add_mid];exact hc j z hz
 ·rw [List.getElem?_map] at hu
  obtain ⟨z,hz,rfl⟩:=Option.map_eq_some_iff.1 hu;rw [Addr.add_mid];exact hc5 j z hz
 ·obtain ⟨z,_,rfl⟩:=List.mem_map.1 hu
  rfl
 ·show w'.ownsRow _ _ _ _ _ _
  rw [List.length_append,hx.1,hys.1,List.map_append];exact ho
 ·exact yaY hgw (fun k hk=>by cases hk) nl
theorem ydc (c:Int) (hc:0≤c∧c < 256) (w:World):Calls Tryz.prog 68 #[.int .u8 c] w fun e w'=>e= .returned (.string (txF c))∧Below w.heap.size w w':=by
 obtain ⟨i0,hi,hz0,hz1,hz2⟩:=info_parts Tryz.infoB;have HI:=lh hi;have HZ0:=lh hz0;have HZ1:=lh hz1;have HZ2:=lh hz2;have HO0:Hid (Own fB 5 (w.alloc (.cells #[] 5)) w.heap.size (.slice (some ⟨w.heap.size,0,none⟩) 0 0) []):=World.ownsRow_lit w #[] 0 nl yaS rfl;have HB0:Hid (Below w.heap.size w (w.alloc (.cells #[] 5))):=bl;clear hi hz0 hz1 hz2;go_enter Tryz.func68,Tryz.ntmps68
 go_wp2_with fail
 go_loopw [3,4] (fun v i wr=>∃k:Nat,k≤32∧i= .int .i64 k∧Hid (Own fB 5 wr w.heap.size v (List.replicate k c))∧Hid (Below w.heap.size w wr)) (fun _ i _=>32 - (intOf i).toNat)
 case atStart=>exact ⟨0,by omega,rfl,HO0,HB0⟩
 case round=>
  clear HO0 HB0;obtain ⟨k,hk,rfl,HO,HBr⟩:=hrel;have HSz:Hid (w.heap.size≤wr.heap.size):=HBr.out.size
  by_cases hlt:k < 32
  ·have hltI:(k:Int) < 32:=by omega
   have HL1:Hid (((List.replicate k c).length+1)*1≤140737488355328):=by show _≤_;rw [List.length_replicate];omega
   have HL2:Hid ((List.replicate k c).length+1≤maxLen):=by show _≤_;rw [List.length_replicate];unfold maxLen;omega
   go_wp2_with (at_builtin;(with_reducible refine ya4 (o:=⟨some 13,_,_,_,_,_⟩) rfl (.tmp 10) (.tmp 12) 40 rfl 5 i0 (.int .u8 0) 1 Tryz.underlying40 HI.out HZ0.out HZ1.out HZ2.out rfl _ (List.replicate k c) w.heap.size rfl HO.out c 1 rfl fB1 HL1.out HL2.out HSz.out ?_);intro v2 w2 HO2 HG2 HV2)
   have HB2:Hid (Below w.heap.size w w2):=HBr.out.trans (yaY HG2.out (fun j hj=>(World.ownsRow.lt HO.out j hj).1) HSz.out);have HO3:Hid (Own fB 5 w2 w.heap.size v2 (List.replicate (k+1) c)):=by show Own ..;rw [List.replicate_succ'];exact HO2.out
   go_roundw
   case rel=>exact ⟨k+1,by omega,by go_num,HO3,HB2⟩
   case measure=>simp [intOf];omega
  ·obtain rfl:k=32:=by omega
   obtain ⟨A,cA,hv,_,hs,_⟩:=HO.out.shape;rw [List.length_replicate] at hv;subst hv;have hcv:=ycj (c:=cA) (⟨List.length_replicate ..,hs⟩:Sl fB wr wr.heap.size A 32 (List.replicate 32 c));rw [show (baOf (List.replicate 32 c))=txF c from rfl] at hcv;clear hs;go_wp2;go_ret;exact ⟨rfl,HBr.out⟩
theorem padL_byt (k:List Int) (x:Int) (hx:0≤x∧x < 256) (n:Nat) (hk:Byt k):Byt (padL k x n):=fun b hb=>by
 obtain ⟨i,_,rfl⟩:=List.mem_map.1 hb;unfold bits;simp only;rw [IntKind.wrap_u8];omega
theorem rpad5_any (key:ByteArray) (hk64:key.size≤64) (x:Int) (w:World):Calls Tryz.prog 271 #[.string key,.int .u8 x] w fun e w'=>∃v,e= .returned v∧Own fB 5 w' w.heap.size v (padL (sB key) x 64)∧Below w.heap.size w w':=by
 obtain ⟨i0,hi,hz0,hz1,hz2⟩:=info_parts Tryz.infoB;have HI:=lh hi;have HZ0:=lh hz0;have HZ1:=lh hz1;have HZ2:=lh hz2;have HO0:Hid (Own fB 5 (w.alloc (.cells #[] 5)) w.heap.size (.slice (some ⟨w.heap.size,0,none⟩) 0 0) []):=World.ownsRow_lit w #[] 0 nl yaS rfl;have HB0:Hid (Below w.heap.size w (w.alloc (.cells #[] 5))):=bl;clear hi hz0 hz1 hz2;go_enter Tryz.func271,Tryz.ntmps271
 go_wp2_with fail
 go_loopw [5,6] (fun v i wr=>∃k:Nat,k≤64∧i= .int .i64 k∧Hid (Own fB 5 wr w.heap.size v (padL (sB key) x k))∧Hid (Below w.heap.size w wr)) (fun _ i _=>64 - (intOf i).toNat)
 case atStart=>exact ⟨0,by omega,rfl,HO0,HB0⟩
 case round=>
  clear HO0 HB0;obtain ⟨k,hk,rfl,HO,HBr⟩:=hrel;have HSz:Hid (w.heap.size≤wr.heap.size):=HBr.out.size
  by_cases hlt:k < 64
  ·have hltI:(k:Int) < 64:=by omega
   have HL1:Hid (((padL (sB key) x k).length+1)*1≤140737488355328):=by show _≤_;rw [ydN];omega
   have HL2:Hid ((padL (sB key) x k).length+1≤maxLen):=by show _≤_;rw [ydN];unfold maxLen;omega
   obtain ⟨b,hb⟩:∃b,(sB key).getD k 0=b:=⟨_,rfl⟩
   have HN:Hid (padL (sB key) x (k+1)=padL (sB key) x k++[bits .xor .u8 b x]):=by show _=_;rw [padL_succ,hb]
   by_cases hkk:k < key.size
   ·have hkI:(k:Int) < (key.size:Int):=by omega
    have hxb:(key[k].toNat:Int)=b:=by rw [←hb,sB_getD hkk]
    go_wp2_with (at_builtin;(with_reducible refine ya4 (o:=⟨some 25,_,_,_,_,_⟩) rfl (.tmp 20) (.tmp 24) 40 rfl 5 i0 (.int .u8 0) 1 Tryz.underlying40 HI.out HZ0.out HZ1.out HZ2.out rfl _ (padL (sB key) x k) w.heap.size rfl HO.out (bits .xor .u8 b x) 1 rfl fB1 HL1.out HL2.out HSz.out ?_);intro v2 w2 HO2 HG2 HV2)
    have HB2:Hid (Below w.heap.size w w2):=HBr.out.trans (yaY HG2.out (fun j hj=>(World.ownsRow.lt HO.out j hj).1) HSz.out)
    go_roundw
    case rel=>exact ⟨k+1,by omega,by go_num,by rw [HN.out];exact HO2,HB2⟩
    case measure=>simp [intOf];omega
   ·have hkI:¬(k:Int) < (key.size:Int):=by omega
    obtain rfl:b=0:=by
     rw [←hb,List.getD_eq_getElem?_getD,List.getElem?_eq_none (by rw [ya9];omega)];rfl
    go_wp2_with (at_builtin;(with_reducible refine ya4 (o:=⟨some 25,_,_,_,_,_⟩) rfl (.tmp 20) (.tmp 24) 40 rfl 5 i0 (.int .u8 0) 1 Tryz.underlying40 HI.out HZ0.out HZ1.out HZ2.out rfl _ (padL (sB key) x k) w.heap.size rfl HO.out (bits .xor .u8 0 x) 1 rfl fB1 HL1.out HL2.out HSz.out ?_);intro v2 w2 HO2 HG2 HV2)
    have HB2:Hid (Below w.heap.size w w2):=HBr.out.trans (yaY HG2.out (fun j hj=>(World.ownsRow.lt HO.out j hj).1) HSz.out)
    go_roundw
    case rel=>exact ⟨k+1,by omega,by go_num,by rw [HN.out];exact HO2,HB2⟩
    case measure=>simp [intOf];omega
  ·obtain rfl:k=64:=by omega
   go_wp2;go_ret;exact ⟨_,rfl,HO.out,HBr.out⟩
theorem rtag_any (key:ByteArray) (hk:key.size≤64) (A:Option Addr) (n c B:Nat) (xs:List Int) (w:World) (hx:Sl fB w B A n xs) (hB:B≤w.heap.size) (hn:n≤1000000) (hxb:Byt xs):
 Calls Tryz.prog 261 #[.string key,.slice A n c] w fun e w'=>e= .returned (.string (tagF key xs))∧Below w.heap.size w w':=by
 obtain ⟨i0,hi,hz0,hz1,hz2⟩:=info_parts Tryz.infoB;have HI:=lh hi;have HZ0:=lh hz0;have HZ1:=lh hz1;have HZ2:=lh hz2;have HP:=lh (fun (x:Int) (W:World)=>rpad5_any key hk x W);have hkI:¬(64:Int) < (key.size:Int):=by omega
 have hxl:xs.length=n:=hx.1;have HX:Hid (∀V,Below w.heap.size w V→Sl fB V B A n xs):=fun V hv=>hx.up hv hB
 obtain ⟨p1,hp1⟩:∃p,padL (sB key) 54 64=p:=⟨_,rfl⟩
 obtain ⟨p2,hp2⟩:∃p,padL (sB key) 92 64=p:=⟨_,rfl⟩
 have l1:p1.length=64:=by rw [←hp1,ydN]
 have l2:p2.length=64:=by rw [←hp2,ydN]
 have b1:Byt p1:=by rw [←hp1];exact padL_byt _ _ om _ (ybr key)
 have b2:Byt p2:=by rw [←hp2];exact padL_byt _ _ om _ (ybr key)
 have HP1:Hid (∀W:World,Calls Tryz.prog 271 #[.string key,.int .u8 54] W fun e w'=>∃v,e= .returned v∧Own fB 5 w' W.heap.size v p1∧Below W.heap.size W w'):=fun W=>by rw [←hp1];exact HP.out 54 W
 have HP2:Hid (∀W:World,Calls Tryz.prog 271 #[.string key,.int .u8 92] W fun e w'=>∃v,e= .returned v∧Own fB 5 w' W.heap.size v p2∧Below W.heap.size W w'):=fun W=>by rw [←hp2];exact HP.out 92 W
 obtain ⟨z1,hz1'⟩:∃z,baOf (shaB (p1++xs))=z:=⟨_,rfl⟩
 have zs1:z1.size=32:=by rw [←hz1',←ya9,ybi (ybN _),ybA]
 have HV:Hid (tagF key xs=baOf (shaB (p2++sB z1))):=by show _=_;unfold tagF;rw [hp1,hp2,hz1']
 have HS1:Hid (∀(W:World) A' c' m,Sl fB W W.heap.size A' m (p1++xs)→Calls Tryz.prog 123 #[.slice A' m c'] W fun e w'=>e= .returned (.string z1)∧Below W.heap.size W w'):=fun W A' c' m h=>hz1'▸ycg A' m c' W.heap.size _ W h nl (by rw [←h.1,List.length_append];omega) (Byt.app b1 hxb)
 have HS2:Hid (∀(W:World) A' c' m,Sl fB W W.heap.size A' m (p2++sB z1)→Calls Tryz.prog 123 #[.slice A' m c'] W fun e w'=>e= .returned (.string (tagF key xs))∧Below W.heap.size W w'):=fun W A' c' m h=>HV.out▸ycg A' m c' W.heap.size _ W h nl (by rw [←h.1,List.length_append,ya9];omega) (Byt.app b2 (ybr z1))
 have HL1:Hid ((p1.length+xs.length)*1≤140737488355328):=by show _≤_;omega
 have HL2:Hid (p1.length+xs.length≤maxLen):=by show _≤_;unfold maxLen;omega
 have HL3:Hid ((p2.length+(sB z1).length)*1≤140737488355328):=by show _≤_;rw [ya9];omega
 have HL4:Hid (p2.length+(sB z1).length≤maxLen):=by show _≤_;rw [ya9];unfold maxLen;omega
 have HBw:Hid (Below w.heap.size w w):=Below.refl _ _;obtain ⟨m1,hm1⟩:∃m,(p1++xs).length=m:=⟨_,rfl⟩
 obtain ⟨m2,hm2⟩:∃m,(p2++sB z1).length=m:=⟨_,rfl⟩
 have HM1:=lh hm1;have HM2:=lh hm2;clear hm1 hm2 hi hz0 hz1 hz2 hx hB hn hxb hp1 hp2 l1 l2 b1 b2 hz1' zs1 hxl hk HP;go_enter Tryz.func261,Tryz.ntmps261
 go_upto_region 4 with (first
  |(go_at_call 271;(with_reducible refine (HP1.out _).mono ?_);rintro e w1 ⟨v1,rfl,ho,hb⟩;(have HO1:=lh ho);(have HB1:=lh hb);(have HX1:=lh (HX.out w1 hb));clear ho hb)
  |(at_builtin;(with_reducible refine ya8 (o:=⟨some 15,_,_,_,_,_⟩) rfl (.tmp 13) (.tmp 14) 40 rfl 5 i0 (.int .u8 0) 1 Tryz.underlying40 HI.out HZ0.out HZ1.out HZ2.out rfl v1 p1 w.heap.size rfl HO1.out _ _ _ B xs rfl HX1.out fB1 HL1.out HL2.out HB1.out.size ?_);intro v3 w3 HO3 HG3 HV3;(have HB3:Hid (Below w.heap.size w w3):=HB1.out.trans (yaY HG3.out (fun j hj=>(World.ownsRow.lt HO1.out j hj).1) HB1.out.size));(obtain ⟨A3,c3,hv3,hc3,hs3,_⟩:=HO3.out.shape);rw [HM1.out] at hv3;subst hv3;(have HT:=lh (HS1.out w3 A3 c3 m1 ⟨HM1.out,hs3⟩));clear hc3 hs3)
  |(go_at_call 123;(with_reducible refine HT.out.mono ?_);rintro e w4 ⟨rfl,hb4⟩;(have HB4:Hid (Below w.heap.size w w4):=HB3.out.trans (hb4.mono HB3.out.size));clear hb4))
 go_wp2_with (first
  |(go_at_call 271;(with_reducible refine (HP2.out _).mono ?_);rintro e w5 ⟨v5,rfl,ho,hb⟩;(have HO5:Hid (Own fB 5 w5 w.heap.size v5 p2):=World.ownsRow.mono ho HB4.out.size);(have HB5:Hid (Below w.heap.size w w5):=HB4.out.trans (hb.mono HB4.out.size));clear ho hb)
  |((with_reducible refine ybm (o:=⟨some 20,_,_,_,_,_⟩) rfl (.tmp 19) rfl z1 rfl ?_);intro cb W6 hsl hcb hbl;(have HB6:Hid (Below w.heap.size w W6):=HB5.out.trans (hbl.out.mono HB5.out.size));(have HO6:=lh (HO5.out.on hbl.out));(have HSL:Hid (Sl fB W6 W6.heap.size (some ⟨w5.heap.size,0,none⟩) z1.size (sB z1)):=hsl.out);clear hsl hcb hbl)
  |(at_builtin;(with_reducible refine ya8 (o:=⟨some 21,_,_,_,_,_⟩) rfl (.tmp 18) (.tmp 20) 40 rfl 5 i0 (.int .u8 0) 1 Tryz.underlying40 HI.out HZ0.out HZ1.out HZ2.out rfl v5 p2 w.heap.size rfl HO6.out _ _ _ W6.heap.size (sB z1) rfl HSL.out fB1 HL3.out HL4.out HB6.out.size ?_);intro v7 w7 HO7 HG7 HV7;(have HB7:Hid (Below w.heap.size w w7):=HB6.out.trans (yaY HG7.out (fun j hj=>(World.ownsRow.lt HO6.out j hj).1) HB6.out.size));(obtain ⟨A7,c7,hv7,hc7,hs7,_⟩:=HO7.out.shape);rw [HM2.out] at hv7;subst hv7;(have HT7:=lh (HS2.out w7 A7 c7 m2 ⟨HM2.out,hs7⟩));clear hc7 hs7)
  |(go_at_call 123;(with_reducible refine HT7.out.mono ?_);rintro e w8 ⟨rfl,hb8⟩;(have HB8:Hid (Below w.heap.size w w8):=HB7.out.trans (hb8.mono HB7.out.size));clear hb8))
 go_ret;exact ⟨rfl,HB8.out⟩
theorem rsec_any (sd:ByteArray) (hs:sd.size=32) (i:Nat) (hi9:i≤999) (w:World):Calls Tryz.prog 270 #[.string sd,.int .i64 i] w fun e w'=>e= .returned (.string (secF sd i))∧Below w.heap.size w w':=by
 have hwi:IntKind.u64.wrap (i:Int)=i:=by unfold IntKind.wrap;simp [IntKind.bits,IntKind.signed];omega
 have hcv:=Lib.run_convert_bytes_const (P:=Tryz.prog) w 40 5 #[.int .u8 115,.int .u8 101,.int .u8 99,.int .u8 114,.int .u8 101,.int .u8 116] 6 6 Tryz.underlying40 Tryz.underlying5;simp at hcv;obtain ⟨W1,hW1⟩:∃W1:World,W1=w.alloc (.cells #[.int .u8 115,.int .u8 101,.int .u8 99,.int .u8 114,.int .u8 101,.int .u8 116] 5 (6,7)):=⟨_,rfl⟩
 have HB1:Hid (Below w.heap.size w W1):=by show Below ..;rw [hW1];exact bl
 have HS1:Hid (Sl fB W1 W1.heap.size (some ⟨w.heap.size,0,none⟩) 6 [115,101,99,114,101,116]):=by
  show Sl ..
  rw [hW1];exact ⟨rfl,SL.of_block (t:=5) (fr:=(6,7)) (heap_alloc_new w _) sI⟩
 have HWE:Hid (W1=w.alloc (.cells #[.int .u8 115,.int .u8 101,.int .u8 99,.int .u8 114,.int .u8 101,.int .u8 116] 5 (6,7))):=hW1;have HN:Hid (∀W,Calls Tryz.prog 79 #[.int .u64 i] W fun e w'=>∃v,e= .returned v∧Own fB 5 w' W.heap.size v (enc i)∧Below W.heap.size W w'):=fun W=>yb2 i W om
 have hel:=ya1 i;obtain ⟨k,hk⟩:∃k,(enc i).length=k:=⟨_,rfl⟩
 have hk0:0 < k:=by rw [←hk];exact encPosF i
 have HK:=lh hk;have HK0:=lh hk0;have HK1:Hid (6+k≤1000000):=by show _≤_;omega
 have HTG:Hid (∀(W:World) A n c,Sl fB W W.heap.size A n ([115,101,99,114,101,116]++enc i)→Calls Tryz.prog 261 #[.string sd,.slice A n c] W fun e w'=>e= .returned (.string (secF sd i))∧Below W.heap.size W w'):=fun W A n c h=>rtag_any sd om A n c W.heap.size _ W h nl (by rw [←h.1,List.length_append];show 6+_≤_;omega) (Byt.app (by intro b hb;simp at hb;omega) (ya7 i))
 obtain ⟨m,hm⟩:∃m,([115,101,99,114,101,116]++enc i).length=m:=⟨_,rfl⟩
 have HM:=lh hm;clear hm hel hi9 hW1 hs hk hk0;go_enter Tryz.func270,Tryz.ntmps270
 go_wp2_with fail
 rw [←HWE.out]
 go_wp2_with (first
  |(go_at_call 79;(with_reducible refine (HN.out _).mono ?_);rintro e w2 ⟨v,rfl,ho,hb2⟩;(have HB2:Hid (Below w.heap.size w w2):=HB1.out.trans (hb2.mono HB1.out.size));(have HS2:=lh (HS1.out.up hb2 nl));(obtain ⟨A5,c5,hv5,hc5,hs5,_⟩:=ho.shape);rw [HK.out] at hv5;subst hv5;(have HS5:Hid (Sl fB w2 w2.heap.size A5 k (enc i)):=⟨HK.out,hs5⟩);clear ho hb2 hc5 hs5)
  |(at_builtin;(with_reducible refine ycA (o:=⟨some 11,_,_,_,_,_⟩) rfl (.tmp 7) (.tmp 10) rfl (some ⟨w.heap.size,0,none⟩) A5 6 k c5 W1.heap.size w2.heap.size [115,101,99,114,101,116] (enc i) rfl HS2.out rfl HS5.out om HK0.out HK1.out ?_);intro v3 w3 HO3 HG3;(have HB3:Hid (Below w.heap.size w w3):=HB2.out.trans (HG3.out.mono HB2.out.size));(obtain ⟨A3,c3,hv3,hc3,hs3,_⟩:=HO3.out.shape);rw [HM.out] at hv3;subst hv3;(have HT:=lh (HTG.out w3 A3 m c3 ⟨HM.out,hs3⟩));clear hc3 hs3)
  |(go_at_call 261;(with_reducible refine HT.out.mono ?_);rintro e w4 ⟨rfl,hb4⟩;(have HB4:Hid (Below w.heap.size w w4):=HB3.out.trans (hb4.mono HB3.out.size));clear hb4))
 go_ret;exact ⟨rfl,HB4.out⟩
theorem rsed_any (sd:ByteArray) (hs:sd.size=32) (i:Nat) (hi9:i≤999) (w:World):Calls Tryz.prog 237 #[.string sd,.int .i64 i] w fun e w'=>e= .returned (.string (sedF sd i))∧Below w.heap.size w w':=by
 have hwi:IntKind.u64.wrap (i:Int)=i:=by unfold IntKind.wrap;simp [IntKind.bits,IntKind.signed];omega
 have hcv:=Lib.run_convert_bytes_const (P:=Tryz.prog) w 40 5 #[.int .u8 111,.int .u8 110,.int .u8 101,.int .u8 116,.int .u8 105,.int .u8 109,.int .u8 101] 7 7 Tryz.underlying40 Tryz.underlying5;simp at hcv;obtain ⟨W1,hW1⟩:∃W1:World,W1=w.alloc (.cells #[.int .u8 111,.int .u8 110,.int .u8 101,.int .u8 116,.int .u8 105,.int .u8 109,.int .u8 101] 5 (7,8)):=⟨_,rfl⟩
 have HB1:Hid (Below w.heap.size w W1):=by show Below ..;rw [hW1];exact bl
 have HS1:Hid (Sl fB W1 W1.heap.size (some ⟨w.heap.size,0,none⟩) 7 [111,110,101,116,105,109,101]):=by
  show Sl ..
  rw [hW1];exact ⟨rfl,SL.of_block (t:=5) (fr:=(7,8)) (heap_alloc_new w _) sI⟩
 have HWE:Hid (W1=w.alloc (.cells #[.int .u8 111,.int .u8 110,.int .u8 101,.int .u8 116,.int .u8 105,.int .u8 109,.int .u8 101] 5 (7,8))):=hW1;have HN:Hid (∀W,Calls Tryz.prog 79 #[.int .u64 i] W fun e w'=>∃v,e= .returned v∧Own fB 5 w' W.heap.size v (enc i)∧Below W.heap.size W w'):=fun W=>yb2 i W om
 have hel:=ya1 i;obtain ⟨k,hk⟩:∃k,(enc i).length=k:=⟨_,rfl⟩
 have hk0:0 < k:=by rw [←hk];exact encPosF i
 have HK:=lh hk;have HK0:=lh hk0;have HK1:Hid (7+k≤1000000):=by show _≤_;omega
 have HTG:Hid (∀(W:World) A n c,Sl fB W W.heap.size A n ([111,110,101,116,105,109,101]++enc i)→Calls Tryz.prog 261 #[.string sd,.slice A n c] W fun e w'=>e= .returned (.string (sedF sd i))∧Below W.heap.size W w'):=fun W A n c h=>rtag_any sd om A n c W.heap.size _ W h nl (by rw [←h.1,List.length_append];show 7+_≤_;omega) (Byt.app (by intro b hb;simp at hb;omega) (ya7 i))
 obtain ⟨m,hm⟩:∃m,([111,110,101,116,105,109,101]++enc i).length=m:=⟨_,rfl⟩
 have HM:=lh hm;clear hm hel hi9 hW1 hs hk hk0;go_enter Tryz.func237,Tryz.ntmps237
 go_wp2_with fail
 rw [←HWE.out]
 go_wp2_with (first
  |(go_at_call 79;(with_reducible refine (HN.out _).mono ?_);rintro e w2 ⟨v,rfl,ho,hb2⟩;(have HB2:Hid (Below w.heap.size w w2):=HB1.out.trans (hb2.mono HB1.out.size));(have HS2:=lh (HS1.out.up hb2 nl));(obtain ⟨A5,c5,hv5,hc5,hs5,_⟩:=ho.shape);rw [HK.out] at hv5;subst hv5;(have HS5:Hid (Sl fB w2 w2.heap.size A5 k (enc i)):=⟨HK.out,hs5⟩);clear ho hb2 hc5 hs5)
  |(at_builtin;(with_reducible refine ycA (o:=⟨some 11,_,_,_,_,_⟩) rfl (.tmp 7) (.tmp 10) rfl (some ⟨w.heap.size,0,none⟩) A5 7 k c5 W1.heap.size w2.heap.size [111,110,101,116,105,109,101] (enc i) rfl HS2.out rfl HS5.out om HK0.out HK1.out ?_);intro v3 w3 HO3 HG3;(have HB3:Hid (Below w.heap.size w w3):=HB2.out.trans (HG3.out.mono HB2.out.size));(obtain ⟨A3,c3,hv3,hc3,hs3,_⟩:=HO3.out.shape);rw [HM.out] at hv3;subst hv3;(have HT:=lh (HTG.out w3 A3 m c3 ⟨HM.out,hs3⟩));clear hc3 hs3)
  |(go_at_call 261;(with_reducible refine HT.out.mono ?_);rintro e w4 ⟨rfl,hb4⟩;(have HB4:Hid (Below w.heap.size w w4):=HB3.out.trans (hb4.mono HB3.out.size));clear hb4))
 go_ret;exact ⟨rfl,HB4.out⟩
theorem bit2:BitN 2 2:= .inr (.inl ⟨rfl,rfl⟩)
theorem main2_any (w:World):Calls Tryz.prog 247 #[.agg (cPm 2)] w fun e w'=>e= .returned (.int .i64 128)∧Below w.heap.size w w':=yb0 2 2 bit2 w
theorem check2_any (w:World):Calls Tryz.prog 248 #[.agg (cPm 2)] w fun e w'=>e= .returned (.int .i64 5)∧Below w.heap.size w w':=rcheck_any 2 2 bit2 w
theorem own_nil {α:Type} {f:α→Value} (e:TypeId) (w:World) (base:Nat):Own f e w base (.slice none 0 0) ([]:List α):=⟨rfl,.inl ⟨rfl,rfl⟩⟩
theorem rstart_any (sd:ByteArray) (hs:sd.size=32) (w:World):Calls Tryz.prog 260 #[.agg (cPm 2),.string sd] w fun e w'=>∃v,e= .returned v∧Own fT 9 w' w.heap.size v (strF sd 133)∧Below w.heap.size w w':=by
 obtain ⟨i0,hi,hz0,hz1,hz2⟩:=info_parts Tryz.infoS;have HI:=lh hi;have HZ0:=lh hz0;have HZ1:=lh hz1;have HZ2:=lh hz2;obtain ⟨W1,hW1⟩:∃W1:World,W1=w.alloc (.cells (cPm 2) 233):=⟨_,rfl⟩
 have HB:Hid (Below w.heap.size w W1):=by show Below ..;rw [hW1];exact bl
 have hsz:W1.heap.size=w.heap.size+1:=by rw [hW1];simp
 have hge:W1.heap[w.heap.size]? =some (.cells (cPm 2) 233 (0,0)):=by rw [hW1];exact heap_alloc_new w _
 have HC:Hid (∀V,Below (w.heap.size+1) W1 V→V.cell? ⟨w.heap.size,0,none⟩=some (.int .i64 2)∧V.cell? ⟨w.heap.size,1,none⟩=some (.int .i64 32)):=fun V hv=>by
  have q:=(hv.block w.heap.size (Nat.lt_succ_self _)).trans hge;refine ⟨?_,?_⟩<;>(rw [cell_of_row V _ _ _ _ _ q];rfl)
 have HS:=lh hsz;have HWE:=lh hW1;have HB1:Hid (Below (w.heap.size+1) W1 W1):=Below.refl _ _;have HM:=lh (fun W=>main2_any W);have HK:=lh (fun W=>check2_any W);have HSE:Hid (∀(i:Nat) (W:World),i < 133→Calls Tryz.prog 270 #[.string sd,.int .i64 i] W fun e w'=>e= .returned (.string (secF sd i))∧Below W.heap.size W w'):=fun i W hi=>rsec_any sd hs i om W
 have HO0:Hid (Own fT 9 W1 (w.heap.size+1) (.slice none 0 0) (strF sd 0)):=own_nil 9 W1 _;clear hi hz0 hz1 hz2 hsz hge hW1 hs;go_enter Tryz.func260,Tryz.ntmps260
 go_upto_region 1 with fail
 rw [←HWE.out]
 go_wp2_with fail
 go_loopw [5,6] (fun v i wr=>∃k:Nat,k≤133∧i= .int .i64 k∧Hid (Own fT 9 wr (w.heap.size+1) v (strF sd k))∧Hid (Below (w.heap.size+1) W1 wr)) (fun _ i _=>133 - (intOf i).toNat)
 case atStart=>exact ⟨0,by omega,rfl,HO0,HB1⟩
 case round=>
  obtain ⟨k,hk,rfl,HO,HBr⟩:=hrel;clear HO0 HB1;obtain ⟨c0,c1⟩:=HC.out wr HBr.out;have HBc:Hid (Below wr.heap.size wr wr):=Below.refl _ _;have hw1:IntKind.i64.wrap 133=133:=IntWalk.i64_in _ om;have hw2:IntKind.i64.wrap (128+5)=133:=IntWalk.i64_in _ om;have hkn:¬(k:Int) < (k:Int):=by omega
  by_cases hlt:k < 133
  ·have hltI:(k:Int) < 133:=by omega
   have HSk:=lh (fun W=>HSE.out k W hlt);have HNX:Hid (strF sd (k+1)=strF sd k++[secF sd k]):=strF_succ sd k;have HL1:Hid (((strF sd k).length+1)*16≤140737488355328):=by show _≤_;rw [ybS];omega
   have HL2:Hid ((strF sd k).length+1≤maxLen):=by show _≤_;rw [ybS];unfold maxLen;omega
   clear hk
   go_wp2_with fail
   go_region_held3 (fun w'=>w'.cell? ⟨w.heap.size,0,none⟩=some (.int .i64 2)∧w'.cell? ⟨w.heap.size,1,none⟩=some (.int .i64 32)) (first |exact HC.out _ (HBr.out.trans (HBc.out.mono (HS.out▸HBr.out.size))) |go_keep) (first
    |(go_at_call 247;(with_reducible (refine (HM.out _).mono ?_));rintro e w4 ⟨rfl,hb4⟩;(have HBc:=lh (HBc.out.trans (Below.mono (Below.trans yaA hb4) HBc.out.size)));clear hb4)
    |(go_at_call 248;(with_reducible (refine (HK.out _).mono ?_));rintro e w4 ⟨rfl,hb4⟩;(have HBc:=lh (HBc.out.trans (Below.mono (Below.trans yaA hb4) HBc.out.size)));clear hb4))
   all_goals
    have HSz:Hid (w.heap.size+1≤wr.heap.size):=HS.out▸HBr.out.size;clear c0 c1
    go_wp2_with (first
     |(go_at_call 270;(with_reducible refine (HSk.out _).mono ?_);rintro e w6 ⟨rfl,hb6⟩;(have HB6:Hid (Below wr.heap.size wr w6):=HBc.out.trans (Below.mono (Below.trans yaA hb6) HBc.out.size));(have HO6:=lh (HO.out.on HB6.out));(have HS6:Hid (w.heap.size+1≤w6.heap.size):=Nat.le_trans HSz.out HB6.out.size);clear hb6)
     |(at_builtin;(with_reducible refine ya4 (o:=⟨some 21,_,_,_,_,_⟩) rfl (.tmp 16) (.tmp 20) 24 rfl 9 i0 (.string ⟨#[]⟩) 16 Tryz.underlying24 HI.out HZ0.out HZ1.out HZ2.out rfl _ (strF sd k) (w.heap.size+1) rfl HO6.out (secF sd k) 1 rfl fT1 HL1.out HL2.out HS6.out ?_);intro v7 w7 HO7 HG7 HV7;(have HB7:Hid (Below (w.heap.size+1) W1 w7):=(HBr.out.trans (HB6.out.mono HSz.out)).trans (yaY HG7.out (fun j hj=>(World.ownsRow.lt HO6.out j hj).1) HS6.out))))
    go_roundw
    case rel=>exact ⟨k+1,by omega,by go_num,by rw [HNX.out];exact HO7,HB7⟩
    case measure=>simp [intOf];omega
  ·obtain rfl:k=133:=by omega
   clear HSE
   go_wp2_with fail
   go_region_held3 (fun w'=>w'.cell? ⟨w.heap.size,0,none⟩=some (.int .i64 2)∧w'.cell? ⟨w.heap.size,1,none⟩=some (.int .i64 32)) (first |exact HC.out _ (HBr.out.trans (HBc.out.mono (HS.out▸HBr.out.size))) |go_keep) (first
    |(go_at_call 247;(with_reducible (refine (HM.out _).mono ?_));rintro e w4 ⟨rfl,hb4⟩;(have HBc:=lh (HBc.out.trans (Below.mono (Below.trans yaA hb4) HBc.out.size)));clear hb4)
    |(go_at_call 248;(with_reducible (refine (HK.out _).mono ?_));rintro e w4 ⟨rfl,hb4⟩;(have HBc:=lh (HBc.out.trans (Below.mono (Below.trans yaA hb4) HBc.out.size)));clear hb4))
   all_goals
    go_wp2_with fail
    go_ret;exact ⟨_,rfl,World.ownsRow.mono (HO.out.on yaE) (Nat.le_succ _),HB.out.trans ((HBr.out.trans (Below.mono yaE (HS.out▸HBr.out.size))).mono (Nat.le_succ _))⟩
theorem Tryz.infoIF:(Tryz.prog.info? 3).map (fun i=>(i.zero,i.size,i.bytes))=some (some (.int .i64 0),1,8):=by kernel_rfl
theorem step_makeI {w:World} {ops:Array Oper} {o:Oper} {a:Act} {K:Act→World→Prop} {Q:Exit→Act→World→Prop} {E:Prop} (hgd:o.guard=none) (l c:Operand) (ho:o.op= .makeSlice 27 l c) (n:Nat) (hl:a.eval l= .int .i64 n) (hc:a.eval c= .int .i64 n) (hn:n≤1000000) (base:Nat) (hb:base≤w.heap.size)
 (h:∀g w',Hid (Own I 3 w' base (.slice (some ⟨g,0,none⟩) n n) (List.replicate n 0))→Hid (Below w.heap.size w w')→K (a.put o.dst (.slice (some ⟨g,0,none⟩) n n)) w'):if Region.wanted o (yielded ops a.tmps)=true then Oper.wp Tryz.prog o a w K Q else E:=by
 have hw:Region.wanted o (yielded ops a.tmps)=true:=by simp [Region.wanted,hgd]
 rw [if_pos hw];obtain ⟨i0,hi,hz0,hz1,hz2⟩:=info_parts Tryz.infoIF;obtain ⟨w',hrun,r1,r2⟩:=run_make_full (P:=Tryz.prog) w base 27 3 i0 (.int .i64 0) 1 Tryz.underlying27 hi hz0 hz1 .i64 .i64 n (by rw [hz2];omega) yaS hb;unfold Oper.wp;simp [execOp,ho,hl,hc,hrun,Result.andThen];refine h _ w' ?_ (yaY r2 (fun k hk=>by cases hk) nl)
 have e1:(madeCells (Value.int .i64 0).cells (n*1)).toList=(List.replicate n (0:Int)).map I:=by
  rw [Nat.mul_one];apply List.ext_getElem?;intro j;simp [madeCells,Value.cells,List.getElem?_replicate]
  split<;>simp_all [Nat.mod_one]
 rw [e1] at r1
 show w'.ownsRow _ _ _ _ _ _
 rw [List.length_replicate];exact r1
theorem rpub12_any (sd:ByteArray) (hs:sd.size=32) (w:World):Calls Tryz.prog 239 #[.agg (cPm 2),.string sd] w fun e w'=>e= .returned (.string (pubF 2 (List.replicate 133 0) (strF sd 133)))∧Below w.heap.size w w':=by
 obtain ⟨W1,hW1⟩:∃W1:World,W1=w.alloc (.cells (cPm 2) 233):=⟨_,rfl⟩
 have HB:Hid (Below w.heap.size w W1):=by show Below ..;rw [hW1];exact bl
 have hsz:W1.heap.size=w.heap.size+1:=by rw [hW1];simp
 have hge:W1.heap[w.heap.size]? =some (.cells (cPm 2) 233 (0,0)):=by rw [hW1];exact heap_alloc_new w _
 have HC:Hid (∀V,Below (w.heap.size+1) W1 V→V.cell? ⟨w.heap.size,0,none⟩=some (.int .i64 2)∧V.cell? ⟨w.heap.size,1,none⟩=some (.int .i64 32)):=fun V hv=>by
  have q:=(hv.block w.heap.size (Nat.lt_succ_self _)).trans hge;refine ⟨?_,?_⟩<;>(rw [cell_of_row V _ _ _ _ _ q];rfl)
 have HS:=lh hsz;have HWE:=lh hW1;have HB1:Hid (Below (w.heap.size+1) W1 W1):=Below.refl _ _;have HST:=lh (fun W=>rstart_any sd hs W);have hssz:∀s∈strF sd 133,s.size=32:=strF_size
 have hesz:=ydi 2 (List.replicate 133 0) (strF sd 133) hssz 133 (by rw [ybS];omega);have hln:=jnL_len32 _ hesz;rw [ycs] at hln;have HE:Hid (∀(W:World) v Ad cd,Own I 3 W W.heap.size (.slice Ad 133 cd) (List.replicate 133 0)→Own fT 9 W W.heap.size v (strF sd 133)→False→True):=fun _ _ _ _ _ _ _=>trivial
 have HEN:Hid (∀(W:World) Ad cd Ap cp,Sl I W W.heap.size Ad 133 (List.replicate 133 0)→Sl fT W W.heap.size Ap 133 (strF sd 133)→Calls Tryz.prog 207 #[.agg (cPm 2),.slice Ad 133 cd,.slice Ap 133 cp] W fun e w'=>e= .returned (.string (baOf (pbL++jnL (endsF 2 (List.replicate 133 0) (strF sd 133) 133))))∧Below W.heap.size W w'):=fun W Ad cd Ap cp h1 h2=>rends_any 2 2 bit2 Ad Ap 133 133 cd cp W.heap.size _ _ W h1 h2 nl rfl om (fun d hd=>by rw [(List.mem_replicate.1 hd).2];decide) hssz
 have hbyt:Byt (pbL++jnL (endsF 2 (List.replicate 133 0) (strF sd 133) 133)):=Byt.app (by intro b hb;simp at hb;omega) (ycp _);have HV:Hid (pubF 2 (List.replicate 133 0) (strF sd 133)=baOf (shaB (pbL++jnL (endsF 2 (List.replicate 133 0) (strF sd 133) 133)))):=by show _=_;unfold pubF;rw [pbL_eq,ybS]
 have hzl:(pbL++jnL (endsF 2 (List.replicate 133 0) (strF sd 133) 133)).length≤10000:=by rw [List.length_append,hln];show 6+_≤_;omega
 rw [HV.out];obtain ⟨zs,hzs⟩:∃zs,pbL++jnL (endsF 2 (List.replicate 133 0) (strF sd 133) 133)=zs:=⟨_,rfl⟩
 rw [hzs] at HEN hbyt hzl ⊢;have HSB:Hid (sB (baOf zs)=zs):=ybi hbyt;have HZS:Hid ((baOf zs).size≤10000):=by show _≤_;rw [yc2 hbyt];exact hzl
 obtain ⟨zt,hzt⟩:∃zt,baOf zs=zt:=⟨_,rfl⟩
 rw [hzt] at HEN HSB HZS;obtain ⟨rs,hrs⟩:∃r,baOf (shaB zs)=r:=⟨_,rfl⟩
 have HSU:Hid (∀(W:World) A' c',Sl fB W W.heap.size A' zt.size (sB zt)→Calls Tryz.prog 123 #[.slice A' zt.size c'] W fun e w'=>e= .returned (.string rs)∧Below W.heap.size W w'):=fun W A' c' h=>hrs▸ycg A' _ c' W.heap.size zs W (HSB.out▸h) nl (Nat.le_trans HZS.out om) hbyt
 rw [hrs];obtain ⟨ss,hss⟩:∃ss,strF sd 133=ss:=⟨_,rfl⟩
 have hsl:ss.length=133:=by rw [←hss,ybS]
 have HSL:=lh hsl;rw [hss] at HST HEN;clear hge hsz hW1 hesz hln hbyt hzl hzs hzt hrs hs hssz HE HV hss hsl;go_enter Tryz.func239,Tryz.ntmps239
 go_upto_region 1 with fail
 rw [←HWE.out];obtain ⟨c0,c1⟩:=HC.out W1 HB1.out
 go_upto_region 2 with (go_at_call 260;(with_reducible refine (HST.out _).mono ?_);rintro e w3 ⟨v,rfl,ho,hb3⟩;(have HBx:Hid (Below (w.heap.size+1) W1 w3):=hb3.mono (Nat.le_of_eq HS.out.symm));(obtain ⟨Ap,cp,hv,_,hps,_⟩:=ho.shape);rw [HSL.out] at hv;subst hv;(have HPS:Hid (Sl fT w3 w3.heap.size Ap 133 ss):=⟨HSL.out,hps⟩);clear ho hb3 hps)
 clear c0 c1;refine wp_region_held_drew (S:=(fun w'=>w'.cell? ⟨w.heap.size,0,none⟩=some (.int .i64 2)∧w'.cell? ⟨w.heap.size,1,none⟩=some (.int .i64 32))) yaV (by exact HC.out _ HBx.out.drew) (fun hHeld=>?_);refine tkY 0 ?_;refine tkY 1 ?_;refine tkY 2 ?_;refine tkY 4 ?_;refine rd1 3 (fun K hK=>?_)
 ((refine step_makeI rfl (.tmp 11) (.tmp 11) rfl 133 rfl rfl om w3.heap.size (by exact Nat.le_refl _) ?_);intro g5 w5 HO5 HB5;(have HBy:Hid (Below w3.heap.size w3 w5):=(Below.refl _ w3).drew.trans HB5.out);(have HPS5:=lh ((HPS.out.up HBy.out nl).more' HBy.out.size));(have HBz:Hid (Below (w.heap.size+1) W1 w5):=HBx.out.trans (HBy.out.mono (HS.out▸HBx.out.size)));(have HEN5:=lh (HEN.out w5 _ 133 Ap cp HO5.out.slH HPS5.out)))
 refine hK.out _ _ (by exact HC.out _ HBz.out) (fun hHeldz5=>?_);clear hK K hHeld
 try simp only [pt]
 refine rd1 5 (fun K hK=>?_)
 (go_simp;go_at_call 207;(with_reducible refine HEN5.out.mono ?_);rintro e w6 ⟨rfl,hb6⟩;(have HB6:Hid (Below (w.heap.size+1) W1 w6):=HBz.out.trans (hb6.mono (HS.out▸HBz.out.size)));clear hb6;go_wp2_with fail)
 refine hK.out _ _ (by exact HC.out _ HB6.out) (fun hHeldz6=>?_);clear hK K hHeldz5
 try simp only [pt]
 refine rd1 6 (fun K hK=>?_)
 ((refine step_conv_sb (.tmp 14) rfl rfl zt rfl ?_);intro cb W7 hsl hcb hbl;(have HB7:Hid (Below (w.heap.size+1) W1 W7):=HB6.out.trans (Below.mono hbl.out (HS.out▸HB6.out.size)));(have HC7:=lh (HSU.out W7 _ cb hsl.out));clear hsl hcb hbl)
 refine hK.out _ _ (by exact HC.out _ HB7.out) (fun hHeldz7=>?_);clear hK K hHeldz6
 try simp only [pt]
 refine rd1 7 (fun K hK=>?_)
 (go_simp;go_at_call 123;(with_reducible refine HC7.out.mono ?_);rintro e w8 ⟨rfl,hb8⟩;(have HB8:Hid (Below (w.heap.size+1) W1 w8):=HB7.out.trans (Below.mono hb8 (HS.out▸HB7.out.size)));clear hb8;go_wp2_with fail)
 refine hK.out _ _ (by exact HC.out _ HB8.out) (fun hHeldz8=>?_);clear hK K hHeldz7
 try simp only [pt]
 refine tkY 8 ?_;refine wpAnyH_done yaV ?_ _
 go_wp2_with fail
 go_ret;exact ⟨rfl,HB.out.trans (HB8.out.mono (Nat.le_succ _))⟩
theorem dg2_len (xs:List Int):(dgF 2 xs).length=133:=dgF_len 2 xs
theorem rsgn12_any (sd dg:ByteArray) (hs:sd.size=32) (hd:dg.size=32) (w:World):Calls Tryz.prog 236 #[.agg (cPm 2),.string sd,.string dg] w fun e w'=>∃v,e= .returned v∧Own fT 9 w' w.heap.size v (sgnF (dgF 2 (sB dg)) (strF sd 133) 133)∧Below w.heap.size w w':=by
 obtain ⟨i0,hi,hz0,hz1,hz2⟩:=info_parts Tryz.infoS;have HI:=lh hi;have HZ0:=lh hz0;have HZ1:=lh hz1;have HZ2:=lh hz2;obtain ⟨W1,hW1⟩:∃W1:World,W1=w.alloc (.cells (cPm 2) 233):=⟨_,rfl⟩
 have HB:Hid (Below w.heap.size w W1):=by show Below ..;rw [hW1];exact bl
 have hsz:W1.heap.size=w.heap.size+1:=by rw [hW1];simp
 have hge:W1.heap[w.heap.size]? =some (.cells (cPm 2) 233 (0,0)):=by rw [hW1];exact heap_alloc_new w _
 have HC:Hid (∀V,Below (w.heap.size+1) W1 V→V.cell? ⟨w.heap.size,0,none⟩=some (.int .i64 2)∧V.cell? ⟨w.heap.size,1,none⟩=some (.int .i64 32)):=fun V hv=>by
  have q:=(hv.block w.heap.size (Nat.lt_succ_self _)).trans hge;refine ⟨?_,?_⟩<;>(rw [cell_of_row V _ _ _ _ _ q];rfl)
 have HS:=lh hsz;have HWE:=lh hW1;have HB1:Hid (Below (w.heap.size+1) W1 W1):=Below.refl _ _;have HST:=lh (fun W=>rstart_any sd hs W);have HDG:=lh (fun W=>rdigits_any 2 2 bit2 dg hd W);have hssz:∀s∈strF sd 133,s.size=32:=strF_size
 have hdr:=dgF_rng 2 (sB dg);have hdl:=dg2_len (sB dg);obtain ⟨ds,hds⟩:∃ds,dgF 2 (sB dg)=ds:=⟨_,rfl⟩
 obtain ⟨ss,hss⟩:∃ss,strF sd 133=ss:=⟨_,rfl⟩
 have hsl:ss.length=133:=by rw [←hss,ybS]
 rw [hds] at HDG hdr hdl ⊢;rw [hss] at HST hssz ⊢;have HDR:=lh hdr;have HDL:=lh hdl;have HSSZ:=lh hssz;have HSL:=lh hsl;have HO0:Hid (∀V:World,Own fT 9 V V.heap.size (.slice none 0 0) (sgnF ds ss 0)):=fun V=>own_nil 9 V _
 clear hi hz0 hz1 hz2 hge hsz hW1 hs hd hds hss hdr hdl hssz hsl;go_enter Tryz.func236,Tryz.ntmps236
 go_upto_region 1 with fail
 rw [←HWE.out];obtain ⟨c0,c1⟩:=HC.out W1 HB1.out
 go_wp2_with (first
  |(go_at_call 208;(with_reducible refine (HDG.out _).mono ?_);rintro e w3 ⟨v,rfl,ho,hb3⟩;(have HB3:Hid (Below (w.heap.size+1) W1 w3):=hb3.mono (Nat.le_of_eq HS.out.symm));clear c0 c1;(obtain ⟨c0,c1⟩:=HC.out w3 HB3.out);(obtain ⟨Ad,cd,hv,_,hps,_⟩:=ho.shape);rw [HDL.out] at hv;subst hv;(have HD3:Hid (Sl I w3 w3.heap.size Ad 133 ds):=⟨HDL.out,hps⟩);clear ho hb3 hps)
  |(go_at_call 260;(with_reducible refine (HST.out _).mono ?_);rintro e w4 ⟨v,rfl,ho,hb4⟩;(have HB4:Hid (Below (w.heap.size+1) W1 w4):=HB3.out.trans (hb4.mono (HS.out▸HB3.out.size)));(have HD4:=lh (HD3.out.up hb4 nl));(have HSQ:Hid (w3.heap.size≤w4.heap.size):=hb4.size);(have HB34:=lh hb4);(obtain ⟨Ap,cp,hv,_,hps,_⟩:=ho.shape);rw [HSL.out] at hv;subst hv;(have HPS:Hid (Sl fT w4 w4.heap.size Ap 133 ss):=⟨HSL.out,hps⟩);clear ho hb4 hps))
 have HO4:=lh (HO0.out w4);have HB44:Hid (Below w4.heap.size w4 w4):=Below.refl _ _;clear c0 c1
 go_loopw [8,18] (fun v i wr=>∃k:Nat,k≤133∧i= .int .i64 k∧Hid (Own fT 9 wr w4.heap.size v (sgnF ds ss k))∧Hid (Below w4.heap.size w4 wr)) (fun _ i _=>133 - (intOf i).toNat)
 case atStart=>exact ⟨0,by omega,rfl,HO4,Below.refl _ _⟩
 case round=>
  obtain ⟨k,hk,rfl,HO,HBr⟩:=hrel;clear HO4 HB44
  by_cases hlt:k < 133
  ·have hltI:(k:Int) < 133:=by omega
   have HSz:Hid (w4.heap.size≤wr.heap.size):=HBr.out.size;obtain ⟨bd,od,d,rfl,hbd,hgd,hcd⟩:=(HD4.out.2.up HBr.out HSQ.out).at_ (k:=k) (by rw [HDL.out];exact hlt);obtain ⟨bs,os,x,rfl,hbs,hgs,hcs⟩:=(HPS.out.2.up HBr.out nl).at_ (k:=k) (by rw [HSL.out];exact hlt);have hdk:=HDR.out d (List.mem_of_getElem? hgd);obtain ⟨t,rfl⟩:∃t:Nat,d=(t:Int):=⟨d.toNat,by omega⟩
   have hx32:=HSSZ.out x (List.mem_of_getElem? hgs)
   have HCH:Hid (∀W:World,Calls Tryz.prog 249 #[.int .i64 k,.int .i64 0,.int .i64 t,.string x] W fun e w'=>e= .returned (.string (chF k 0 t x))∧Below W.heap.size W w'):=fun W=>by
    have h1:=rchain_any k 0 t om (Nat.zero_le _) (by have:=hdk.2;omega) x hx32 W
    rwa [Nat.sub_zero] at h1
   have HNX:Hid (sgnF ds ss (k+1)=sgnF ds ss k++[chF k 0 t x]):=by
    show _=_
    rw [sgnF_succ,ybg hgd,ybg hgs,Int.toNat_natCast]
   have HL1:Hid (((sgnF ds ss k).length+1)*16≤140737488355328):=by show _≤_;rw [ydO];omega
   have HL2:Hid ((sgnF ds ss k).length+1≤maxLen):=by show _≤_;rw [ydO];unfold maxLen;omega
   clear hgd hgs hdk hx32 hbd hbs
   go_wp2_with (first
    |(go_at_call 249;(with_reducible refine (HCH.out _).mono ?_);rintro e w6 ⟨rfl,hb6⟩;(have HB6:Hid (Below wr.heap.size wr w6):=hb6);(have HO6:=lh (HO.out.on hb6));(have HS6:Hid (w4.heap.size≤w6.heap.size):=Nat.le_trans HSz.out hb6.size);clear hb6)
    |(at_builtin;(with_reducible refine ya4 (o:=⟨some 32,_,_,_,_,_⟩) rfl (.tmp 23) (.tmp 31) 24 rfl 9 i0 (.string ⟨#[]⟩) 16 Tryz.underlying24 HI.out HZ0.out HZ1.out HZ2.out rfl _ (sgnF ds ss k) w4.heap.size rfl HO6.out (chF k 0 t x) 1 rfl fT1 HL1.out HL2.out HS6.out ?_);intro v7 w7 HO7 HG7 HV7;(have HB7:Hid (Below w4.heap.size w4 w7):=(HBr.out.trans (HB6.out.mono HSz.out)).trans (yaY HG7.out (fun j hj=>(World.ownsRow.lt HO6.out j hj).1) HS6.out))))
   go_roundw
   case rel=>exact ⟨k+1,by omega,by go_num,by rw [HNX.out];exact HO7,HB7⟩
   case measure=>simp [intOf];omega
  ·obtain rfl:k=133:=by omega
   go_wp2_with fail
   go_ret;have hsz4:w.heap.size≤w4.heap.size:=Nat.le_trans HB.out.size (Nat.le_trans HB3.out.size (Nat.le_trans nl HB34.out.size));exact ⟨_,rfl,World.ownsRow.mono HO.out hsz4,HB.out.trans ((HB4.out.mono (Nat.le_succ _)).trans (HBr.out.mono hsz4))⟩
