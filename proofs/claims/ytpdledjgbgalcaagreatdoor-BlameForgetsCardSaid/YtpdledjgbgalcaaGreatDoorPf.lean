/- One-time signatures: a chain. The reference's chains. -/
import Derived.Test.YtpdledjgbgalcaaGreatDoorN5
import Derived.Lib.SlBytesConst
import Derived.Test.YtpdledjgbgalcaaGreatDoorMr
namespace Go.Proofs.YtpdledjgbgalcaaGreatDoor
set_option maxRecDepth 100000
set_option maxHeartbeats 8000000
open Go.RowKit Go.Lib
set_option linter.unusedVariables false
set_option linter.unusedSimpArgs false
abbrev chL:List Int:=[99,104,97,105,110]
theorem chL_eq:sB "chain".toUTF8=chL:=by decide+kernel
theorem ovc_any (i:Nat) (hi:i≤999) (w:World):Calls Tryz.prog 265 #[.int .i64 i] w fun e w'=>e= .returned (.bool true)∧w=w':=by
 have h1:(i:Int)≤999:=by omega
 have h0:(0:Int)≤i:=by omega
 go_enter Tryz.func265,Tryz.ntmps265;go_wp2;go_ret;exact ⟨rfl,rfl⟩
theorem ois_any (x:ByteArray) (hx:x.size=32) (w:World):Calls Tryz.prog 266 #[.string x] w fun e w'=>e= .returned (.bool true)∧w=w':=by
 have h1:((x.size:Int)==32)=true:=by simp [hx]
 go_enter Tryz.func266,Tryz.ntmps266;go_wp2;go_ret;exact ⟨rfl,rfl⟩
theorem enc_len10 (n:Nat) (h:n < 18446744073709551616):(enc n).length≤10:=ya1 n
theorem own_hA {w:World} {B n:Nat} {A:Option Addr} {xs:List Int} (h:Sl fB w B A n xs) (h0:0 < n):∀a,A=some a→a.block < B:=fun a ha=>by
 obtain ⟨b,off,e,hlt⟩:=h.at0 h0;rw [ha] at e
 cases e
 exact hlt
theorem chain_any (i f t:Nat) (hi:i≤999) (hf:f≤t) (ht:t≤255) (x:ByteArray) (hx:x.size=32) (w:World) (hG:Glob w):
 Calls Tryz.prog 244 #[.int .i64 i,.int .i64 f,.int .i64 t,.string x] w fun e w'=>e= .returned (.tuple #[.string (chF i f (t - f) x),.int .i64 0])∧Below w.heap.size w w':=by
 obtain ⟨i0,hi0,hz0,hz1,hz2⟩:=info_parts Tryz.infoB;have HI:=lh hi0;have HZ0:=lh hz0;have HZ1:=lh hz1;have HZ2:=lh hz2;have HG:=lh hG;have HV:=lh (fun W=>ovc_any i hi W);have HIS:=lh (fun W=>ois_any x hx W);have HSZ:Hid (∀k,(chF i f k x).size=32):=ycZ i f x hx;have HEL:=lh (enc_len10 i om);have h1:¬(f:Int) < 0:=by omega
 have h2:¬(t:Int) < (f:Int):=by omega
 have h3:¬(255:Int) < (t:Int):=by omega
 have hwi:IntKind.u64.wrap (i:Int)=i:=by unfold IntKind.wrap;simp [IntKind.bits,IntKind.signed];omega
 have kc:Hid (∀W:World,Sl fB (W.alloc (.cells #[.int .u8 99,.int .u8 104,.int .u8 97,.int .u8 105,.int .u8 110] 5 (5,6))) (W.alloc (.cells #[.int .u8 99,.int .u8 104,.int .u8 97,.int .u8 105,.int .u8 110] 5 (5,6))).heap.size (some ⟨W.heap.size,0,none⟩) 5 chL):=fun W=>⟨rfl,SL.of_block (t:=5) (fr:=(5,6)) (heap_alloc_new W _) sI⟩
 have HAP:Hid (∀W:World,Calls Tryz.prog 70 #[.slice (some ⟨W.heap.size,0,none⟩) 5 5,.int .u64 i] (W.alloc (.cells #[.int .u8 99,.int .u8 104,.int .u8 97,.int .u8 105,.int .u8 110] 5 (5,6))) fun e w'=>∃v,e= .returned v∧Own fB 5 w' (W.alloc (.cells #[.int .u8 99,.int .u8 104,.int .u8 97,.int .u8 105,.int .u8 110] 5 (5,6))).heap.size v (chL++enc i)∧Below (W.alloc (.cells #[.int .u8 99,.int .u8 104,.int .u8 97,.int .u8 105,.int .u8 110] 5 (5,6))).heap.size (W.alloc (.cells #[.int .u8 99,.int .u8 104,.int .u8 97,.int .u8 105,.int .u8 110] 5 (5,6))) w'):=fun W=>apG_any _ 5 5 _ chL i _ (kc.out W) nl om om
 have HB0:Hid (Below w.heap.size w (w.alloc (.cells #[.int .u8 99,.int .u8 104,.int .u8 97,.int .u8 105,.int .u8 110] 5 (5,6)))):=bl;have kcv:=fun (w:World) (C:Array Value) (n c:Nat)=>Lib.run_convert_bytes_const (P:=Tryz.prog) w 40 5 C n c Tryz.underlying40 Tryz.underlying5
 clear hi0 hz0 hz1 hz2 hG hi hx;go_enter Tryz.func244,Tryz.ntmps244
 go_upto_region 5 with (first
  |(go_at_call 265;(with_reducible refine (HV.out _).mono ?_);rintro e w1 ⟨rfl,rfl⟩)
  |(go_at_call 266;(with_reducible refine (HIS.out _).mono ?_);rintro e w1 ⟨rfl,rfl⟩)
  |(go_at_call 70;(with_reducible refine (HAP.out _).mono ?_);rintro e w2 ⟨v1,rfl,ho,hb2⟩;(have HO:=lh ho);(have HB2:Hid (Below w.heap.size w w2):=HB0.out.trans (hb2.mono HB0.out.size));clear ho hb2))
 obtain ⟨A1,c1,hv1,hc1,hs1,_⟩:=HO.out.shape;obtain ⟨m1,hm1⟩:∃m,(chL++enc i).length=m:=⟨_,rfl⟩
 have HS1:Hid (Sl fB w2 w2.heap.size A1 m1 (chL++enc i)):=⟨hm1,hs1⟩;have hm15:m1≤15:=by rw [←hm1,List.length_append];have:=HEL.out;show 5+_≤15;omega
 rw [hm1] at hv1 hc1;subst hv1;clear hs1 kcv HO kc HAP HV HIS;have HR0:Hid (chF i f 0 x=x):=rfl;have HBW:Hid (Below w2.heap.size w2 w2):=Below.refl _ _
 go_loopw [3,11] (fun v s wr=>∃(k:Nat) (y:ByteArray),k≤t - f∧s= .int .i64 ((f+k:Nat):Int)∧v= .string y∧Hid (chF i f k x=y)∧Hid (Below w2.heap.size w2 wr)) (fun _ s _=>t - (intOf s).toNat)
 case atStart=>exact ⟨0,x,by omega,rfl,rfl,HR0,HBW⟩
 case round=>
  obtain ⟨k,y,hk,rfl,rfl,HY,HBr⟩:=hrel;have hy32:y.size=32:=by rw [←HY.out];exact HSZ.out k
  have HY32:=lh hy32;clear hy32
  by_cases hlt:k < t - f
  ·obtain ⟨q,hq⟩:∃q,f+k=q:=⟨_,rfl⟩
   have HQ:=lh hq;have hqt:q < t:=by omega
   have hqtI:(q:Int) < (t:Int):=by omega
   have hwq:IntKind.u64.wrap (q:Int)=q:=by unfold IntKind.wrap;simp [IntKind.bits,IntKind.signed];omega
   rw [hq];have HEQ:=lh (enc_len10 q om);have HAP:Hid (Calls Tryz.prog 70 #[.slice A1 m1 c1,.int .u64 q] wr fun e w'=>∃v,e= .returned v∧Own fB 5 w' wr.heap.size v ((chL++enc i)++enc q)∧Below wr.heap.size wr w'):=apG_any A1 m1 c1 w2.heap.size _ q wr (HS1.out.up HBr.out nl) HBr.out.size om om;have HLEN:Hid (((chL++enc i)++enc q).length+y.size≤60):=by show _≤_;rw [List.length_append,HS1.out.1,HY32.out];have:=HEQ.out;omega
   have HK1:Hid (((chL++enc i)++enc q).length+y.size≤140737488355328):=Nat.le_trans HLEN.out om
   have HBY:Hid (Byt (((chL++enc i)++enc q)++sB y)):=fun z hz=>by
    rcases List.mem_append.1 hz with hz |hz
    ·rcases List.mem_append.1 hz with hz |hz
     ·rcases List.mem_append.1 hz with hz |hz
      ·(rcases List.mem_cons.1 hz with rfl |hz; ·omega);(rcases List.mem_cons.1 hz with rfl |hz; ·omega);(rcases List.mem_cons.1 hz with rfl |hz; ·omega);(rcases List.mem_cons.1 hz with rfl |hz; ·omega);(rcases List.mem_cons.1 hz with rfl |hz; ·omega);cases hz
      ·exact ya7 _ z hz
     ·exact ya7 _ z hz
    ·exact ybr y z hz
   have HNX:Hid (chF i f (k+1) x=baOf (shaB (((chL++enc i)++enc q)++sB y))):=by
    show _=_
    rw [chF,HY.out,chL_eq,HQ.out]
   clear hq
   go_wp2_with (first
    |(go_at_call 70;(with_reducible refine HAP.out.mono ?_);rintro e w3 ⟨v3,rfl,ho,hb3⟩;(have HO3:=lh ho);(have HB3:Hid (Below w2.heap.size w2 w3):=HBr.out.trans (hb3.mono HBr.out.size));(have HZ3:Hid (wr.heap.size≤w3.heap.size):=hb3.size);(have HB3r:Hid (Below wr.heap.size wr w3):=hb3);clear ho hb3)
    |(at_builtin;(refine ybK (o:=⟨some 49,_,_,_,_,_⟩) rfl (.tmp 47) (.tmp 48) 40 9 rfl 5 i0 Tryz.underlying40 Tryz.underlying9 HI.out HZ0.out HZ1.out HZ2.out v3 ((chL++enc i)++enc q) wr.heap.size (by rfl) HO3.out y (by rfl) HK1.out HZ3.out ?_);intro v4 w4 HO4 HG4 HV4;(obtain ⟨A4,c4,hv4,hc4,hs4,_⟩:=HO4.out.shape);(obtain ⟨n4,hn4⟩:∃n4,(((chL++enc i)++enc q)++sB y).length=n4:=⟨_,rfl⟩);(have HN4:=lh hn4);(rw [hn4] at hv4 hc4);subst hv4;(have HB4:Hid (Below w2.heap.size w2 w4):=HB3.out.trans (yaY HG4.out (fun j hj=>Nat.le_trans HBr.out.size (World.ownsRow.lt HO3.out j hj).1) HB3.out.size));(have HS4:Hid (Sl fB w4 w4.heap.size A4 n4 (((chL++enc i)++enc q)++sB y)):=⟨hn4,hs4⟩);(have HC4:=lh hc4);clear hs4 hc4 hn4;(have HSU:Hid (Calls Tryz.prog 154 #[.slice A4 n4 c4] w4 fun e w'=>e= .returned (.string (baOf (shaB (((chL++enc i)++enc q)++sB y))))∧Below w4.heap.size w4 w'):=ssum_any A4 _ c4 w4.heap.size _ w4 (HG.out.on (HB2.out.trans (HB4.out.mono HB2.out.size))) HS4.out HC4.out nl (by have:=HLEN.out;rw [←HN4.out,List.length_append,ya9];omega) (HBY.out) (own_hA HS4.out (by rw [←HN4.out,List.length_append,ya9,HY32.out];omega)));(rw [←HNX.out] at HSU))
    |(go_at_call 154;(with_reducible refine HSU.out.mono ?_);rintro e w5 ⟨rfl,hb5⟩;(have HB5:Hid (Below w2.heap.size w2 w5):=HB4.out.trans (hb5.mono HB4.out.size));clear hb5))
   refine ⟨?rel,?measure⟩
   case rel=>exact ⟨k+1,_,by omega,(by (have:=HQ.out;refine congrArg (Value.int .i64) ?_;omega)),rfl,rfl,HB5⟩
   case measure=>(have:=HQ.out;simp [intOf]<;>omega)
  ·obtain rfl:k=t - f:=by omega
   have hge:¬((f+(t - f):Nat):Int) < (t:Int):=by omega
   go_wp2;go_ret2;exact ⟨by rw [HY.out];rfl,HB2.out.trans (HBr.out.mono HB2.out.size)⟩
theorem ycj {w:World} {B:Nat} {A:Option Addr} {n c:Nat} {xs:List Int} (h:Sl fB w B A n xs):(convert 40 9 (.slice A n c)).run Tryz.prog w= .ok (.string (baOf xs)) w:=
 ybG (P:=Tryz.prog) 40 5 9 Tryz.underlying40 Tryz.underlying5 Tryz.underlying9 w B A n c xs h
theorem yc2 {xs:List Int} (h:∀b∈xs,0≤b∧b < 256):(baOf xs).size=xs.length:=by rw [←ya9,ybi h]
def NumS (n:Nat) (w:World) (e:Ending) (w':World):Prop:=
 ∃A m c,e= .returned (.slice A m c)∧Hid (∀V,Below w'.heap.size w' V→(convert 40 9 (.slice A m c)).run Tryz.prog V= .ok (.string (baOf (enc n))) V)∧Below w.heap.size w w'
theorem numS_any (n:Nat) (w:World) (hn:n < 18446744073709551616):Calls Tryz.prog 79 #[.int .u64 n] w (NumS n w):=(yb2 n w hn).mono fun e w' ⟨v,he,ho,hb⟩=>by
 obtain ⟨A,c,hv,_,hs,_⟩:=ho.shape;exact ⟨A,_,c,by rw [he,hv],fun V hV=>ycj (B:=w'.heap.size) (Sl.up ⟨rfl,hs⟩ hV nl),hb⟩
theorem rinput_any (i q:Nat) (hi:i < 1000) (hq:q < 1000) (x:ByteArray) (hx:x.size=32) (w:World):
 Calls Tryz.prog 268 #[.int .i64 i,.int .i64 q,.string x] w fun e w'=>e= .returned (.string (baOf (((chL++enc i)++enc q)++sB x)))∧Below w.heap.size w w':=by
 have hwi:IntKind.u64.wrap (i:Int)=i:=by unfold IntKind.wrap;simp [IntKind.bits,IntKind.signed];omega
 have hwq:IntKind.u64.wrap (q:Int)=q:=by unfold IntKind.wrap;simp [IntKind.bits,IntKind.signed];omega
 have HN:=lh (fun n (hn:n < 1000) W=>numS_any n W om);have HI:=lh hi;have HQ:=lh hq;obtain ⟨si,hsi⟩:∃s,baOf (enc i)=s:=⟨_,rfl⟩
 obtain ⟨sq,hsq⟩:∃s,baOf (enc q)=s:=⟨_,rfl⟩
 have hsi10:si.size≤10:=by rw [←hsi,yc2 (ya7 i)];exact ya1 i
 have hsq10:sq.size≤10:=by rw [←hsq,yc2 (ya7 q)];exact ya1 q
 have HV:Hid (baOf (((chL++enc i)++enc q)++sB x)=(⟨#[99,104,97,105,110]⟩:ByteArray)++si++sq++x):=by
  show _=_
  apply ba_eqU;rw [sB_app,sB_app,sB_app,←hsi,←hsq,ybi (ya7 i),ybi (ya7 q),ybi]
  ·rfl
  ·intro z hz
   rcases List.mem_append.1 hz with hz |hz
   ·rcases List.mem_append.1 hz with hz |hz
    ·rcases List.mem_append.1 hz with hz |hz
     ·(rcases List.mem_cons.1 hz with rfl |hz; ·omega);(rcases List.mem_cons.1 hz with rfl |hz; ·omega);(rcases List.mem_cons.1 hz with rfl |hz; ·omega);(rcases List.mem_cons.1 hz with rfl |hz; ·omega);(rcases List.mem_cons.1 hz with rfl |hz; ·omega);cases hz
     ·exact ya7 _ z hz
    ·exact ya7 _ z hz
   ·exact ybr x z hz
 have HSI:=lh hsi;have HSQ:=lh hsq;have HB:Hid (Below w.heap.size w w):=Below.refl _ _;rw [HV.out];have l1:¬9223372036854775807 < 5+si.size:=by omega
 have l2:¬9223372036854775807 < 5+si.size+sq.size:=by omega
 have l3:¬9223372036854775807 < 5+si.size+sq.size+x.size:=by omega
 clear hsi hsq HV hi hq hx;go_enter Tryz.func268,Tryz.ntmps268
 go_wp2_with fail
 go_region_law (first
  |(go_simp;go_at_call 79;((with_reducible refine (HN.out i HI.out _).mono ?_));rintro e w6 ⟨A6,m6,c6,rfl,HA6,b6⟩;(have hb6:Below w.heap.size w w6:=Below.trans (B:=w.heap.size) (by repeat (first |exact HB.out |refine Below.drew ?_ |refine below_dN' ?_ _)) (b6.mono yaK));(try (have HA7:=lh (fun (V:World) (hV:Below w6.heap.size w6 V)=>HA7.out V (Below.trans (B:=w7.heap.size) (Below.trans (B:=w7.heap.size) (by repeat (first |exact Below.refl _ _ |refine Below.drew ?_ |refine below_dN' ?_ _)) b6) (hV.mono b6.size)))));(have HB:=lh hb6);clear hb6;rw [HSI.out] at HA6;(have ha1:=HA6.out w6 br);(have ha2:=HA6.out w6.drew br.drew);(try (have ha3:=HA7.out w6 br));(try (have ha4:=HA7.out w6.drew br.drew));(try go_simp))
  |(go_simp;go_at_call 79;((with_reducible refine (HN.out q HQ.out _).mono ?_));rintro e w7 ⟨A7,m7,c7,rfl,HA7,b7⟩;(have hb7:Below w.heap.size w w7:=Below.trans (B:=w.heap.size) (by repeat (first |exact HB.out |refine Below.drew ?_ |refine below_dN' ?_ _)) (b7.mono yaK));(try (have HA6:=lh (fun (V:World) (hV:Below w7.heap.size w7 V)=>HA6.out V (Below.trans (B:=w6.heap.size) (Below.trans (B:=w6.heap.size) (by repeat (first |exact Below.refl _ _ |refine Below.drew ?_ |refine below_dN' ?_ _)) b7) (hV.mono b7.size)))));(have HB:=lh hb7);clear hb7;rw [HSQ.out] at HA7;(have ha1:=HA7.out w7 br);(have ha2:=HA7.out w7.drew br.drew);(try (have ha3:=HA6.out w7 br));(try (have ha4:=HA6.out w7.drew br.drew));(try go_simp)))
 all_goals
  go_wp2_with fail
  go_ret;exact ⟨rfl,(by first |exact HB.out |exact HB.out.drew)⟩
theorem byt_in (i q:Nat) (x:ByteArray):∀z∈((chL++enc i)++enc q)++sB x,0≤z∧z < 256:=by
 intro z hz;rcases List.mem_append.1 hz with hz |hz
 ·rcases List.mem_append.1 hz with hz |hz
  ·rcases List.mem_append.1 hz with hz |hz
   ·(rcases List.mem_cons.1 hz with rfl |hz; ·omega);(rcases List.mem_cons.1 hz with rfl |hz; ·omega);(rcases List.mem_cons.1 hz with rfl |hz; ·omega);(rcases List.mem_cons.1 hz with rfl |hz; ·omega);(rcases List.mem_cons.1 hz with rfl |hz; ·omega);cases hz
   ·exact ya7 _ z hz
  ·exact ya7 _ z hz
 ·exact ybr x z hz
theorem rchain_any (i f t:Nat) (hi:i≤999) (hf:f≤t) (ht:t≤255) (x:ByteArray) (hx:x.size=32) (w:World):
 Calls Tryz.prog 249 #[.int .i64 i,.int .i64 f,.int .i64 t,.string x] w fun e w'=>e= .returned (.string (chF i f (t - f) x))∧Below w.heap.size w w':=by
 have HSZ:Hid (∀k,(chF i f k x).size=32):=ycZ i f x hx;have HI:=lh hi;have HR0:Hid (chF i f 0 x=x):=rfl;have HBW:Hid (Below w.heap.size w w):=Below.refl _ _;clear hi hx;go_enter Tryz.func249,Tryz.ntmps249
 go_upto_region 2 with fail
 go_loopw [3,9] (fun v s wr=>∃(k:Nat) (y:ByteArray),k≤t - f∧s= .int .i64 ((f+k:Nat):Int)∧v= .string y∧Hid (chF i f k x=y)∧Hid (Below w.heap.size w wr)) (fun _ s _=>t - (intOf s).toNat)
 case atStart=>exact ⟨0,x,by omega,rfl,rfl,HR0,HBW⟩
 case round=>
  obtain ⟨k,y,hk,rfl,rfl,HY,HBr⟩:=hrel;have HY32:Hid (y.size=32):=by show _=_;rw [←HY.out];exact HSZ.out k
  by_cases hlt:k < t - f
  ·obtain ⟨q,hq⟩:∃q,f+k=q:=⟨_,rfl⟩
   have HQ:=lh hq;have hqt:q < t:=by omega
   have hqtI:(q:Int) < (t:Int):=by omega
   rw [hq];have HIN:=lh (rinput_any i q (by have:=HI.out;omega) om y HY32.out wr)
   have HNX:Hid (chF i f (k+1) x=baOf (shaB (((chL++enc i)++enc q)++sB y))):=by
    show _=_
    rw [chF,HY.out,chL_eq,HQ.out]
   obtain ⟨zs,hzs⟩:∃zs,((chL++enc i)++enc q)++sB y=zs:=⟨_,rfl⟩
   have hzl:zs.length≤60:=by
    rw [←hzs,List.length_append,List.length_append,List.length_append,ya9,HY32.out];have h1:=ya1 i;have h2:=ya1 q
    show 5+_+_+32≤60
    omega
   have hzb:∀z∈zs,0≤z∧z < 256:=by rw [←hzs];exact byt_in i q y
   have HSB:Hid (sB (baOf zs)=zs):=ybi hzb;have HZ60:Hid ((baOf zs).size≤60):=by show _≤_;rw [yc2 hzb];exact hzl
   rw [hzs] at HIN HNX;have HZB:=lh hzb;obtain ⟨zt,hzt⟩:∃zt,baOf zs=zt:=⟨_,rfl⟩
   rw [hzt] at HIN HSB HZ60;clear hq hzs hzb hzl hzt
   go_wp2_with (first
    |(go_at_call 268;(with_reducible refine HIN.out.mono ?_);rintro e w3 ⟨rfl,hb3⟩;(have HB3:Hid (Below w.heap.size w w3):=HBr.out.trans (hb3.mono HBr.out.size));clear hb3)
    |((with_reducible refine ybm (o:=⟨some 20,_,_,_,_,_⟩) rfl (.tmp 19) rfl zt rfl ?_);intro cb W1 hsl hcb hbl;(have HW1:Hid (Below w.heap.size w W1):=HB3.out.trans (hbl.out.mono HB3.out.size));(have HC1:Hid (Calls Tryz.prog 123 #[.slice (some ⟨w3.heap.size,0,none⟩) zt.size cb] W1 fun e w'=>e= .returned (.string (baOf (shaB zs)))∧Below W1.heap.size W1 w'):=ycg _ _ cb W1.heap.size zs W1 (HSB.out▸hsl.out) nl (Nat.le_trans HZ60.out om) HZB.out);(rw [←HNX.out] at HC1);clear hsl hcb hbl)
    |(go_at_call 123;(with_reducible refine HC1.out.mono ?_);rintro e W2 ⟨rfl,hb2⟩;(have HW2:Hid (Below w.heap.size w W2):=HW1.out.trans (hb2.mono HW1.out.size));clear hb2))
   refine ⟨?rel,?measure⟩
   case rel=>exact ⟨k+1,_,by omega,(by (have:=HQ.out;refine congrArg (Value.int .i64) ?_;omega)),rfl,rfl,HW2⟩
   case measure=>(have:=HQ.out;simp [intOf]<;>omega)
  ·obtain rfl:k=t - f:=by omega
   have hge:¬((f+(t - f):Nat):Int) < (t:Int):=by omega
   go_wp2;go_ret;exact ⟨by rw [HY.out];rfl,HBr.out⟩
