/- The reference's one-time signatures: parameters, bits. The reference's bits and digits of a digest. One-time signatures: a chain. The reference's chains. The reference's public key of parts. Signatures: schemes. Contracts of library functions at this translation (printed by the kit's lay-shelf and lay-plain). One-time signatures: the public key of values. -/
import Derived.Test.YtpdledjgbgalcaaGreatDoorN3
import Derived.Lib.SlBytesConst
import Derived.Test.YtpdledjgbgalcaaGreatDoorPf
import Derived.Shelf.Strings.Builder1
import Derived.Shelf.Strings.Builder2
import Derived.Shelf.Strings.OnBuilder
import Derived.Shelf.Small.Bits
import Derived.Shelf.Small.Wraps
import Derived.Shelf.Strings.BuilderF
import Derived.Shelf.Strings.BuilderK
import Derived.Shelf.Strings.Builder2Cap
import Derived.Shelf.Strconv.Itoa0
import Derived.Shelf.Sort.Plain
import Derived.Shelf.Strings.BuilderCap
import Derived.Shelf.Slices.Turned
import Derived.Ground.Names2Prog
import Derived.Shelf.Slices.Clone
import Derived.Shelf.Slices.SearchI
import Derived.Shelf.Slices.In.SortNone
import Derived.Ground.SlgnProg
import Derived.Shelf.SlicesE.Clone
import Derived.Test.YtpdledjgbgalcaaGreatDoorProg
namespace Go.Proofs.YtpdledjgbgalcaaGreatDoor
set_option maxRecDepth 100000
set_option maxHeartbeats 8000000
open Go.RowKit Go.Lib
set_option linter.unusedVariables false
set_option linter.unusedSimpArgs false
def bsF (β:Nat):Int:=if β=1 then 2 else if β=2 then 4 else 16
abbrev chL:List Int:=[99,104,97,105,110]
theorem chL_eq:sB "chain".toUTF8=chL:=by decide+kernel
theorem ovc_any (i:Nat) (hi:i≤999) (w:World):Calls Tryz.prog 265 #[.int .i64 i] w fun e w'=>e= .returned (.bool true)∧w=w':=by
 have h1:(i:Int)≤999:=by omega
 have h0:(0:Int)≤i:=by omega
 go_enter Tryz.func265,Tryz.ntmps265
 go_wp2
 go_ret
 exact ⟨rfl,rfl⟩
theorem ois_any (x:ByteArray) (hx:x.size=32) (w:World):Calls Tryz.prog 266 #[.string x] w fun e w'=>e= .returned (.bool true)∧w=w':=by
 have h1:((x.size:Int)==32)=true:=by simp [hx]
 go_enter Tryz.func266,Tryz.ntmps266
 go_wp2
 go_ret
 exact ⟨rfl,rfl⟩
theorem enc_len10 (n:Nat) (h:n < 18446744073709551616):(enc n).length≤10:=enc_len n
theorem own_hA {w:World} {B n:Nat} {A:Option Addr} {xs:List Int} (h:Sl fB w B A n xs) (h0:0 < n):∀a,A=some a→a.block < B:=fun a ha=>by
 obtain ⟨b,off,e,hlt⟩:=h.at0 h0
 rw [ha] at e
 cases e
 exact hlt
theorem chain_any (i f t:Nat) (hi:i≤999) (hf:f≤t) (ht:t≤255) (x:ByteArray) (hx:x.size=32) (w:World) (hG:Glob w):
 Calls Tryz.prog 244 #[.int .i64 i,.int .i64 f,.int .i64 t,.string x] w fun e w'=>e= .returned (.tuple #[.string (chF i f (t - f) x),.int .i64 0])∧Below w.heap.size w w':=by
 obtain ⟨i0,hi0,hz0,hz1,hz2⟩:=info_parts Tryz.infoB
 have HI:=Lib.hid hi0
 have HZ0:=Lib.hid hz0
 have HZ1:=Lib.hid hz1
 have HZ2:=Lib.hid hz2
 have HG:=Lib.hid hG
 have HV:=Lib.hid (fun W=>ovc_any i hi W)
 have HIS:=Lib.hid (fun W=>ois_any x hx W)
 have HSZ:Hid (∀k,(chF i f k x).size=32):=chF_size i f x hx
 have HEL:=Lib.hid (enc_len10 i (by omega))
 have h1:¬(f:Int) < 0:=by omega
 have h2:¬(t:Int) < (f:Int):=by omega
 have h3:¬(255:Int) < (t:Int):=by omega
 have hwi:IntKind.u64.wrap (i:Int)=i:=by unfold IntKind.wrap;simp [IntKind.bits,IntKind.signed];omega
 have kc:Hid (∀W:World,Sl fB (W.alloc (.cells #[.int .u8 99,.int .u8 104,.int .u8 97,.int .u8 105,.int .u8 110] 5 (5,6))) (W.alloc (.cells #[.int .u8 99,.int .u8 104,.int .u8 97,.int .u8 105,.int .u8 110] 5 (5,6))).heap.size (some ⟨W.heap.size,0,none⟩) 5 chL):=fun W=>⟨rfl,SL.of_block (t:=5) (fr:=(5,6)) (heap_alloc_new W _) (by simp)⟩
 have HAP:Hid (∀W:World,Calls Tryz.prog 70 #[.slice (some ⟨W.heap.size,0,none⟩) 5 5,.int .u64 i] (W.alloc (.cells #[.int .u8 99,.int .u8 104,.int .u8 97,.int .u8 105,.int .u8 110] 5 (5,6))) fun e w'=>∃v,e= .returned v∧Own fB 5 w' (W.alloc (.cells #[.int .u8 99,.int .u8 104,.int .u8 97,.int .u8 105,.int .u8 110] 5 (5,6))).heap.size v (chL++enc i)∧Below (W.alloc (.cells #[.int .u8 99,.int .u8 104,.int .u8 97,.int .u8 105,.int .u8 110] 5 (5,6))).heap.size (W.alloc (.cells #[.int .u8 99,.int .u8 104,.int .u8 97,.int .u8 105,.int .u8 110] 5 (5,6))) w'):=fun W=>apG_any _ 5 5 _ chL i _ (kc.out W) (Nat.le_refl _) (by omega) (by omega)
 have HB0:Hid (Below w.heap.size w (w.alloc (.cells #[.int .u8 99,.int .u8 104,.int .u8 97,.int .u8 105,.int .u8 110] 5 (5,6)))):=(Below.refl _ _).alloc (Nat.le_refl _) _
 have kcv:=fun (w:World) (C:Array Value) (n c:Nat)=>Lib.run_convert_bytes_const (P:=Tryz.prog) w 40 5 C n c Tryz.underlying40 Tryz.underlying5
 clear hi0 hz0 hz1 hz2 hG hi hx
 go_enter Tryz.func244,Tryz.ntmps244
 go_upto_region 5 with (first
  |(go_at_call 265;(with_reducible refine (HV.out _).mono ?_);rintro e w1 ⟨rfl,rfl⟩)
  |(go_at_call 266;(with_reducible refine (HIS.out _).mono ?_);rintro e w1 ⟨rfl,rfl⟩)
  |(go_at_call 70;(with_reducible refine (HAP.out _).mono ?_);rintro e w2 ⟨v1,rfl,ho,hb2⟩;(have HO:=Lib.hid ho);(have HB2:Hid (Below w.heap.size w w2):=HB0.out.trans (hb2.mono HB0.out.size));clear ho hb2))
 obtain ⟨A1,c1,hv1,hc1,hs1,_⟩:=HO.out.shape
 obtain ⟨m1,hm1⟩:∃m,(chL++enc i).length=m:=⟨_,rfl⟩
 have HS1:Hid (Sl fB w2 w2.heap.size A1 m1 (chL++enc i)):=⟨hm1,hs1⟩
 have hm15:m1≤15:=by rw [←hm1,List.length_append];have:=HEL.out;show 5+_≤15;omega
 rw [hm1] at hv1 hc1
 subst hv1
 clear hs1 kcv HO kc HAP HV HIS
 have HR0:Hid (chF i f 0 x=x):=rfl
 have HBW:Hid (Below w2.heap.size w2 w2):=Below.refl _ _
 go_loopw [3,11] (fun v s wr=>∃(k:Nat) (y:ByteArray),k≤t - f∧s= .int .i64 ((f+k:Nat):Int)∧v= .string y∧Hid (chF i f k x=y)∧Hid (Below w2.heap.size w2 wr)) (fun _ s _=>t - (intOf s).toNat)
 case atStart=>exact ⟨0,x,by omega,rfl,rfl,HR0,HBW⟩
 case round=>
  obtain ⟨k,y,hk,rfl,rfl,HY,HBr⟩:=hrel
  have hy32:y.size=32:=by rw [←HY.out];exact HSZ.out k
  have HY32:=Lib.hid hy32
  clear hy32
  by_cases hlt:k < t - f
  ·obtain ⟨q,hq⟩:∃q,f+k=q:=⟨_,rfl⟩
   have HQ:=Lib.hid hq
   have hqt:q < t:=by omega
   have hqtI:(q:Int) < (t:Int):=by omega
   have hwq:IntKind.u64.wrap (q:Int)=q:=by unfold IntKind.wrap;simp [IntKind.bits,IntKind.signed];omega
   rw [hq]
   have HEQ:=Lib.hid (enc_len10 q (by omega))
   have HAP:Hid (Calls Tryz.prog 70 #[.slice A1 m1 c1,.int .u64 q] wr fun e w'=>∃v,e= .returned v∧Own fB 5 w' wr.heap.size v ((chL++enc i)++enc q)∧Below wr.heap.size wr w'):=apG_any A1 m1 c1 w2.heap.size _ q wr (HS1.out.up HBr.out (Nat.le_refl _)) HBr.out.size (by omega) (by omega)
   have HLEN:Hid (((chL++enc i)++enc q).length+y.size≤60):=by show _≤_;rw [List.length_append,HS1.out.1,HY32.out];have:=HEQ.out;omega
   have HK1:Hid (((chL++enc i)++enc q).length+y.size≤140737488355328):=Nat.le_trans HLEN.out (by omega)
   have HBY:Hid (Byt (((chL++enc i)++enc q)++sB y)):=fun z hz=>by
    rcases List.mem_append.1 hz with hz |hz
    ·rcases List.mem_append.1 hz with hz |hz
     ·rcases List.mem_append.1 hz with hz |hz
      ·(rcases List.mem_cons.1 hz with rfl |hz; ·omega);(rcases List.mem_cons.1 hz with rfl |hz; ·omega);(rcases List.mem_cons.1 hz with rfl |hz; ·omega);(rcases List.mem_cons.1 hz with rfl |hz; ·omega);(rcases List.mem_cons.1 hz with rfl |hz; ·omega);cases hz
      ·exact enc_rng _ z hz
     ·exact enc_rng _ z hz
    ·exact sB_rng y z hz
   have HNX:Hid (chF i f (k+1) x=baOf (shaB (((chL++enc i)++enc q)++sB y))):=by
    show _=_
    rw [chF,HY.out,chL_eq,HQ.out]
   clear hq
   go_wp2_with (first
    |(go_at_call 70;(with_reducible refine HAP.out.mono ?_);rintro e w3 ⟨v3,rfl,ho,hb3⟩;(have HO3:=Lib.hid ho);(have HB3:Hid (Below w2.heap.size w2 w3):=HBr.out.trans (hb3.mono HBr.out.size));(have HZ3:Hid (wr.heap.size≤w3.heap.size):=hb3.size);(have HB3r:Hid (Below wr.heap.size wr w3):=hb3);clear ho hb3)
    |(at_builtin;(refine wpList_app_str (o:=⟨some 49,_,_,_,_,_⟩) rfl (.tmp 47) (.tmp 48) 40 9 rfl 5 i0 Tryz.underlying40 Tryz.underlying9 HI.out HZ0.out HZ1.out HZ2.out v3 ((chL++enc i)++enc q) wr.heap.size (by rfl) HO3.out y (by rfl) HK1.out HZ3.out ?_);intro v4 w4 HO4 HG4 HV4;(obtain ⟨A4,c4,hv4,hc4,hs4,_⟩:=HO4.out.shape);(obtain ⟨n4,hn4⟩:∃n4,(((chL++enc i)++enc q)++sB y).length=n4:=⟨_,rfl⟩);(have HN4:=Lib.hid hn4);(rw [hn4] at hv4 hc4);subst hv4;(have HB4:Hid (Below w2.heap.size w2 w4):=HB3.out.trans (grown_below HG4.out (fun j hj=>Nat.le_trans HBr.out.size (World.ownsRow.lt HO3.out j hj).1) HB3.out.size));(have HS4:Hid (Sl fB w4 w4.heap.size A4 n4 (((chL++enc i)++enc q)++sB y)):=⟨hn4,hs4⟩);(have HC4:=Lib.hid hc4);clear hs4 hc4 hn4;(have HSU:Hid (Calls Tryz.prog 154 #[.slice A4 n4 c4] w4 fun e w'=>e= .returned (.string (baOf (shaB (((chL++enc i)++enc q)++sB y))))∧Below w4.heap.size w4 w'):=ssum_any A4 _ c4 w4.heap.size _ w4 (HG.out.on (HB2.out.trans (HB4.out.mono HB2.out.size))) HS4.out HC4.out (Nat.le_refl _) (by have:=HLEN.out;rw [←HN4.out,List.length_append,sB_len];omega) (HBY.out) (own_hA HS4.out (by rw [←HN4.out,List.length_append,sB_len,HY32.out];omega)));(rw [←HNX.out] at HSU))
    |(go_at_call 154;(with_reducible refine HSU.out.mono ?_);rintro e w5 ⟨rfl,hb5⟩;(have HB5:Hid (Below w2.heap.size w2 w5):=HB4.out.trans (hb5.mono HB4.out.size));clear hb5))
   refine ⟨?rel,?measure⟩
   case rel=>exact ⟨k+1,_,by omega,(by (have:=HQ.out;refine congrArg (Value.int .i64) ?_;omega)),rfl,rfl,HB5⟩
   case measure=>(have:=HQ.out;simp [intOf]<;>omega)
  ·obtain rfl:k=t - f:=by omega
   have hge:¬((f+(t - f):Nat):Int) < (t:Int):=by omega
   go_wp2
   go_ret2
   exact ⟨by rw [HY.out];rfl,HB2.out.trans (HBr.out.mono HB2.out.size)⟩
abbrev pbL:List Int:=[112,117,98,108,105,99]
theorem pbL_eq:sB "public".toUTF8=pbL:=by decide+kernel
theorem bit_M {b:Int} {β:Nat} (hb:BitN b β):∃M:Nat,2 ^ β - 1=M∧1≤M∧M≤15∧bsF β=(M:Int)+1∧lsF β=(M:Int)∧(2 ^ β:Nat)=M+1:=by
 rcases hb with ⟨_,rfl⟩ |⟨_,rfl⟩ |⟨_,rfl⟩
 ·exact ⟨1,rfl,by omega,by omega,rfl,rfl,rfl⟩
 ·exact ⟨3,rfl,by omega,by omega,rfl,rfl,rfl⟩
 ·exact ⟨15,rfl,by omega,by omega,rfl,rfl,rfl⟩
theorem endsF_size (β:Nat) (ds:List Int) (ps:List ByteArray) (h:∀s∈ps,s.size=32) (n:Nat) (hn:n≤ps.length):∀s∈endsF β ds ps n,s.size=32:=by
 intro s hs
 unfold endsF at hs
 obtain ⟨i,hi,rfl⟩:=List.mem_map.1 hs
 rw [List.mem_range] at hi
 refine chF_size _ _ _ ?_ _
 rw [List.getD_eq_getElem?_getD,List.getElem?_eq_getElem (by omega)]
 exact h _ (List.getElem_mem _)
theorem jnL_len32 (ps:List ByteArray) (h:∀s∈ps,s.size=32):(jnL ps).length=32*ps.length:=by
 induction ps with
 |nil=>rfl
 |cons a t ih=>
  rw [show jnL (a::t)=sB a++jnL t from rfl,List.length_append,sB_len,h a List.mem_cons_self,ih (fun s hs=>h s (List.mem_cons_of_mem _ hs)),List.length_cons]
  omega
theorem bit_T {b:Int} {β:Nat} (hb:BitN b β):∃T:Nat,mN β+cN β=T∧60≤T∧T≤265∧mNI β+cNI β=(T:Int):=by
 rcases hb with ⟨_,rfl⟩ |⟨_,rfl⟩ |⟨_,rfl⟩
 ·exact ⟨265,rfl,by omega,by omega,rfl⟩
 ·exact ⟨133,rfl,by omega,by omega,rfl⟩
 ·exact ⟨67,rfl,by omega,by omega,rfl⟩
def sgOk (b h:Int):Bool:=decide ((b=1∨b=2∨b=4)∧0≤h∧h≤8)
abbrev cSc (b h:Int):Array Value:=#[.int .i64 b,.int .i64 h]
theorem sgvalid_any (b h:Int) (w:World):Calls Tryz.prog 201 #[.agg (cSc b h)] w fun e w'=>e= .returned (.bool (sgOk b h))∧Below w.heap.size w w':=by
 have HB:Hid (Below w.heap.size w (w.alloc (.cells (cSc b h) 26))):=(Below.refl _ _).alloc (Nat.le_refl _) _
 have i0:∀w,(Instr.index 303 (.agg #[.int .i64 1,.int .i64 2,.int .i64 4]) (.int .i64 0)).run Tryz.prog w= .ok (.int .i64 1) w:=fun _=>by kernel_rfl
 have i1:∀w,(Instr.index 303 (.agg #[.int .i64 1,.int .i64 2,.int .i64 4]) (.int .i64 1)).run Tryz.prog w= .ok (.int .i64 2) w:=fun _=>by kernel_rfl
 have i2:∀w,(Instr.index 303 (.agg #[.int .i64 1,.int .i64 2,.int .i64 4]) (.int .i64 2)).run Tryz.prog w= .ok (.int .i64 4) w:=fun _=>by kernel_rfl
 by_cases h0:h < 0
 ·have HV:Hid (sgOk b h=false):=by show _=_;unfold sgOk;rw [decide_eq_false];omega
  rw [HV.out]
  go_enter Tryz.func201,Tryz.ntmps201
  go_wp2
  go_ret
  exact ⟨rfl,HB.out⟩
 ·by_cases h8:8 < h
  ·have HV:Hid (sgOk b h=false):=by show _=_;unfold sgOk;rw [decide_eq_false];omega
   rw [HV.out]
   go_enter Tryz.func201,Tryz.ntmps201
   go_wp2
   go_ret
   exact ⟨rfl,HB.out⟩
  ·by_cases hb:b=1∨b=2∨b=4
   ·have HV:Hid (sgOk b h=true):=by show _=_;unfold sgOk;rw [decide_eq_true];omega
    rw [HV.out]
    rcases hb with rfl |rfl |rfl
    all_goals
     go_enter Tryz.func201,Tryz.ntmps201
     go_wp2
     refine wp_loop_rounds 3 ?_
     rw [rounds_succ]
     go_wp2
     (try rw [rounds_succ])
     go_wp2
     (try rw [rounds_succ])
     go_wp2
     go_ret
     exact ⟨rfl,HB.out⟩
   ·have HV:Hid (sgOk b h=false):=by show _=_;unfold sgOk;rw [decide_eq_false];omega
    rw [HV.out]
    have hb1:¬b=1:=by omega
    have hb2:¬b=2:=by omega
    have hb4:¬b=4:=by omega
    have hc1:(b==1)=false:=by simp [hb1]
    have hc2:(b==2)=false:=by simp [hb2]
    have hc4:(b==4)=false:=by simp [hb4]
    go_enter Tryz.func201,Tryz.ntmps201
    go_wp2
    refine wp_loop_rounds 4 ?_
    rw [rounds_succ]
    go_wp2
    rw [rounds_succ]
    go_wp2
    rw [rounds_succ]
    go_wp2
    rw [rounds_succ]
    go_wp2
    go_ret
    exact ⟨rfl,HB.out⟩
open Go.Shelf
def Tryz.lays156_ren:Go.Shelf.Ren:=⟨fun |156=>267 |165=>272 |166=>273 |169=>274 |240=>275 |241=>276 |276=>277 |277=>278 |n=>n,fun |31=>24 |9=>9 |3=>3 |4=>4 |0=>0 |20=>20 |72=>327 |76=>330 |70=>325 |37=>40 |75=>329 |127=>332 |164=>333 |5=>5 |80=>240 |n=>n,fun |n=>n⟩
theorem Tryz.lays156:Go.Proofs.Lays.n156 Tryz.prog Tryz.lays156_ren:={
 mixed:=by kernel_rfl
 f156:=Tryz.func267.trans (congrArg some (by kernel_rfl))
 f165:=Tryz.func272.trans (congrArg some (by kernel_rfl))
 f166:=Tryz.func273.trans (congrArg some (by kernel_rfl))
 f169:=Tryz.func274.trans (congrArg some (by kernel_rfl))
 f240:=Tryz.func275.trans (congrArg some (by kernel_rfl))
 f241:=Tryz.func276.trans (congrArg some (by kernel_rfl))
 f276:=Tryz.func277.trans (congrArg some (by kernel_rfl))
 f277:=Tryz.func278.trans (congrArg some (by kernel_rfl))
 t0:=Tryz.underlying0
 a0:=Tryz.isAgg0
 z0:=Tryz.sizeOf0
 v0:=Tryz.zeroValue0
 t3:=Tryz.underlying3
 a3:=Tryz.isAgg3
 z3:=Tryz.sizeOf3
 v3:=Tryz.zeroValue3
 t4:=Tryz.underlying4
 a4:=Tryz.isAgg4
 z4:=Tryz.sizeOf4
 v4:=Tryz.zeroValue4
 t9:=Tryz.underlying9
 a9:=Tryz.isAgg9
 z9:=Tryz.sizeOf9
 v9:=Tryz.zeroValue9
 t20:=Tryz.underlying20
 a20:=Tryz.isAgg20
 z20:=Tryz.sizeOf20
 v20:=Tryz.zeroValue20
 t31:=Tryz.underlying24
 a31:=Tryz.isAgg24
 z31:=Tryz.sizeOf24
 v31:=Tryz.zeroValue24
 t37:=Tryz.underlying40
 a37:=Tryz.isAgg40
 z37:=Tryz.sizeOf40
 v37:=Tryz.zeroValue40
 t70:=Tryz.underlying325
 a70:=Tryz.isAgg325
 z70:=Tryz.sizeOf325
 v70:=Tryz.zeroValue325
 t72:=Tryz.underlying327
 a72:=Tryz.isAgg327
 z72:=Tryz.sizeOf327
 v72:=Tryz.zeroValue327
 t75:=Tryz.underlying329
 a75:=Tryz.isAgg329
 z75:=Tryz.sizeOf329
 v75:=Tryz.zeroValue329
 t76:=Tryz.underlying330
 a76:=Tryz.isAgg330
 z76:=Tryz.sizeOf330
 v76:=Tryz.zeroValue330
 t127:=Tryz.underlying332
 a127:=Tryz.isAgg332
 z127:=Tryz.sizeOf332
 v127:=Tryz.zeroValue332
 t164:=Tryz.underlying333
 a164:=Tryz.isAgg333
 z164:=Tryz.sizeOf333
 v164:=Tryz.zeroValue333}
theorem Tryz.Builder_Extra_156:Builder.Extra Tryz.prog Tryz.lays156_ren:={
 sizeBuilder:=by kernel_rfl
 liesBuilder:=by kernel_rfl
 t5:=Tryz.underlying5
 a5:=Tryz.isAgg5
 z5:=Tryz.sizeOf5
 v5:=Tryz.zeroValue5
 infoByte:=by kernel_rfl
 cellsByte:=by kernel_rfl
 sizeByte:=by kernel_rfl
 neB5:=by decide}
open Go.RowKit in
theorem Tryz.strings_Join (bk o c:Nat) (xs:List ByteArray) (sep:ByteArray) (w:World) (hcells:∀(j:Nat) x,xs[j]? =some x→w.cell? ⟨bk,o+j,none⟩=some (.string x)) (hbk:bk < w.heap.size) (hN:xs.length≤140737488355328) (hcap:xs.length≤c) (hlen:(Lib.join (xs.map (·.data.toList)) sep.data.toList).length≤140737488355328):
 Calls Tryz.prog 267 #[.slice (some ⟨bk,o,none⟩) xs.length c,.string sep] w fun e w'=>e= .returned (.string ⟨(Lib.join (xs.map (·.data.toList)) sep.data.toList).toArray⟩)∧Below w.heap.size w w':=Any.strings_Join Tryz.lays156 Tryz.Builder_Extra_156 bk o c xs sep w hcells hbk hN hcap hlen
def Tryz.lays189_ren:Go.Shelf.Ren:=⟨fun |189=>109 |125=>177 |257=>176 |128=>229 |129=>230 |294=>220 |295=>221 |296=>222 |297=>223 |298=>224 |299=>225 |216=>226 |300=>227 |301=>228 |328=>254 |329=>255 |330=>256 |331=>257 |332=>258 |215=>259 |343=>269 |n=>n,fun |28=>27 |3=>3 |46=>247 |0=>0 |51=>250 |53=>93 |4=>4 |183=>284 |182=>283 |131=>287 |5=>5 |9=>9 |218=>310 |222=>279 |228=>321 |229=>317 |n=>n,fun |n=>n⟩
theorem Tryz.lays189:Go.Proofs.Lays.n189 Tryz.prog Tryz.lays189_ren:={
 mixed:=by kernel_rfl
 f125:=Tryz.func177.trans (congrArg some (by kernel_rfl))
 f128:=Tryz.func229.trans (congrArg some (by kernel_rfl))
 f129:=Tryz.func230.trans (congrArg some (by kernel_rfl))
 f189:=Tryz.func109.trans (congrArg some (by kernel_rfl))
 f215:=Tryz.func259.trans (congrArg some (by kernel_rfl))
 f216:=Tryz.func226.trans (congrArg some (by kernel_rfl))
 f257:=Tryz.func176.trans (congrArg some (by kernel_rfl))
 f294:=Tryz.func220.trans (congrArg some (by kernel_rfl))
 f295:=Tryz.func221.trans (congrArg some (by kernel_rfl))
 f296:=Tryz.func222.trans (congrArg some (by kernel_rfl))
 f297:=Tryz.func223.trans (congrArg some (by kernel_rfl))
 f298:=Tryz.func224.trans (congrArg some (by kernel_rfl))
 f299:=Tryz.func225.trans (congrArg some (by kernel_rfl))
 f300:=Tryz.func227.trans (congrArg some (by kernel_rfl))
 f301:=Tryz.func228.trans (congrArg some (by kernel_rfl))
 f328:=Tryz.func254.trans (congrArg some (by kernel_rfl))
 f329:=Tryz.func255.trans (congrArg some (by kernel_rfl))
 f330:=Tryz.func256.trans (congrArg some (by kernel_rfl))
 f331:=Tryz.func257.trans (congrArg some (by kernel_rfl))
 f332:=Tryz.func258.trans (congrArg some (by kernel_rfl))
 f343:=Tryz.func269.trans (congrArg some (by kernel_rfl))
 t0:=Tryz.underlying0
 a0:=Tryz.isAgg0
 z0:=Tryz.sizeOf0
 v0:=Tryz.zeroValue0
 t3:=Tryz.underlying3
 a3:=Tryz.isAgg3
 z3:=Tryz.sizeOf3
 v3:=Tryz.zeroValue3
 t4:=Tryz.underlying4
 a4:=Tryz.isAgg4
 z4:=Tryz.sizeOf4
 v4:=Tryz.zeroValue4
 t5:=Tryz.underlying5
 a5:=Tryz.isAgg5
 z5:=Tryz.sizeOf5
 v5:=Tryz.zeroValue5
 t9:=Tryz.underlying9
 a9:=Tryz.isAgg9
 z9:=Tryz.sizeOf9
 v9:=Tryz.zeroValue9
 t28:=Tryz.underlying27
 a28:=Tryz.isAgg27
 z28:=Tryz.sizeOf27
 v28:=Tryz.zeroValue27
 t46:=Tryz.underlying247
 a46:=Tryz.isAgg247
 z46:=Tryz.sizeOf247
 v46:=Tryz.zeroValue247
 t51:=Tryz.underlying250
 a51:=Tryz.isAgg250
 z51:=Tryz.sizeOf250
 v51:=Tryz.zeroValue250
 t53:=Tryz.underlying93
 a53:=Tryz.isAgg93
 z53:=Tryz.sizeOf93
 v53:=Tryz.zeroValue93
 t131:=Tryz.underlying287
 a131:=Tryz.isAgg287
 z131:=Tryz.sizeOf287
 v131:=Tryz.zeroValue287
 t182:=Tryz.underlying283
 a182:=Tryz.isAgg283
 z182:=Tryz.sizeOf283
 v182:=Tryz.zeroValue283
 t183:=Tryz.underlying284
 a183:=Tryz.isAgg284
 z183:=Tryz.sizeOf284
 v183:=Tryz.zeroValue284
 t218:=Tryz.underlying310
 a218:=Tryz.isAgg310
 z218:=Tryz.sizeOf310
 v218:=Tryz.zeroValue310
 t222:=Tryz.underlying279
 a222:=Tryz.isAgg279
 z222:=Tryz.sizeOf279
 v222:=Tryz.zeroValue279
 t228:=Tryz.underlying321
 a228:=Tryz.isAgg321
 z228:=Tryz.sizeOf321
 v228:=Tryz.zeroValue321
 t229:=Tryz.underlying317
 a229:=Tryz.isAgg317
 z229:=Tryz.sizeOf317
 v229:=Tryz.zeroValue317}
open Go.Sort Go.RowKit in
theorem Tryz.slices_Sort_int (blk off cap:Nat) (zs:List Int) (w:World) (hH:Holds (Value.int .i64) w blk off zs.toArray) (hblk:blk < w.heap.size) (hsz:zs.length < 4611686018427387904):
 Calls Tryz.prog 109 #[.slice (some ⟨blk,off,none⟩) zs.length cap] w fun e w'=>
  e= .returned (.tuple #[])∧∃n os,w'=grow (putRow (Value.int .i64) (Sort.ahead w n) blk off (zs.mergeSort fun x y=>decide (x≤y)).toArray) os:=Any.slices_Sort_int Tryz.lays189 blk off cap zs w hH hblk hsz
def Tryz.lays110_ren:Go.Shelf.Ren:=⟨fun |110=>173 |109=>217 |n=>n,fun |31=>24 |9=>9 |4=>4 |3=>3 |0=>0 |n=>n,fun |n=>n⟩
theorem Tryz.lays110:Go.Proofs.Lays.n110 Tryz.prog Tryz.lays110_ren:={
 mixed:=by kernel_rfl
 f109:=Tryz.func217.trans (congrArg some (by kernel_rfl))
 f110:=Tryz.func173.trans (congrArg some (by kernel_rfl))
 t0:=Tryz.underlying0
 a0:=Tryz.isAgg0
 z0:=Tryz.sizeOf0
 v0:=Tryz.zeroValue0
 t3:=Tryz.underlying3
 a3:=Tryz.isAgg3
 z3:=Tryz.sizeOf3
 v3:=Tryz.zeroValue3
 t4:=Tryz.underlying4
 a4:=Tryz.isAgg4
 z4:=Tryz.sizeOf4
 v4:=Tryz.zeroValue4
 t9:=Tryz.underlying9
 a9:=Tryz.isAgg9
 z9:=Tryz.sizeOf9
 v9:=Tryz.zeroValue9
 t31:=Tryz.underlying24
 a31:=Tryz.isAgg24
 z31:=Tryz.sizeOf24
 v31:=Tryz.zeroValue24}
open Go.Lib in
theorem Tryz.slices_Contains_string (b off n c:Nat) (zs:List ByteArray) (x:ByteArray) (w:World) (hz:n≤zs.length) (hbig:n≤9223372036854775807) (hc:∀j,j < zs.length→w.cell? ⟨b,off+j,none⟩=some (.string (zs.getD j ByteArray.empty))):
 Calls Tryz.prog 173 #[.slice (some ⟨b,off,none⟩) n c,.string x] w fun e w'=>e= .returned (.bool (Lib.containsS (zs.take n) x))∧w'=w:=Any.slices_Contains_string Tryz.lays110 b off n c zs x w hz hbig hc
theorem Tryz.slices_Contains_string_empty (a:Option Addr) (c:Nat) (x:ByteArray) (w:World):
 Calls Tryz.prog 173 #[.slice a 0 c,.string x] w fun e w'=>e= .returned (.bool false)∧w'=w:=Any.slices_Contains_string_empty Tryz.lays110 a c x w
open Go.RowKit Go.Sort in
theorem Tryz.slices_Sort_int_none (p:Option Addr) (cap:Nat) (w:World):
 Calls Tryz.prog 109 #[.slice p 0 cap] w fun e w'=>e= .returned (.tuple #[])∧w'=w:=Any.slices_Sort_int_none Tryz.lays189 p cap w
theorem join_emp:∀(xs:List (List UInt8)),Lib.join xs []=xs.flatten
 | []=>rfl
 |a::t=>by
  rw [Lib.join_cons]
  simp [Lib.joinTail]
theorem sB_mk (l:List UInt8):sB ⟨l.toArray⟩=l.map fun b=>(b.toNat:Int):=by unfold sB;simp
theorem join_jnL (vs:List ByteArray):sB ⟨(Lib.join (vs.map (·.data.toList)) []).toArray⟩=jnL vs:=by
 rw [join_emp,sB_mk]
 induction vs with
 |nil=>rfl
 |cons a t ih=>
  rw [List.map_cons,List.flatten_cons,List.map_append,ih]
  rfl
theorem join_len (vs:List ByteArray):(Lib.join (vs.map (·.data.toList)) []).length=(jnL vs).length:=by
 rw [←join_jnL,sB_mk,List.length_map]
theorem two_sl (w:World) (a b:ByteArray):Sl fT (w.alloc (.cells #[.string a,.string b] 9)) (w.alloc (.cells #[.string a,.string b] 9)).heap.size (some ⟨w.heap.size,0,none⟩) 2 [a,b]:=
 ⟨rfl,SL.of_block (t:=9) (fr:=(0,0)) (heap_alloc_new w _) (by simp)⟩
theorem pubkey_any (A:Option Addr) (n c B:Nat) (vs:List ByteArray) (w:World) (hG:Glob w) (hx:Sl fT w B A n vs) (hB:B≤w.heap.size) (hc:n≤c) (h1:1≤n) (hn:n≤300) (hv:∀s∈vs,s.size=32):
 Calls Tryz.prog 246 #[.slice A n c] w fun e w'=>e= .returned (.string (baOf (shaB (pbL++jnL vs))))∧Below w.heap.size w w':=by
 have hvl:vs.length=n:=hx.1
 have hln:=jnL_len32 vs hv
 rw [hvl] at hln
 obtain ⟨b1,o1,x,rfl,hb1,_,_⟩:=hx.2.at_ (k:=0) (by omega)
 have HJ:Hid (Calls Tryz.prog 267 #[.slice (some ⟨b1,o1,none⟩) n c,.string ⟨#[]⟩] w fun e w'=>e= .returned (.string ⟨(Lib.join (vs.map (·.data.toList)) []).toArray⟩)∧Below w.heap.size w w'):=by
  have h:=Tryz.strings_Join b1 o1 c vs ⟨#[]⟩ w (fun j y hj=>by
   obtain ⟨b2,o2,x2,e2,_,g2,k2⟩:=hx.2.at_ (k:=j) (List.getElem?_eq_some_iff.1 hj).1
   cases e2
   rw [hj] at g2
   cases g2
   exact k2) (Nat.lt_of_lt_of_le hb1 hB) (by omega) (by omega) (by show (Lib.join _ []).length≤_;rw [join_len,hln];omega)
  rw [hvl] at h
  exact h
 obtain ⟨js,hjs⟩:∃s,(⟨(Lib.join (vs.map (·.data.toList)) []).toArray⟩:ByteArray)=s:=⟨_,rfl⟩
 have hsb:sB js=jnL vs:=by rw [←hjs,join_jnL]
 rw [hjs] at HJ
 have hjn:jnL [⟨#[112,117,98,108,105,99]⟩,js]=pbL++jnL vs:=by
  show sB ⟨#[112,117,98,108,105,99]⟩++(sB js++[])=_
  rw [hsb,List.append_nil]
  rfl
 have HM:Hid (∀W,Below w.heap.size w W→Calls Tryz.prog 209 #[.slice (some ⟨W.heap.size,0,none⟩) 2 2] (W.alloc (.cells #[.string ⟨#[112,117,98,108,105,99]⟩,.string js] 9)) fun e w'=>e= .returned (.string (baOf (shaB (pbL++jnL vs))))∧Below W.heap.size W w'):=fun W hb=>by
  have hba:=(Below.refl W.heap.size W).alloc (Nat.le_refl _) (.cells #[.string ⟨#[112,117,98,108,105,99]⟩,.string js] 9)
  have h:=mjoin_any _ 2 2 _ [⟨#[112,117,98,108,105,99]⟩,js] _ (hG.on (hb.trans (hba.mono hb.size))) (two_sl W _ _) (Nat.le_refl _) (by omega) (by rw [hjn,List.length_append,hln];show 6+_≤_;omega)
  rw [hjn] at h
  exact h.mono fun e w' ⟨h1,h2⟩=>⟨h1,hba.trans (h2.mono hba.size)⟩
 clear hG hx hB hv hvl hln hb1 hjs hsb hjn
 go_enter Tryz.func246,Tryz.ntmps246
 go_wp2_with (first
  |(go_at_call 267;(with_reducible refine HJ.out.mono ?_);rintro e w1 ⟨rfl,hb1⟩;(have HB1:=Lib.hid hb1);(have HM1:=Lib.hid (HM.out w1 hb1));clear hb1)
  |(go_at_call 209;(with_reducible refine HM1.out.mono ?_);rintro e w2 ⟨rfl,hb2⟩;(have HB2:=Lib.hid (HB1.out.trans (hb2.mono HB1.out.size)));clear hb2))
 go_ret
 exact ⟨rfl,HB2.out⟩
