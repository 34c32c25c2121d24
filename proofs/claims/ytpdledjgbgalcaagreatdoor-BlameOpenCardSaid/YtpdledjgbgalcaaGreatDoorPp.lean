import Derived.Test.YtpdledjgbgalcaaGreatDoorN5
import Derived.Lib.SlBytesConst
import Derived.Shelf.Strings.OnBuilder
import Derived.Shelf.Small.Bits
import Derived.Shelf.Small.Wraps
import Derived.Shelf.Sort.Plain
import Derived.Shelf.Strings.BuilderCap
import Derived.Shelf.Slices.Turned
import Derived.Shelf.Slices.Clone
import Derived.Shelf.Slices.SearchI
import Derived.Shelf.Slices.In.SortNone
import Derived.Shelf.SlicesE.Clone
namespace Go.Proofs.YtpdledjgbgalcaaGreatDoor
set_option maxRecDepth 100000
set_option maxHeartbeats 8000000
open Go.RowKit Go.Lib Go.Proofs.Tryz
set_option linter.unusedVariables false
set_option linter.unusedSimpArgs false
abbrev chL:List Int:=[99,104,97,105,110]
theorem chL_eq:sB "chain".toUTF8=chL:=by decide+kernel
theorem ovc_any (i:Nat) (hi:i<=999) (w:World):Calls prog 265 #[.int .i64 i] w fun e G=>e= .returned (.bool true)/\w=G:=by
 have h1:(i:Int)<=999:=by omega
 have h0:(0:Int)<=i:=by omega
 go_enter func265,ntmps265;go_wp2;go_ret;exact ⟨rfl,rfl⟩
theorem ois_any (x:ByteArray) (G:x.size=32) (w:World):Calls prog 266 #[.string x] w fun e H=>e= .returned (.bool true)/\w=H:=by
 have h1:((x.size:Int)==32)=true:=by simp [G]
 go_enter func266,ntmps266;go_wp2;go_ret;exact ⟨rfl,rfl⟩
theorem enc_len10 (n:Nat) (h:n < 18446744073709551616):(enc n).length<=10:=ybm n
theorem own_hA {w:World} {B n:Nat} {A:Option Addr} {xs:List Int} (h:Sl fB w B A n xs) (h0:0 < n):∀a,A=some a->a.block < B:=fun a ha=>by
 obtain ⟨b,off,e,hlt⟩:=h.at0 h0;rw [ha] at e;cases e
 exact hlt
theorem chain_any (i f t:Nat) (hi:i<=999) (hf:f<=t) (ht:t<=255) (x:ByteArray) (hx:x.size=32) (w:World) (hG:Glob w):
 Calls prog 244 #[.int .i64 i,.int .i64 f,.int .i64 t,.string x] w fun e J=>e= .returned (.tuple #[.string (chF i f (t - f) x),.int .i64 0])/\Below w.heap.size w J:=by
 obtain ⟨i0,ao,aq,ak,am⟩:=info_parts Tryz.infoB;have HI:=lh ao;have aE:=lh aq;have aF:=lh ak;have aH:=lh am;have HG:=lh hG;have HV:=lh (fun W=>ovc_any i hi W);have ag:=lh (fun W=>ois_any x hx W);have aI:Hid (∀k,(chF i f k x).size=32):=yd7 i f x hx;have aA:=lh (enc_len10 i om);have h1:¬(f:Int) < 0:=by omega
 have h2:¬(t:Int) < (f:Int):=by omega
 have h3:¬(255:Int) < (t:Int):=by omega
 have aV:IntKind.u64.wrap (i:Int)=i:=by unfold IntKind.wrap;simp [IntKind.bits,IntKind.signed];omega
 have kc:Hid (∀W:World,Sl fB (W.alloc (.cells #[.int .u8 99,.int .u8 104,.int .u8 97,.int .u8 105,.int .u8 110] 5 (5,6))) (W.alloc (.cells #[.int .u8 99,.int .u8 104,.int .u8 97,.int .u8 105,.int .u8 110] 5 (5,6))).heap.size (some ⟨W.heap.size,0,none⟩) 5 chL):=fun W=>⟨rfl,SL.of_block (t:=5) (fr:=(5,6)) (zy W _) sI⟩;have M:Hid (∀W:World,Calls prog 70 #[.slice (some ⟨W.heap.size,0,none⟩) 5 5,.int .u64 i] (W.alloc (.cells #[.int .u8 99,.int .u8 104,.int .u8 97,.int .u8 105,.int .u8 110] 5 (5,6))) fun e J=>∃v,e= .returned v/\Own fB 5 J (W.alloc (.cells #[.int .u8 99,.int .u8 104,.int .u8 97,.int .u8 105,.int .u8 110] 5 (5,6))).heap.size v (chL++enc i)/\Below (W.alloc (.cells #[.int .u8 99,.int .u8 104,.int .u8 97,.int .u8 105,.int .u8 110] 5 (5,6))).heap.size (W.alloc (.cells #[.int .u8 99,.int .u8 104,.int .u8 97,.int .u8 105,.int .u8 110] 5 (5,6))) J):=fun W=>apG_any _ 5 5 _ chL i _ (kc.out W) nl om om;have ay:Hid (Below w.heap.size w (w.alloc (.cells #[.int .u8 99,.int .u8 104,.int .u8 97,.int .u8 105,.int .u8 110] 5 (5,6)))):=bl;have aC:=fun (w:World) (C:Array Value) (n c:Nat)=>Lib.run_convert_bytes_const (P:=prog) w 40 5 C n c underlying40 underlying5;clear ao aq ak am hG hi hx;go_enter func244,ntmps244
 go_upto_region 5 with (first
  |(go_at_call 265;(with_reducible refine (HV.out _).mono ?_);rintro e w1 ⟨rfl,rfl⟩)
  |(go_at_call 266;(with_reducible refine (ag.out _).mono ?_);rintro e w1 ⟨rfl,rfl⟩)
  |(go_at_call 70;(with_reducible refine (M.out _).mono ?_);rintro e H ⟨v1,rfl,O,au⟩;(have HO:=lh O);(have ac:Hid (Below w.heap.size w H):=bt ay.out au);clear O au))
 obtain ⟨A1,c1,ai,aN,aj,_⟩:=HO.out.shape;obtain ⟨m1,U⟩:=gx ((chL++enc i).length);have HS1:Hid (Sl fB H H.heap.size A1 m1 (chL++enc i)):=⟨U,aj⟩;have aR:m1<=15:=by rw [<-U,List.length_append];have:=aA.out;show 5+_<=15;omega
 rw [U] at ai aN;subst ai;clear aj aC HO kc M HV ag;have aG:Hid (chF i f 0 x=x):=rfl;have HBW:Hid (Below H.heap.size H H):=Below.refl _ _
 go_loopw [3,11] (fun v s wr=>∃(k:Nat) (y:ByteArray),k<=t - f/\s= .int .i64 ((f+k:Nat):Int)/\v= .string y/\Hid (chF i f k x=y)/\Hid (Below H.heap.size H wr)) (fun _ s _=>t - (intOf s).toNat)
 case atStart=>exact ⟨0,x,by omega,rfl,rfl,aG,HBW⟩
 case round=>
  obtain ⟨k,y,hk,rfl,rfl,HY,HBr⟩:=hrel;have N:y.size=32:=by rw [<-HY.out];exact aI.out k
  have Y:=lh N;clear N
  by_cases hlt:k < t - f
  ·obtain ⟨q,hq⟩:=gx (f+k);have HQ:=lh hq;have aU:q < t:=by omega
   have aS:(q:Int) < (t:Int):=by omega
   have aW:IntKind.u64.wrap (q:Int)=q:=by unfold IntKind.wrap;simp [IntKind.bits,IntKind.signed];omega
   rw [hq];have aJ:=lh (enc_len10 q om);have M:Hid (Calls prog 70 #[.slice A1 m1 c1,.int .u64 q] wr fun e J=>∃v,e= .returned v/\Own fB 5 J wr.heap.size v ((chL++enc i)++enc q)/\Below wr.heap.size wr J):=apG_any A1 m1 c1 H.heap.size _ q wr (HS1.out.up HBr.out nl) HBr.out.size om om;have T:Hid (((chL++enc i)++enc q).length+y.size<=60):=by show _<=_;rw [List.length_append,HS1.out.1,Y.out];have:=aJ.out;omega
   have aL:Hid (((chL++enc i)++enc q).length+y.size<=140737488355328):=lT T.out om
   have aB:Hid (Byt (((chL++enc i)++enc q)++sB y)):=fun z G=>by
    rcases List.mem_append.1 G with G |G
    ·rcases List.mem_append.1 G with G |G
     ·rcases List.mem_append.1 G with G |G
      ·(rcases List.mem_cons.1 G with rfl |G; ·omega);(rcases List.mem_cons.1 G with rfl |G; ·omega);(rcases List.mem_cons.1 G with rfl |G; ·omega);(rcases List.mem_cons.1 G with rfl |G; ·omega);(rcases List.mem_cons.1 G with rfl |G; ·omega);cases G
      ·exact ybG _ z G
     ·exact ybG _ z G
    ·exact ycw y z G
   have aP:Hid (chF i f (k+1) x=baOf (shaB (((chL++enc i)++enc q)++sB y))):=by
    show _=_;rw [chF,HY.out,chL_eq,HQ.out]
   clear hq
   go_wp2_with (first
    |(go_at_call 70;(with_reducible refine M.out.mono ?_);rintro e w3 ⟨v3,rfl,O,L⟩;(have ax:=lh O);(have af:Hid (Below H.heap.size H w3):=bt HBr.out L);(have aK:Hid (wr.heap.size<=w3.heap.size):=L.size);(have aQ:Hid (Below wr.heap.size wr w3):=L);clear O L)
    |(at_builtin;(refine yb6 (o:=⟨some 49,_,_,_,_,_⟩) rfl (.tmp 47) (.tmp 48) 40 9 rfl 5 i0 underlying40 underlying9 HI.out aE.out aF.out aH.out v3 ((chL++enc i)++enc q) wr.heap.size (by rfl) ax.out y (by rfl) aL.out aK.out ?_);intro v4 w4 aM aO aT;(obtain ⟨A4,c4,ar,Z,ap,_⟩:=aM.out.shape);(obtain ⟨n4,K⟩:=gx ((((chL++enc i)++enc q)++sB y).length));(have aw:=lh K);(rw [K] at ar Z);subst ar;(have ah:Hid (Below H.heap.size H w4):=af.out.trans (ybe aO.out (fun j hj=>lT HBr.out.size (ol ax.out j hj).1) af.out.size));(have HS4:Hid (Sl fB w4 w4.heap.size A4 n4 (((chL++enc i)++enc q)++sB y)):=⟨K,ap⟩);(have az:=lh Z);clear ap Z K;(have aa:Hid (Calls prog 154 #[.slice A4 n4 c4] w4 fun e J=>e= .returned (.string (baOf (shaB (((chL++enc i)++enc q)++sB y))))/\Below w4.heap.size w4 J):=ssum_any A4 _ c4 w4.heap.size _ w4 (HG.out.on (bt ac.out ah.out)) HS4.out az.out nl (by have:=T.out;rw [<-aw.out,List.length_append,ybI];omega) (aB.out) (own_hA HS4.out (by rw [<-aw.out,List.length_append,ybI,Y.out];omega)));(rw [<-aP.out] at aa))
    |(go_at_call 154;(with_reducible refine aa.out.mono ?_);rintro e w5 ⟨rfl,ae⟩;(have aD:Hid (Below H.heap.size H w5):=bt ah.out ae);clear ae))
   refine ⟨?rel,?measure⟩;case rel=>exact ⟨k+1,_,by omega,(by (have:=HQ.out;refine congrArg (Value.int .i64) ?_;omega)),rfl,rfl,aD⟩
   case measure=>(have:=HQ.out;simp [intOf]<;>omega)
  ·obtain rfl:k=t - f:=by omega
   have aX:¬((f+(t - f):Nat):Int) < (t:Int):=by omega
   go_wp2;go_ret2;exact ⟨by rw [HY.out];rfl,bt ac.out HBr.out⟩
theorem conv_bytesN {w:World} {B:Nat} {A:Option Addr} {n c:Nat} {xs:List Int} (h:Sl fB w B A n xs):(convert 40 9 (.slice A n c)).run prog w= .ok (.string (baOf xs)) w:=
 ybU (P:=prog) 40 5 9 underlying40 underlying5 underlying9 w B A n c xs h
theorem ydt {xs:List Int} (h:∀b∈xs,0<=b/\b < 256):(baOf xs).size=xs.length:=by rw [<-ybI,ybC h]
def NumS (n:Nat) (w:World) (e:Ending) (w':World):Prop:=
 ∃A m c,e= .returned (.slice A m c)/\Hid (∀V,Below w'.heap.size w' V->(convert 40 9 (.slice A m c)).run prog V= .ok (.string (baOf (enc n))) V)/\Below w.heap.size w w'
theorem numS_any (n:Nat) (w:World) (hn:n < 18446744073709551616):Calls prog 79 #[.int .u64 n] w (NumS n w):=(ycH n w hn).mono fun e J ⟨v,G,L,H⟩=>by
 obtain ⟨A,c,K,_,hs,_⟩:=L.shape;exact ⟨A,_,c,by rw [G,K],fun V M=>conv_bytesN (B:=J.heap.size) (Sl.up ⟨rfl,hs⟩ M nl),H⟩
theorem rinput_any (i q:Nat) (hi:i < 1000) (hq:q < 1000) (x:ByteArray) (hx:x.size=32) (w:World):
 Calls prog 268 #[.int .i64 i,.int .i64 q,.string x] w fun e w'=>e= .returned (.string (baOf (((chL++enc i)++enc q)++sB x)))/\Below w.heap.size w w':=by
 have aj:IntKind.u64.wrap (i:Int)=i:=by unfold IntKind.wrap;simp [IntKind.bits,IntKind.signed];omega
 have ak:IntKind.u64.wrap (q:Int)=q:=by unfold IntKind.wrap;simp [IntKind.bits,IntKind.signed];omega
 have HN:=lh (fun n (hn:n < 1000) W=>numS_any n W om);have HI:=lh hi;have HQ:=lh hq;obtain ⟨si,N⟩:=gx (baOf (enc i));obtain ⟨sq,M⟩:=gx (baOf (enc q));have ai:si.size<=10:=by rw [<-N,ydt (ybG i)];exact ybm i
 have ah:sq.size<=10:=by rw [<-M,ydt (ybG q)];exact ybm q
 have HV:Hid (baOf (((chL++enc i)++enc q)++sB x)=(⟨#[99,104,97,105,110]⟩:ByteArray)++si++sq++x):=by
  show _=_
  apply ba_eqU;rw [sB_app,sB_app,sB_app,<-N,<-M,ybC (ybG i),ybC (ybG q),ybC]
  ·rfl
  ·intro z G
   rcases List.mem_append.1 G with G |G
   ·rcases List.mem_append.1 G with G |G
    ·rcases List.mem_append.1 G with G |G
     ·(rcases List.mem_cons.1 G with rfl |G; ·omega);(rcases List.mem_cons.1 G with rfl |G; ·omega);(rcases List.mem_cons.1 G with rfl |G; ·omega);(rcases List.mem_cons.1 G with rfl |G; ·omega);(rcases List.mem_cons.1 G with rfl |G; ·omega);cases G
     ·exact ybG _ z G
    ·exact ybG _ z G
   ·exact ycw x z G
 have ag:=lh N;have ac:=lh M;have HB:Hid (Below w.heap.size w w):=Below.refl _ _;rw [HV.out];have l1:¬9223372036854775807 < 5+si.size:=by omega
 have l2:¬9223372036854775807 < 5+si.size+sq.size:=by omega
 have l3:¬9223372036854775807 < 5+si.size+sq.size+x.size:=by omega
 clear N M HV hi hq hx;go_enter func268,ntmps268;go_wp2_with fail
 go_region_law (first
  |(go_simp;go_at_call 79;((with_reducible refine (HN.out i HI.out _).mono ?_));rintro e L ⟨A6,m6,c6,rfl,J,U⟩;(have O:Below w.heap.size w L:=Below.trans (B:=w.heap.size) (by repeat (first |exact HB.out |refine Below.drew ?_ |refine below_dN' ?_ _)) (U.mono yaT));(try (have H:=lh (fun (V:World) (hV:Below L.heap.size L V)=>H.out V (Below.trans (B:=K.heap.size) (Below.trans (B:=K.heap.size) (by repeat (first |exact Below.refl _ _ |refine Below.drew ?_ |refine below_dN' ?_ _)) U) (hV.mono U.size)))));(have HB:=lh O);clear O;rw [ag.out] at J;(have af:=J.out L bR);(have ae:=J.out L.drew bR.drew);(try (have aa:=H.out L bR));(try (have Z:=H.out L.drew bR.drew));(try go_simp))
  |(go_simp;go_at_call 79;((with_reducible refine (HN.out q HQ.out _).mono ?_));rintro e K ⟨A7,m7,c7,rfl,H,Y⟩;(have T:Below w.heap.size w K:=Below.trans (B:=w.heap.size) (by repeat (first |exact HB.out |refine Below.drew ?_ |refine below_dN' ?_ _)) (Y.mono yaT));(try (have J:=lh (fun (V:World) (hV:Below K.heap.size K V)=>J.out V (Below.trans (B:=L.heap.size) (Below.trans (B:=L.heap.size) (by repeat (first |exact Below.refl _ _ |refine Below.drew ?_ |refine below_dN' ?_ _)) Y) (hV.mono Y.size)))));(have HB:=lh T);clear T;rw [ac.out] at H;(have af:=H.out K bR);(have ae:=H.out K.drew bR.drew);(try (have aa:=J.out K bR));(try (have Z:=J.out K.drew bR.drew));(try go_simp)))
 all_goals
  go_wp2_with fail
  go_ret;exact ⟨rfl,(by first |exact HB.out |exact HB.out.drew)⟩
theorem byt_in (i q:Nat) (x:ByteArray):∀z∈((chL++enc i)++enc q)++sB x,0<=z/\z < 256:=by
 intro z G;rcases List.mem_append.1 G with G |G
 ·rcases List.mem_append.1 G with G |G
  ·rcases List.mem_append.1 G with G |G
   ·(rcases List.mem_cons.1 G with rfl |G; ·omega);(rcases List.mem_cons.1 G with rfl |G; ·omega);(rcases List.mem_cons.1 G with rfl |G; ·omega);(rcases List.mem_cons.1 G with rfl |G; ·omega);(rcases List.mem_cons.1 G with rfl |G; ·omega);cases G
   ·exact ybG _ z G
  ·exact ybG _ z G
 ·exact ycw x z G
theorem rchain_any (i f t:Nat) (hi:i<=999) (hf:f<=t) (ht:t<=255) (x:ByteArray) (hx:x.size=32) (w:World):
 Calls prog 249 #[.int .i64 i,.int .i64 f,.int .i64 t,.string x] w fun e w'=>e= .returned (.string (chF i f (t - f) x))/\Below w.heap.size w w':=by
 have af:Hid (∀k,(chF i f k x).size=32):=yd7 i f x hx;have HI:=lh hi;have am:Hid (chF i f 0 x=x):=rfl;have HBW:Hid (Below w.heap.size w w):=Below.refl _ _;clear hi hx;go_enter func249,ntmps249;go_upto_region 2 with fail
 go_loopw [3,9] (fun v s wr=>∃(k:Nat) (y:ByteArray),k<=t - f/\s= .int .i64 ((f+k:Nat):Int)/\v= .string y/\Hid (chF i f k x=y)/\Hid (Below w.heap.size w wr)) (fun _ s _=>t - (intOf s).toNat)
 case atStart=>exact ⟨0,x,by omega,rfl,rfl,am,HBW⟩
 case round=>
  obtain ⟨k,y,hk,rfl,rfl,HY,HBr⟩:=hrel;have L:Hid (y.size=32):=by show _=_;rw [<-HY.out];exact af.out k
  by_cases hlt:k < t - f
  ·obtain ⟨q,hq⟩:=gx (f+k);have HQ:=lh hq;have ap:q < t:=by omega
   have ao:(q:Int) < (t:Int):=by omega
   rw [hq];have M:=lh (rinput_any i q (by have:=HI.out;omega) om y L.out wr)
   have ac:Hid (chF i f (k+1) x=baOf (shaB (((chL++enc i)++enc q)++sB y))):=by
    show _=_;rw [chF,HY.out,chL_eq,HQ.out]
   obtain ⟨G,H⟩:=gx (((chL++enc i)++enc q)++sB y)
   have U:G.length<=60:=by
    rw [<-H,List.length_append,List.length_append,List.length_append,ybI,L.out];have h1:=ybm i;have h2:=ybm q;show 5+_+_+32<=60;omega
   have J:∀z∈G,0<=z/\z < 256:=by rw [<-H];exact byt_in i q y
   have ae:Hid (sB (baOf G)=G):=ybC J;have N:Hid ((baOf G).size<=60):=by show _<=_;rw [ydt J];exact U
   rw [H] at M ac;have ak:=lh J;obtain ⟨zt,W⟩:=gx (baOf G);rw [W] at M ae N;clear hq H J U W
   go_wp2_with (first
    |(go_at_call 268;(with_reducible refine M.out.mono ?_);rintro e w3 ⟨rfl,Y⟩;(have aj:Hid (Below w.heap.size w w3):=bt HBr.out Y);clear Y)
    |((with_reducible refine yb0 (o:=⟨some 20,_,_,_,_,_⟩) rfl (.tmp 19) rfl zt rfl ?_);intro cb K O ai T;(have ah:Hid (Below w.heap.size w K):=bt aj.out T.out);(have Z:Hid (Calls prog 123 #[.slice (some ⟨w3.heap.size,0,none⟩) zt.size cb] K fun e w'=>e= .returned (.string (baOf (shaB G)))/\Below K.heap.size K w'):=ydl _ _ cb K.heap.size G K (ae.out▸O.out) nl (lT N.out om) ak.out);(rw [<-ac.out] at Z);clear O ai T)
    |(go_at_call 123;(with_reducible refine Z.out.mono ?_);rintro e W2 ⟨rfl,aa⟩;(have ag:Hid (Below w.heap.size w W2):=bt ah.out aa);clear aa))
   refine ⟨?rel,?measure⟩;case rel=>exact ⟨k+1,_,by omega,(by (have:=HQ.out;refine congrArg (Value.int .i64) ?_;omega)),rfl,rfl,ag⟩
   case measure=>(have:=HQ.out;simp [intOf]<;>omega)
  ·obtain rfl:k=t - f:=by omega
   have aq:¬((f+(t - f):Nat):Int) < (t:Int):=by omega
   go_wp2;go_ret;exact ⟨by rw [HY.out];rfl,HBr.out⟩
abbrev pbL:List Int:=[112,117,98,108,105,99]
theorem pbL_eq:sB "public".toUTF8=pbL:=by decide+kernel
theorem bit_M {b:Int} {β:Nat} (G:BitN b β):∃M:Nat,2 ^ β - 1=M/\1<=M/\M<=15/\bsF β=(M:Int)+1/\lsF β=(M:Int)/\(2 ^ β:Nat)=M+1:=by
 rcases G with ⟨_,rfl⟩ |⟨_,rfl⟩ |⟨_,rfl⟩
 ·exact ⟨1,rfl,by omega,by omega,rfl,rfl,rfl⟩
 ·exact ⟨3,rfl,by omega,by omega,rfl,rfl,rfl⟩
 ·exact ⟨15,rfl,by omega,by omega,rfl,rfl,rfl⟩
theorem ydI (β:Nat) (G:List Int) (ps:List ByteArray) (h:∀s∈ps,s.size=32) (n:Nat) (hn:n<=ps.length):∀s∈endsF β G ps n,s.size=32:=by
 intro s hs;unfold endsF at hs;obtain ⟨i,hi,rfl⟩:=List.mem_map.1 hs;rw [List.mem_range] at hi;refine yd7 _ _ _ ?_ _;rw [List.getD_eq_getElem?_getD,List.getElem?_eq_getElem om];exact h _ (List.getElem_mem _)
theorem jnL_len32 (ps:List ByteArray) (h:∀s∈ps,s.size=32):(jnL ps).length=32*ps.length:=by
 induction ps with
 |nil=>rfl
 |cons a t ih=>
  rw [show jnL (a::t)=sB a++jnL t from rfl,List.length_append,ybI,h a List.mem_cons_self,ih (fun s hs=>h s (List.mem_cons_of_mem _ hs)),List.length_cons];omega
theorem rends_any (b:Int) (β:Nat) (hb:BitN b β) (Ad Ap:Option Addr) (nd J cd cp Bd:Nat) (H:List Int) (ps:List ByteArray) (w:World) (hd:Sl I w Bd Ad nd H) (hp:Sl fT w Bd Ap J ps) (hB:Bd<=w.heap.size) (hn:J=nd) (aN:J<=300) (ah:∀d∈H,0<=d/\d<=2 ^ β - 1) (ac:∀s∈ps,s.size=32):
 Calls prog 207 #[.agg (cPm b),.slice Ad nd cd,.slice Ap J cp] w fun e w'=>e= .returned (.string (baOf (pbL++jnL (endsF β H ps J))))/\Below w.heap.size w w':=by
 obtain ⟨M,am,aO,aP,aA,aF,aq⟩:=bit_M hb;have ap:((2:Int) ^ β)=((2 ^ β:Nat):Int):=by simp
 have ai:Hid (∀d∈H,0<=d/\d<=(M:Int)):=fun d h=>by
  have:=ah d h;rw [ap,aq] at this;omega
 have HL:=lh (fun W=>ycl b β hb W);rw [aA] at HL;have aL:IntKind.i64.wrap (M:Int)=M:=IntWalk.i64_in _ om;have HB:Hid (Below w.heap.size w (w.alloc (.cells (cPm b) 233))):=bl;obtain ⟨L,N⟩:∃L:World,L=w.alloc (.cells (cPm b) 233):=⟨_,rfl⟩
 have aw:L.heap.size=w.heap.size+1:=by rw [N];simp
 have ay:L.heap[w.heap.size]? =some (.cells (cPm b) 233 (0,0)):=by rw [N];exact zy w _
 have HC:Hid (∀V,Below (w.heap.size+1) L V->V.cell? ⟨w.heap.size,0,none⟩=some (.int .i64 b)/\V.cell? ⟨w.heap.size,1,none⟩=some (.int .i64 32)):=fun V O=>by
  have q:=(O.block w.heap.size (Nat.lt_succ_self _)).trans ay;refine ⟨?_,?_⟩<;>(rw [cell_of_row V _ _ _ _ _ q];rfl)
 rw [<-N] at HB;have HS:=lh aw;have HWE:=lh N;have HB1:Hid (Below (w.heap.size+1) L L):=Below.refl _ _;clear ay aw N;have HD:Hid (∀V,Below (w.heap.size+1) L V->Sl I V Bd Ad nd H/\Sl fT V Bd Ap J ps):=fun V O=>⟨(hd.up HB.out hB).up O (Nat.le_succ_of_le hB),(hp.up HB.out hB).up O (Nat.le_succ_of_le hB)⟩;have aE:=lh ac;have au:Hid (H.length=nd):=hd.1;have HPL:Hid (ps.length=J):=hp.1;have aI:=lh am;have HN:=lh hn;have aG:Hid (∀k,k<=J->(endsF β H ps k).length=k/\∀s∈endsF β H ps k,s.size=32):=fun k hk=>⟨ycQ _ _ _ _,ydI β H ps ac k (by rw [hp.1];exact hk)⟩;have HU0:Hid (baOf (pbL++jnL (endsF β H ps 0))=⟨#[112,117,98,108,105,99]⟩):=by show baOf (pbL++jnL [])=_;decide+kernel
 clear hd hp ah ac am aA aF aq ap hb hn;go_enter func207,ntmps207;go_upto_region 1 with fail
 rw [<-HWE.out];go_upto_region 3 with fail
 go_loopw [7,11] (fun u i wr=>∃(k:Nat) (y:ByteArray),k<=J/\i= .int .i64 k/\u= .string y/\Hid (baOf (pbL++jnL (endsF β H ps k))=y)/\Hid (Below (w.heap.size+1) L wr)) (fun _ i _=>J - (intOf i).toNat)
 case atStart=>exact ⟨0,_,by omega,rfl,rfl,HU0,HB1⟩
 case round=>
  clear HU0 HB1;obtain ⟨k,y,hk,rfl,rfl,HY,HBr⟩:=hrel
  by_cases hlt:k < J
  ·have aD:(k:Int) < (J:Int):=by omega
   have aK:(k:Int) < (nd:Int):=by rw [<-HN.out];exact aD
   have aJ:(0:Int)<=(k:Int):=by omega
   obtain ⟨bd,od,dI,ax,_,T,_⟩:=(HD.out wr HBr.out).1.2.at_ (k:=k) (by rw [au.out,<-HN.out];exact hlt);obtain ⟨bp,op,x,aj,_,Z,_⟩:=(HD.out wr HBr.out).2.2.at_ (k:=k) (by rw [HPL.out];exact hlt);obtain ⟨d,rfl⟩:∃d:Nat,dI=(d:Int):=⟨dI.toNat,by have:=(ai.out dI (List.mem_of_getElem? T)).1;omega⟩
   have aH:d<=M:=by have:=(ai.out _ (List.mem_of_getElem? T)).2;omega
   have Y:x.size=32:=aE.out x (List.mem_of_getElem? Z)
   have HK:Hid (∀V,Below (w.heap.size+1) L V->V.cell? ⟨w.heap.size,0,none⟩=some (.int .i64 b)/\V.cell? ⟨w.heap.size,1,none⟩=some (.int .i64 32)/\V.cell? ⟨bd,od+k,none⟩=some (.int .i64 (d:Int))/\V.cell? ⟨bp,op+k,none⟩=some (.string x)):=fun V O=>by
    obtain ⟨c0,c1⟩:=HC.out V O;obtain ⟨b2,o2,x2,e2,_,g2,k2⟩:=(HD.out V O).1.2.at_ (k:=k) (by rw [au.out,<-HN.out];exact hlt);obtain ⟨b3,o3,x3,e3,_,g3,k3⟩:=(HD.out V O).2.2.at_ (k:=k) (by rw [HPL.out];exact hlt);rw [ax] at e2;cases e2
    rw [aj] at e3;cases e3
    rw [T] at g2;cases g2
    rw [Z] at g3;cases g3
    exact ⟨c0,c1,k2,k3⟩
   have ao:=lh (fun W=>rchain_any k d M om aH om x Y W)
   have az:Hid (baOf (pbL++jnL (endsF β H ps (k+1)))=y++chF k d (M - d) x):=by
    show _=_
    apply ba_eqU
    have aa:∀l,Byt (pbL++jnL l):=fun l z G=>by
     rcases List.mem_append.1 G with G |G
     ·(rcases List.mem_cons.1 G with rfl |G; ·omega);(rcases List.mem_cons.1 G with rfl |G; ·omega);(rcases List.mem_cons.1 G with rfl |G; ·omega);(rcases List.mem_cons.1 G with rfl |G; ·omega);(rcases List.mem_cons.1 G with rfl |G; ·omega);(rcases List.mem_cons.1 G with rfl |G; ·omega);cases G
     ·exact ycN _ z G
    rw [sB_app,<-HY.out,ybC (aa _),ybC (aa _),endsF_succ,yd6,List.append_assoc,ybw T,ybw Z,aI.out];rfl
   have aC:y.size<=10000:=by
    have h1:=aG.out k hk;have h2:=jnL_len32 _ h1.2;rw [h1.1] at h2
    have aa:Byt (pbL++jnL (endsF β H ps k)):=fun z G=>by
     rcases List.mem_append.1 G with G |G
     ·(rcases List.mem_cons.1 G with rfl |G; ·omega);(rcases List.mem_cons.1 G with rfl |G; ·omega);(rcases List.mem_cons.1 G with rfl |G; ·omega);(rcases List.mem_cons.1 G with rfl |G; ·omega);(rcases List.mem_cons.1 G with rfl |G; ·omega);(rcases List.mem_cons.1 G with rfl |G; ·omega);cases G
     ·exact ycN _ z G
    rw [<-HY.out,ydt aa,List.length_append,h2];show 6+_<=_;omega
   have ae:=yd7 k d x Y (M - d);obtain ⟨cv,ag⟩:=gx (chF k d (M - d) x);rw [ag] at ao az ae;have aM:¬9223372036854775807 < y.size+cv.size:=by omega
   have HBc:=HBr;subst ax;subst aj;clear T Z Y ae ag aC;go_upto_region 5 with fail
   refine rH (S:=(fun w'=>w'.cell? ⟨w.heap.size,0,none⟩=some (.int .i64 b)/\w'.cell? ⟨w.heap.size,1,none⟩=some (.int .i64 32)/\w'.cell? ⟨bd,od+k,none⟩=some (.int .i64 (d:Int))/\w'.cell? ⟨bp,op+k,none⟩=some (.string x))) ya9 yao (fun af=>?_)
   (iterate 7 refine tkA ?_)
   refine tkY 9 ?_;refine tkY 10 ?_;refine tkY 11 ?_;refine tkY 12 ?_;refine rd1 7 (fun K hK=>?_)
   (go_simp;go_at_call 250;(with_reducible refine (HL.out _).mono ?_);rintro e w4 ⟨rfl,ar⟩;(have HBc:Hid (Below (w.heap.size+1) L w4):=HBr.out.trans (Below.mono (Below.trans (B:=wr.heap.size) yaF ar) (HS.out▸HBr.out.size)));clear ar;go_wp2_with fail)
   refine hK.out _ _ yao (fun U=>?_);clear hK K af
   try simp only [pt]
   refine tkY 8 ?_;refine rd1 13 (fun K hK=>?_)
   (go_simp;go_at_call 249;(with_reducible refine (ao.out _).mono ?_);rintro e w5 ⟨rfl,ak⟩;(have HBd:Hid (Below (w.heap.size+1) L w5):=HBc.out.trans (ak.mono (HS.out▸HBc.out.size)));clear ak;go_wp2_with fail)
   refine hK.out _ _ yao (fun aB=>?_);clear hK K U
   try simp only [pt]
   (iterate 2 refine tkA ?_)
   refine wpAnyH_done ya9 ?_ _;go_wp2_with fail;refine ⟨?rel,?measure⟩;case rel=>exact ⟨k+1,y++cv,by omega,by go_num,rfl,az,HBd⟩
   case measure=>(simp [intOf]<;>omega)
  ·obtain rfl:k=J:=by omega
   go_wp2;go_ret;exact ⟨by rw [<-HY.out];rfl,HB.out.trans (HBr.out.mono (Nat.le_succ _))⟩
theorem rcheck_any (b:Int) (β:Nat) (G:BitN b β) (w:World):Calls prog 248 #[.agg (cPm b)] w fun e H=>e= .returned (.int .i64 (cNI β))/\Below w.heap.size w H:=by
 rcases G with ⟨rfl,rfl⟩ |⟨rfl,rfl⟩ |⟨rfl,rfl⟩
 ·exact rcheck_1 w
 ·exact rcheck_2 w
 ·exact rcheck_4 w
theorem bit_T {b:Int} {β:Nat} (G:BitN b β):∃T:Nat,mN β+cN β=T/\60<=T/\T<=265/\mNI β+cNI β=(T:Int):=by
 rcases G with ⟨_,rfl⟩ |⟨_,rfl⟩ |⟨_,rfl⟩
 ·exact ⟨265,rfl,by omega,by omega,rfl⟩
 ·exact ⟨133,rfl,by omega,by omega,rfl⟩
 ·exact ⟨67,rfl,by omega,by omega,rfl⟩
theorem rparts_any (b:Int) (β:Nat) (hb:BitN b β) (A:Option Addr) (n c B:Nat) (ps:List ByteArray) (w:World) (hp:Sl fT w B A n ps) (hB:B<=w.heap.size) (hn:n<=1000) (O:∀s∈ps,s.size=32):
 Calls prog 206 #[.agg (cPm b),.slice A n c] w fun e M=>e= .returned (.bool ((n:Int)==((mN β+cN β:Nat):Int)))/\Below w.heap.size w M:=by
 obtain ⟨T,z,af,ah,K⟩:=bit_T hb;rw [z];have HM:=lh (fun W=>ycm b β hb W);have HK:=lh (fun W=>rcheck_any b β hb W);obtain ⟨m,hm⟩:=gx (mNI β);obtain ⟨k0,U⟩:=gx (cNI β);rw [hm] at HM K;rw [U] at HK K;have ai:IntKind.i64.wrap (m+k0)=(T:Int):=by rw [K];exact IntWalk.i64_in _ om
 have aa:=lh O;have HB:Hid (Below w.heap.size w (w.alloc (.cells (cPm b) 233))):=bl;obtain ⟨G,H⟩:∃G:World,G=w.alloc (.cells (cPm b) 233):=⟨_,rfl⟩
 have Y:G.heap.size=w.heap.size+1:=by rw [H];simp
 have Z:G.heap[w.heap.size]? =some (.cells (cPm b) 233 (0,0)):=by rw [H];exact zy w _
 have HC:Hid (∀V,Below (w.heap.size+1) G V->V.cell? ⟨w.heap.size,0,none⟩=some (.int .i64 b)/\V.cell? ⟨w.heap.size,1,none⟩=some (.int .i64 32)):=fun V hv=>by
  have q:=(hv.block w.heap.size (Nat.lt_succ_self _)).trans Z;refine ⟨?_,?_⟩<;>(rw [cell_of_row V _ _ _ _ _ q];rfl)
 rw [<-H] at HB;have HS:=lh Y;have HWE:=lh H;have HB1:Hid (Below (w.heap.size+1) G G):=Below.refl _ _;clear Z Y H;have HP:Hid (∀V,Below (w.heap.size+1) G V->Sl fT V B A n ps):=fun V hv=>(hp.up HB.out hB).up hv (Nat.le_succ_of_le hB);have HPL:Hid (ps.length=n):=hp.1;clear hp O z K hm U;go_enter func206,ntmps206;go_upto_region 1 with fail
 rw [<-HWE.out];go_upto_region 2 with fail
 go_loopw [9] (fun i wr=>(∃k:Nat,k<=n/\i= .int .i64 k)/\G=wr) (fun i _=>n - (intOf i).toNat)
 case atStart=>exact ⟨⟨0,by omega,rfl⟩,rfl⟩
 case round=>
  obtain ⟨⟨k,hk,rfl⟩,rfl⟩:=hrel
  by_cases hlt:k < n
  ·have ac:(k:Int) < (n:Int):=by omega
   have ag:(0:Int)<=(k:Int):=by omega
   obtain ⟨bp,op,x,rfl,_,N,hc⟩:=(HP.out G HB1.out).2.at_ (k:=k) (by rw [HPL.out];exact hlt);have L:x.size=32:=aa.out x (List.mem_of_getElem? N);have ae:((x.size:Int) != 32)=false:=by simp [L]
   clear N L;go_wp2;refine ⟨?rel,?measure⟩;case rel=>exact ⟨⟨k+1,by omega,by go_num⟩,by first |rfl |trivial⟩
   case measure=>(simp [intOf]<;>omega)
  ·obtain rfl:k=n:=by omega
   obtain ⟨c0,c1⟩:=HC.out G HB1.out;have HBc:=HB1;go_wp2_with fail
   go_region_held3 (fun M=>M.cell? ⟨w.heap.size,0,none⟩=some (.int .i64 b)/\M.cell? ⟨w.heap.size,1,none⟩=some (.int .i64 32)) (first |exact HC.out _ HBc.out |go_keep) (first
    |(go_at_call 247;(with_reducible (refine (HM.out _).mono ?_));rintro e w4 ⟨rfl,J⟩;(have HBc:=lh (HBc.out.trans (Below.mono (Below.trans yaN J) (HS.out▸HBc.out.size))));clear J)
    |(go_at_call 248;(with_reducible (refine (HK.out _).mono ?_));rintro e w4 ⟨rfl,J⟩;(have HBc:=lh (HBc.out.trans (Below.mono (Below.trans yaN J) (HS.out▸HBc.out.size))));clear J))
   go_wp2;go_ret;exact ⟨rfl,HB.out.trans (HBc.out.mono (Nat.le_succ _))⟩
theorem ydU {w:World} {ops:Array Oper} {o:Oper} {a:Act} {K:Act->World->Prop} {Q:Exit->Act->World->Prop} {E:Prop} (x:Operand) (L:o.op= .convert 9 40 x) (G:o.guard=none) (s:ByteArray) (H:a.eval x= .string s)
 (h:∀c W,Hid (Sl fB W W.heap.size (some ⟨w.heap.size,0,none⟩) s.size (sB s))->Hid (s.size<=c)->Hid (Below w.heap.size w W)->K (a.put o.dst (.slice (some ⟨w.heap.size,0,none⟩) s.size c)) W):if Region.wanted o (yielded ops a.tmps)=true then Oper.wp prog o a w K Q else E:=by
 have J:Region.wanted o (yielded ops a.tmps)=true:=by simp [Region.wanted,G]
 rw [if_pos J];unfold Oper.wp execOp;simp only [L,H,Sem.run_bind,run_bytes_of_string (P:=prog) w 9 40 5 s underlying9 underlying40 underlying5,Result.andThen_ok];refine h _ _ (ydS (zy w.drew _) sI) (grownCap_ge w s.size 0 _) ?_;exact (Below.drew bR).alloc nl _
theorem rrecover_any (b:Int) (β:Nat) (hb:BitN b β) (s:ByteArray) (hs:s.size=32) (A:Option Addr) (n c B:Nat) (ps:List ByteArray) (w:World) (hp:Sl fT w B A n ps) (hB:B<=w.heap.size) (hn:n=mN β+cN β) (ae:∀s∈ps,s.size=32):
 Calls prog 161 #[.agg (cPm b),.string s,.slice A n c] w fun e N=>e= .returned (.string (pubF β (dgF β (sB s)) ps))/\Below w.heap.size w N:=by
 obtain ⟨T,aK,aG,aI,aJ⟩:=bit_T hb;have HD:=lh (fun W=>rdigits_any b β hb s hs W);have aA:ps.length=n:=hp.1
 have HE:Hid (∀W v,Below w.heap.size w W->Own I 3 W w.heap.size v (dgF β (sB s))->∃Z cd,v= .slice Z n cd/\Calls prog 207 #[.agg (cPm b),.slice Z n cd,.slice A n c] W fun e N=>e= .returned (.string (baOf (pbL++jnL (endsF β (dgF β (sB s)) ps n))))/\Below W.heap.size W N):=fun W v au ho=>by
  obtain ⟨Z,cd,hv,_,aF,_⟩:=ho.shape;rw [dgF_len,<-hn] at hv;exact ⟨Z,cd,hv,rends_any b β hb Z A n n cd c W.heap.size _ ps W ⟨by rw [dgF_len,hn],aF⟩ ((hp.up au hB).more' (lT hB au.size)) nl rfl om (dgF_rng β _) ae⟩
 have O:∀z∈endsF β (dgF β (sB s)) ps n,z.size=32:=ydI β _ ps ae n om;have af:=jnL_len32 _ O;rw [ycQ] at af
 have J:Byt (pbL++jnL (endsF β (dgF β (sB s)) ps n)):=fun z G=>by
  rcases List.mem_append.1 G with G |G
  ·(rcases List.mem_cons.1 G with rfl |G; ·omega);(rcases List.mem_cons.1 G with rfl |G; ·omega);(rcases List.mem_cons.1 G with rfl |G; ·omega);(rcases List.mem_cons.1 G with rfl |G; ·omega);(rcases List.mem_cons.1 G with rfl |G; ·omega);(rcases List.mem_cons.1 G with rfl |G; ·omega);cases G
  ·exact ycN _ z G
 have HV:Hid (pubF β (dgF β (sB s)) ps=baOf (shaB (pbL++jnL (endsF β (dgF β (sB s)) ps n)))):=by
  show _=_;unfold pubF;rw [pbL_eq,aA]
 have ai:Hid ((pbL++jnL (endsF β (dgF β (sB s)) ps n)).length<=10000):=by
  show _<=_;rw [List.length_append,af];show 6+_<=_;omega
 obtain ⟨U,ao⟩:=gx (pbL++jnL (endsF β (dgF β (sB s)) ps n));rw [ao] at HE HV ai J;have az:Hid (sB (baOf U)=U):=ybC J;have aM:=lh J;have ax:Hid ((baOf U).size<=10000):=by show _<=_;rw [ydt J];exact ai.out
 obtain ⟨zt,am⟩:=gx (baOf U);rw [am] at HE az ax;rw [HV.out];obtain ⟨rs,ag⟩:=gx (baOf (shaB U));have aD:Hid (∀(W:World) A' c',Sl fB W W.heap.size A' zt.size (sB zt)->Calls prog 123 #[.slice A' zt.size c'] W fun e N=>e= .returned (.string rs)/\Below W.heap.size W N):=fun W A' c' h=>ag▸ydl A' _ c' W.heap.size U W (az.out▸h) nl (lT ax.out om) J;rw [ag];have HB:Hid (Below w.heap.size w (w.alloc (.cells (cPm b) 233))):=bl;obtain ⟨H,M⟩:∃H:World,H=w.alloc (.cells (cPm b) 233):=⟨_,rfl⟩
 have O:H.heap.size=w.heap.size+1:=by rw [M];simp
 have aw:H.heap[w.heap.size]? =some (.cells (cPm b) 233 (0,0)):=by rw [M];exact zy w _
 have HC:Hid (∀V,Below (w.heap.size+1) H V->V.cell? ⟨w.heap.size,0,none⟩=some (.int .i64 b)/\V.cell? ⟨w.heap.size,1,none⟩=some (.int .i64 32)):=fun V hv=>by
  have q:=(hv.block w.heap.size (Nat.lt_succ_self _)).trans aw;refine ⟨?_,?_⟩<;>(rw [cell_of_row V _ _ _ _ _ q];rfl)
 rw [<-M] at HB;have HS:=lh O;have HWE:=lh M;have HB1:Hid (Below (w.heap.size+1) H H):=Below.refl _ _;clear aw O M;clear hp hB hn ae aK aG aI aJ aA O af J ao am ag hb hs;go_enter func161,ntmps161;go_upto_region 1 with fail
 rw [<-HWE.out];obtain ⟨c0,c1⟩:=HC.out H HB1.out;go_wp2_with fail;refine rH (S:=(fun N=>N.cell? ⟨w.heap.size,0,none⟩=some (.int .i64 b)/\N.cell? ⟨w.heap.size,1,none⟩=some (.int .i64 32))) ya9 yaQ (fun ah=>?_)
 (iterate 3 refine tkA ?_)
 refine tkY 4 ?_;refine rd1 3 (fun K L=>?_)
 (go_simp;go_at_call 208;(with_reducible refine (HD.out _).mono ?_);rintro e w4 ⟨v4,rfl,ar,aq⟩;(have HBx:Hid (Below (w.heap.size+1) H w4):=Below.trans (B:=w.heap.size+1) yaF (Below.mono aq (Nat.le_of_eq HS.out.symm)));(obtain ⟨Z,cd,rfl,aB⟩:=HE.out w4 v4 (HB.out.trans (HBx.out.mono (Nat.le_succ _))) (ybR ar (by show _<=H.heap.size;rw [HS.out];omega)));(have aE:=lh aB);clear ar aq aB;go_wp2_with fail)
 refine L.out _ _ yaQ (fun ac=>?_);clear L K ah
 try simp only [pt]
 refine rd1 5 (fun K L=>?_)
 (go_simp;go_at_call 207;(with_reducible refine aE.out.mono ?_);rintro e w5 ⟨rfl,ap⟩;(have HBx:Hid (Below (w.heap.size+1) H w5):=HBx.out.trans (Below.mono ap (HS.out▸HBx.out.size)));clear ap;go_wp2_with fail)
 refine L.out _ _ yaQ (fun aa=>?_);clear L K ac
 try simp only [pt]
 refine rd1 6 (fun K L=>?_)
 ((refine ydU (.tmp 12) rfl rfl zt rfl ?_);intro cb W6 aj aH ak;(have HBx:Hid (Below (w.heap.size+1) H W6):=HBx.out.trans (Below.mono ak.out (HS.out▸HBx.out.size)));(have aL:=lh (aD.out W6 _ cb aj.out));clear aj aH ak)
 refine L.out _ _ yaQ (fun Y=>?_);clear L K aa
 try simp only [pt]
 refine rd1 7 (fun K L=>?_)
 (go_simp;go_at_call 123;(with_reducible refine aL.out.mono ?_);rintro e w7 ⟨rfl,ay⟩;(have HBx:Hid (Below (w.heap.size+1) H w7):=HBx.out.trans (Below.mono ay (HS.out▸HBx.out.size)));clear ay;go_wp2_with fail)
 refine L.out _ _ yaQ (fun aC=>?_);clear L K Y
 try simp only [pt]
 refine tkY 8 ?_;refine wpAnyH_done ya9 ?_ _;go_wp2_with fail;go_ret;exact ⟨rfl,HB.out.trans (HBx.out.mono (Nat.le_succ _))⟩
def sgOk (b h:Int):Bool:=decide ((b=1∨b=2∨b=4)/\0<=h/\h<=8)
abbrev cSc (b h:Int):Array Value:=#[.int .i64 b,.int .i64 h]
theorem sgvalid_any (b h:Int) (w:World):Calls prog 201 #[.agg (cSc b h)] w fun e M=>e= .returned (.bool (sgOk b h))/\Below w.heap.size w M:=by
 have HB:Hid (Below w.heap.size w (w.alloc (.cells (cSc b h) 26))):=bl;have Y:∀w,(Instr.index 303 (.agg #[.int .i64 1,.int .i64 2,.int .i64 4]) (.int .i64 0)).run prog w= .ok (.int .i64 1) w:=fun _=>by kernel_rfl
 have W:∀w,(Instr.index 303 (.agg #[.int .i64 1,.int .i64 2,.int .i64 4]) (.int .i64 1)).run prog w= .ok (.int .i64 2) w:=fun _=>by kernel_rfl
 have Z:∀w,(Instr.index 303 (.agg #[.int .i64 1,.int .i64 2,.int .i64 4]) (.int .i64 2)).run prog w= .ok (.int .i64 4) w:=fun _=>by kernel_rfl
 by_cases h0:h < 0
 ·have G:Hid (sgOk b h=false):=by show _=_;unfold sgOk;rw [decide_eq_false];omega
  rw [G.out];go_enter func201,ntmps201;go_wp2;go_ret;exact ⟨rfl,HB.out⟩
 ·by_cases U:8 < h
  ·have G:Hid (sgOk b h=false):=by show _=_;unfold sgOk;rw [decide_eq_false];omega
   rw [G.out];go_enter func201,ntmps201;go_wp2;go_ret;exact ⟨rfl,HB.out⟩
  ·by_cases L:b=1∨b=2∨b=4
   ·have G:Hid (sgOk b h=true):=by show _=_;unfold sgOk;rw [decide_eq_true];omega
    rw [G.out];rcases L with rfl |rfl |rfl
    all_goals
     go_enter func201,ntmps201;go_wp2;refine wp_loop_rounds 3 ?_;rw [rounds_succ];go_wp2
     (try rw [rounds_succ])
     go_wp2
     (try rw [rounds_succ])
     go_wp2;go_ret;exact ⟨rfl,HB.out⟩
   ·have G:Hid (sgOk b h=false):=by show _=_;unfold sgOk;rw [decide_eq_false];omega
    rw [G.out];have K:¬b=1:=by omega
    have J:¬b=2:=by omega
    have H:¬b=4:=by omega
    have O:(b==1)=false:=by simp [K]
    have T:(b==2)=false:=by simp [J]
    have N:(b==4)=false:=by simp [H]
    go_enter func201,ntmps201;go_wp2;refine wp_loop_rounds 4 ?_;rw [rounds_succ];go_wp2;rw [rounds_succ];go_wp2;rw [rounds_succ];go_wp2;rw [rounds_succ];go_wp2;go_ret;exact ⟨rfl,HB.out⟩
theorem rgvalid_any (b h:Int) (w:World):Calls prog 205 #[.agg (cSc b h)] w fun e M=>e= .returned (.bool (sgOk b h))/\Below w.heap.size w M:=by
 have HB:Hid (Below w.heap.size w (w.alloc (.cells (cSc b h) 26))):=bl;have L:b=1∨b=2∨b=4∨(¬b=1/\¬b=2/\¬b=4):=by omega
 have J:Hid (sgOk b h=((b==1||b==2||b==4)&&decide (0<=h)&&decide (h<=8))):=by
  show _=_;unfold sgOk;rw [Bool.eq_iff_iff];simp [or_assoc,and_assoc]
 rw [J.out];rcases L with rfl |rfl |rfl |⟨T,O,N⟩
 all_goals
  by_cases hd:0<=h
  ·by_cases K:h<=8
   ·have G:decide (0<=h)=true:=by simp [hd]
    have H:decide (h<=8)=true:=by simp [K]
    go_enter func205,ntmps205;go_wp2;go_ret;exact ⟨by (try simp only [J.out]);simp [*],HB.out⟩
   ·have G:decide (0<=h)=true:=by simp [hd]
    have H:decide (h<=8)=false:=by simp;omega
    go_enter func205,ntmps205;go_wp2;go_ret;exact ⟨by simp [hd,H],HB.out⟩
  ·have G:decide (0<=h)=false:=by simp;omega
   go_enter func205,ntmps205;go_wp2;go_ret;exact ⟨by simp [G],HB.out⟩
open Go.Shelf
def Tryz.lays156_ren:Go.Shelf.Ren:=⟨fun |156=>267 |165=>272 |166=>273 |169=>274 |240=>275 |241=>276 |276=>277 |277=>278 |n=>n,fun |31=>24 |9=>9 |3=>3 |4=>4 |0=>0 |20=>20 |72=>327 |76=>330 |70=>325 |37=>40 |75=>329 |127=>332 |164=>333 |5=>5 |80=>240 |n=>n,fun |n=>n⟩
theorem Tryz.lays156:Go.Proofs.Lays.n156 prog Tryz.lays156_ren:={
 mixed:=by kernel_rfl
 f156:=func267.trans (congrArg some ya9)
 f165:=func272.trans (congrArg some ya9)
 f166:=func273.trans (congrArg some ya9)
 f169:=func274.trans (congrArg some ya9)
 f240:=func275.trans (congrArg some ya9)
 f241:=func276.trans (congrArg some ya9)
 f276:=func277.trans (congrArg some ya9)
 f277:=func278.trans (congrArg some ya9)
 t0:=underlying0
 a0:=isAgg0
 z0:=sizeOf0
 v0:=zeroValue0
 t3:=underlying3
 a3:=isAgg3
 z3:=sizeOf3
 v3:=zeroValue3
 t4:=underlying4
 a4:=isAgg4
 z4:=sizeOf4
 v4:=zeroValue4
 t9:=underlying9
 a9:=isAgg9
 z9:=sizeOf9
 v9:=zeroValue9
 t20:=underlying20
 a20:=isAgg20
 z20:=sizeOf20
 v20:=zeroValue20
 t31:=underlying24
 a31:=isAgg24
 z31:=sizeOf24
 v31:=zeroValue24
 t37:=underlying40
 a37:=isAgg40
 z37:=sizeOf40
 v37:=zeroValue40
 t70:=underlying325
 a70:=isAgg325
 z70:=sizeOf325
 v70:=zeroValue325
 t72:=underlying327
 a72:=isAgg327
 z72:=sizeOf327
 v72:=zeroValue327
 t75:=underlying329
 a75:=isAgg329
 z75:=sizeOf329
 v75:=zeroValue329
 t76:=underlying330
 a76:=isAgg330
 z76:=sizeOf330
 v76:=zeroValue330
 t127:=underlying332
 a127:=isAgg332
 z127:=sizeOf332
 v127:=zeroValue332
 t164:=underlying333
 a164:=isAgg333
 z164:=sizeOf333
 v164:=zeroValue333}
theorem Tryz.Builder_Extra_156:Builder.Extra prog Tryz.lays156_ren:={
 sizeBuilder:=by kernel_rfl
 liesBuilder:=by kernel_rfl
 t5:=underlying5
 a5:=isAgg5
 z5:=sizeOf5
 v5:=zeroValue5
 infoByte:=by kernel_rfl
 cellsByte:=by kernel_rfl
 sizeByte:=by kernel_rfl
 neB5:=by decide}
open Go.RowKit in
theorem Tryz.strings_Join (J o c:Nat) (xs:List ByteArray) (G:ByteArray) (w:World) (H:∀(j:Nat) x,xs[j]? =some x->w.cell? ⟨J,o+j,none⟩=some (.string x)) (M:J < w.heap.size) (O:xs.length<=140737488355328) (K:xs.length<=c) (L:(Lib.join (xs.map (·.data.toList)) G.data.toList).length<=140737488355328):
 Calls prog 267 #[.slice (some ⟨J,o,none⟩) xs.length c,.string G] w fun e N=>e= .returned (.string ⟨(Lib.join (xs.map (·.data.toList)) G.data.toList).toArray⟩)/\Below w.heap.size w N:=Any.strings_Join Tryz.lays156 Tryz.Builder_Extra_156 J o c xs G w H M O K L
def Tryz.lays189_ren:Go.Shelf.Ren:=⟨fun |189=>109 |125=>177 |257=>176 |128=>229 |129=>230 |294=>220 |295=>221 |296=>222 |297=>223 |298=>224 |299=>225 |216=>226 |300=>227 |301=>228 |328=>254 |329=>255 |330=>256 |331=>257 |332=>258 |215=>259 |343=>269 |n=>n,fun |28=>27 |3=>3 |46=>247 |0=>0 |51=>250 |53=>93 |4=>4 |183=>284 |182=>283 |131=>287 |5=>5 |9=>9 |218=>310 |222=>279 |228=>321 |229=>317 |n=>n,fun |n=>n⟩
theorem Tryz.lays189:Go.Proofs.Lays.n189 prog Tryz.lays189_ren:={
 mixed:=by kernel_rfl
 f125:=func177.trans (congrArg some ya9)
 f128:=func229.trans (congrArg some ya9)
 f129:=func230.trans (congrArg some ya9)
 f189:=func109.trans (congrArg some ya9)
 f215:=func259.trans (congrArg some ya9)
 f216:=func226.trans (congrArg some ya9)
 f257:=func176.trans (congrArg some ya9)
 f294:=func220.trans (congrArg some ya9)
 f295:=func221.trans (congrArg some ya9)
 f296:=func222.trans (congrArg some ya9)
 f297:=func223.trans (congrArg some ya9)
 f298:=func224.trans (congrArg some ya9)
 f299:=func225.trans (congrArg some ya9)
 f300:=func227.trans (congrArg some ya9)
 f301:=func228.trans (congrArg some ya9)
 f328:=func254.trans (congrArg some ya9)
 f329:=func255.trans (congrArg some ya9)
 f330:=func256.trans (congrArg some ya9)
 f331:=func257.trans (congrArg some ya9)
 f332:=func258.trans (congrArg some ya9)
 f343:=func269.trans (congrArg some ya9)
 t0:=underlying0
 a0:=isAgg0
 z0:=sizeOf0
 v0:=zeroValue0
 t3:=underlying3
 a3:=isAgg3
 z3:=sizeOf3
 v3:=zeroValue3
 t4:=underlying4
 a4:=isAgg4
 z4:=sizeOf4
 v4:=zeroValue4
 t5:=underlying5
 a5:=isAgg5
 z5:=sizeOf5
 v5:=zeroValue5
 t9:=underlying9
 a9:=isAgg9
 z9:=sizeOf9
 v9:=zeroValue9
 t28:=underlying27
 a28:=isAgg27
 z28:=sizeOf27
 v28:=zeroValue27
 t46:=underlying247
 a46:=isAgg247
 z46:=sizeOf247
 v46:=zeroValue247
 t51:=underlying250
 a51:=isAgg250
 z51:=sizeOf250
 v51:=zeroValue250
 t53:=underlying93
 a53:=isAgg93
 z53:=sizeOf93
 v53:=zeroValue93
 t131:=underlying287
 a131:=isAgg287
 z131:=sizeOf287
 v131:=zeroValue287
 t182:=underlying283
 a182:=isAgg283
 z182:=sizeOf283
 v182:=zeroValue283
 t183:=underlying284
 a183:=isAgg284
 z183:=sizeOf284
 v183:=zeroValue284
 t218:=underlying310
 a218:=isAgg310
 z218:=sizeOf310
 v218:=zeroValue310
 t222:=underlying279
 a222:=isAgg279
 z222:=sizeOf279
 v222:=zeroValue279
 t228:=underlying321
 a228:=isAgg321
 z228:=sizeOf321
 v228:=zeroValue321
 t229:=underlying317
 a229:=isAgg317
 z229:=sizeOf317
 v229:=zeroValue317}
open Go.Sort Go.RowKit in
theorem Tryz.slices_Sort_int (blk G cap:Nat) (H:List Int) (w:World) (M:Holds (Value.int .i64) w blk G H.toArray) (J:blk < w.heap.size) (K:H.length < 4611686018427387904):
 Calls prog 109 #[.slice (some ⟨blk,G,none⟩) H.length cap] w fun e L=>
  e= .returned (.tuple #[])/\∃n os,L=grow (putRow (Value.int .i64) (Sort.ahead w n) blk G (H.mergeSort fun x y=>decide (x<=y)).toArray) os:=Any.slices_Sort_int Tryz.lays189 blk G cap H w M J K
def Tryz.lays110_ren:Go.Shelf.Ren:=⟨fun |110=>173 |109=>217 |n=>n,fun |31=>24 |9=>9 |4=>4 |3=>3 |0=>0 |n=>n,fun |n=>n⟩
theorem Tryz.lays110:Go.Proofs.Lays.n110 prog Tryz.lays110_ren:={
 mixed:=by kernel_rfl
 f109:=func217.trans (congrArg some ya9)
 f110:=func173.trans (congrArg some ya9)
 t0:=underlying0
 a0:=isAgg0
 z0:=sizeOf0
 v0:=zeroValue0
 t3:=underlying3
 a3:=isAgg3
 z3:=sizeOf3
 v3:=zeroValue3
 t4:=underlying4
 a4:=isAgg4
 z4:=sizeOf4
 v4:=zeroValue4
 t9:=underlying9
 a9:=isAgg9
 z9:=sizeOf9
 v9:=zeroValue9
 t31:=underlying24
 a31:=isAgg24
 z31:=sizeOf24
 v31:=zeroValue24}
open Go.Lib in
theorem Tryz.slices_Contains_string (b H n c:Nat) (G:List ByteArray) (x:ByteArray) (w:World) (L:n<=G.length) (J:n<=9223372036854775807) (M:∀j,j < G.length->w.cell? ⟨b,H+j,none⟩=some (.string (G.getD j ByteArray.empty))):
 Calls prog 173 #[.slice (some ⟨b,H,none⟩) n c,.string x] w fun e K=>e= .returned (.bool (Lib.containsS (G.take n) x))/\K=w:=Any.slices_Contains_string Tryz.lays110 b H n c G x w L J M
open Go.Lib in
theorem Tryz.slices_Contains_string_empty (a:Option Addr) (c:Nat) (x:ByteArray) (w:World):
 Calls prog 173 #[.slice a 0 c,.string x] w fun e G=>e= .returned (.bool false)/\G=w:=Any.slices_Contains_string_empty Tryz.lays110 a c x w
open Go.RowKit Go.Sort in
theorem Tryz.slices_Sort_int_none (p:Option Addr) (cap:Nat) (w:World):
 Calls prog 109 #[.slice p 0 cap] w fun e w'=>e= .returned (.tuple #[])/\w'=w:=Any.slices_Sort_int_none Tryz.lays189 p cap w
theorem join_emp:∀(xs:List (List UInt8)),Lib.join xs []=xs.flatten
 | []=>rfl
 |a::t=>by
  rw [Lib.join_cons];simp [Lib.joinTail]
theorem sB_mk (l:List UInt8):sB ⟨l.toArray⟩=l.map fun b=>(b.toNat:Int):=by unfold sB;simp
theorem join_jnL (vs:List ByteArray):sB ⟨(Lib.join (vs.map (·.data.toList)) []).toArray⟩=jnL vs:=by
 rw [join_emp,sB_mk]
 induction vs with
 |nil=>rfl
 |cons a t ih=>
  rw [List.map_cons,List.flatten_cons,List.map_append,ih];rfl
theorem join_len (vs:List ByteArray):(Lib.join (vs.map (·.data.toList)) []).length=(jnL vs).length:=by
 rw [<-join_jnL,sB_mk,List.length_map]
theorem two_sl (w:World) (a b:ByteArray):Sl fT (w.alloc (.cells #[.string a,.string b] 9)) (w.alloc (.cells #[.string a,.string b] 9)).heap.size (some ⟨w.heap.size,0,none⟩) 2 [a,b]:=
 ⟨rfl,SL.of_block (t:=9) (fr:=(0,0)) (zy w _) sI⟩
theorem pubkey_any (A:Option Addr) (n c B:Nat) (vs:List ByteArray) (w:World) (z:Glob w) (O:Sl fT w B A n vs) (hB:B<=w.heap.size) (hc:n<=c) (h1:1<=n) (hn:n<=300) (hv:∀s∈vs,s.size=32):
 Calls prog 246 #[.slice A n c] w fun e J=>e= .returned (.string (baOf (shaB (pbL++jnL vs))))/\Below w.heap.size w J:=by
 have N:vs.length=n:=O.1;have H:=jnL_len32 vs hv;rw [N] at H;obtain ⟨b1,o1,x,rfl,G,_,_⟩:=O.2.at_ (k:=0) om
 have HJ:Hid (Calls prog 267 #[.slice (some ⟨b1,o1,none⟩) n c,.string ⟨#[]⟩] w fun e J=>e= .returned (.string ⟨(Lib.join (vs.map (·.data.toList)) []).toArray⟩)/\Below w.heap.size w J):=by
  have h:=Tryz.strings_Join b1 o1 c vs ⟨#[]⟩ w (fun j y hj=>by
   obtain ⟨b2,o2,x2,e2,_,g2,k2⟩:=O.2.at_ (k:=j) (List.getElem?_eq_some_iff.1 hj).1;cases e2
   rw [hj] at g2;cases g2
   exact k2) (Nat.lt_of_lt_of_le G hB) om om (by show (Lib.join _ []).length<=_;rw [join_len,H];omega)
  rw [N] at h;exact h
 obtain ⟨K,M⟩:=gx ((⟨(Lib.join (vs.map (·.data.toList)) []).toArray⟩:ByteArray));have U:sB K=jnL vs:=by rw [<-M,join_jnL]
 rw [M] at HJ
 have L:jnL [⟨#[112,117,98,108,105,99]⟩,K]=pbL++jnL vs:=by
  show sB ⟨#[112,117,98,108,105,99]⟩++(sB K++[])=_;rw [U,List.append_nil];rfl
 have HM:Hid (∀W,Below w.heap.size w W->Calls prog 209 #[.slice (some ⟨W.heap.size,0,none⟩) 2 2] (W.alloc (.cells #[.string ⟨#[112,117,98,108,105,99]⟩,.string K] 9)) fun e J=>e= .returned (.string (baOf (shaB (pbL++jnL vs))))/\Below W.heap.size W J):=fun W hb=>by
  have T:=(Below.refl W.heap.size W).alloc nl (.cells #[.string ⟨#[112,117,98,108,105,99]⟩,.string K] 9);have h:=mjoin_any _ 2 2 _ [⟨#[112,117,98,108,105,99]⟩,K] _ (z.on (bt hb T)) (two_sl W _ _) nl om (by rw [L,List.length_append,H];show 6+_<=_;omega);rw [L] at h;exact h.mono fun e J ⟨h1,h2⟩=>⟨h1,bt T h2⟩
 clear z O hB hv N H G M U L;go_enter func246,ntmps246
 go_wp2_with (first
  |(go_at_call 267;(with_reducible refine HJ.out.mono ?_);rintro e w1 ⟨rfl,G⟩;(have HB1:=lh G);(have aa:=lh (HM.out w1 G));clear G)
  |(go_at_call 209;(with_reducible refine aa.out.mono ?_);rintro e w2 ⟨rfl,Y⟩;(have Z:=lh (bt HB1.out Y));clear Y))
 go_ret;exact ⟨rfl,Z.out⟩
