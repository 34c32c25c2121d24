/- SHA-256 plainly: words, the schedule, the rounds, a block. Rotations. -/
import Derived.WalkKit
import Derived.Test.YtpdledjgbgalcaaGreatDoorMa
import Derived.Test.YtpdledjgbgalcaaGreatDoorChecked
import Derived.IntWalk
namespace Go.Proofs.YtpdledjgbgalcaaGreatDoor
open Go.RowKit
set_option linter.unusedVariables false
set_option linter.unusedSimpArgs false
def ror (n:Nat) (x:Int):Int:=bits .or .u32 (x / 2 ^ n) (x*2 ^ (32 - n) % 4294967296)
theorem bits_or_comm (k:IntKind) (x y:Int):bits .or k x y=bits .or k y x:=by
 unfold bits;simp only;rw [BitVec.or_comm]
theorem bits_rng (op:BinOp) (x y:Int):0≤bits op .u32 x y∧bits op .u32 x y≤4294967295:=by
 unfold bits;simp only;rw [IntKind.wrap_u32];omega
def word4 (a b c d:Int):Int:=bits .or .u32 (bits .or .u32 (bits .or .u32 (a*2 ^ 24) (b*2 ^ 16)) (c*2 ^ 8)) d
def sgA (x:Int):Int:=bits .xor .u32 (bits .xor .u32 (ror 7 x) (ror 18 x)) (x / 8)
def sgB (x:Int):Int:=bits .xor .u32 (bits .xor .u32 (ror 17 x) (ror 19 x)) (x / 1024)
def sgC (x:Int):Int:=bits .xor .u32 (bits .xor .u32 (ror 6 x) (ror 11 x)) (ror 25 x)
def sgD (x:Int):Int:=bits .xor .u32 (bits .xor .u32 (ror 2 x) (ror 13 x)) (ror 22 x)
def ad (x y:Int):Int:=(x+y) % 4294967296
theorem ad_rng (x y:Int):0≤ad x y∧ad x y≤4294967295:=by unfold ad;omega
def wordAt (bs:List Int) (t:Nat):Int:=word4 (bs.getD (4*t) 0) (bs.getD (4*t+1) 0) (bs.getD (4*t+2) 0) (bs.getD (4*t+3) 0)
def nextW (p:List Int) (t:Nat):Int:=ad (ad (ad (sgB (p.getD (t - 2) 0)) (p.getD (t - 7) 0)) (sgA (p.getD (t - 15) 0))) (p.getD (t - 16) 0)
def sch (bs:List Int):Nat→List Int
 |0=>[]
 |t+1=>sch bs t++[if t < 16 then wordAt bs t else nextW (sch bs t) t]
theorem sch_len (bs:List Int):∀t,(sch bs t).length=t
 |0=>rfl
 |t+1=>by simp [sch,sch_len bs t]
structure W8 where
 a:Int
 b:Int
 c:Int
 d:Int
 e:Int
 f:Int
 g:Int
 h:Int
def chX (e f g:Int):Int:=bits .xor .u32 (bits .and .u32 e f) (bits .and .u32 (bits .xor .u32 4294967295 e) g)
def majX (a b c:Int):Int:=bits .xor .u32 (bits .xor .u32 (bits .and .u32 a b) (bits .and .u32 a c)) (bits .and .u32 b c)
def t1X (v:W8) (k w:Int):Int:=ad (ad (ad (ad v.h (sgC v.e)) (chX v.e v.f v.g)) k) w
def t2X (v:W8):Int:=ad (sgD v.a) (majX v.a v.b v.c)
def rnd (v:W8) (k w:Int):W8:=⟨ad (t1X v k w) (t2X v),v.a,v.b,v.c,ad v.d (t1X v k w),v.e,v.f,v.g⟩
def kTab:List Int:=[1116352408,1899447441,3049323471,3921009573,961987163,1508970993,2453635748,2870763221,3624381080,310598401,607225278,1426881987,1925078388,2162078206,2614888103,3248222580,3835390401,4022224774,264347078,604807628,770255983,1249150122,1555081692,1996064986,2554220882,2821834349,2952996808,3210313671,3336571891,3584528711,113926993,338241895,666307205,773529912,1294757372,1396182291,1695183700,1986661051,2177026350,2456956037,2730485921,2820302411,3259730800,3345764771,3516065817,3600352804,4094571909,275423344,430227734,506948616,659060556,883997877,958139571,1322822218,1537002063,1747873779,1955562222,2024104815,2227730452,2361852424,2428436474,2756734187,3204031479,3329325298]
def hTab:W8:=⟨1779033703,3144134277,1013904242,2773480762,1359893119,2600822924,528734635,1541459225⟩
def rnds (ws:List Int) (v:W8):Nat→W8
 |0=>v
 |t+1=>rnd (rnds ws v t) (kTab.getD t 0) (ws.getD t 0)
def addW (v u:W8):W8:=⟨ad v.a u.a,ad v.b u.b,ad v.c u.c,ad v.d u.d,ad v.e u.e,ad v.f u.f,ad v.g u.g,ad v.h u.h⟩
def blk (v:W8) (bs:List Int):W8:=addW v (rnds (sch bs 64) v 64)
def W8.list (v:W8):List Int:=[v.a,v.b,v.c,v.d,v.e,v.f,v.g,v.h]
structure W8ok (v:W8):Prop where
 a:0≤v.a∧v.a≤4294967295
 b:0≤v.b∧v.b≤4294967295
 c:0≤v.c∧v.c≤4294967295
 d:0≤v.d∧v.d≤4294967295
 e:0≤v.e∧v.e≤4294967295
 f:0≤v.f∧v.f≤4294967295
 g:0≤v.g∧v.g≤4294967295
 h:0≤v.h∧v.h≤4294967295
theorem W8ok.rnd {v:W8} (h:W8ok v) (k w:Int):W8ok (rnd v k w):=⟨ad_rng ..,h.a,h.b,h.c,ad_rng ..,h.e,h.f,h.g⟩
theorem W8ok.rnds {v:W8} (h:W8ok v) (ws:List Int):∀t,W8ok (rnds ws v t)
 |0=>h
 |t+1=>(W8ok.rnds h ws t).rnd _ _
theorem W8ok.addW (v u:W8):W8ok (addW v u):=⟨ad_rng ..,ad_rng ..,ad_rng ..,ad_rng ..,ad_rng ..,ad_rng ..,ad_rng ..,ad_rng ..⟩
theorem W8ok.blk (v:W8) (bs:List Int):W8ok (blk v bs):=W8ok.addW ..
theorem hTab_ok:W8ok hTab:=by constructor<;>exact ⟨by decide,by decide⟩
theorem t1_sum (v:W8) (k w:Int):t1X v k w=(v.h+sgC v.e+chX v.e v.f v.g+k+w) % 4294967296:=by unfold t1X ad;omega
theorem rnd_a (v:W8) (k w:Int):(rnd v k w).a=((v.h+sgC v.e+chX v.e v.f v.g+k+w)+(sgD v.a+majX v.a v.b v.c)) % 4294967296:=by
 show ad _ _=_
 rw [t1_sum];unfold t2X ad;omega
theorem rnd_e (v:W8) (k w:Int):(rnd v k w).e=(v.d+(v.h+sgC v.e+chX v.e v.f v.g+k+w)) % 4294967296:=by
 show ad _ _=_
 rw [t1_sum];unfold ad;omega
theorem t1_fold (rh re rf rg xk xw:Int):((rh+bits .xor .u32 (bits .xor .u32 (ror 6 re) (ror 11 re)) (ror 25 re)+bits .xor .u32 (bits .and .u32 re rf) (bits .and .u32 (bits .xor .u32 (if IntKind.u32.signed=true then -1 else IntKind.u32.max) re) rg)+xk) % 4294967296+xw) % 4294967296=(rh+sgC re+chX re rf rg+xk+xw) % 4294967296:=by
 have e:(if IntKind.u32.signed=true then -1 else IntKind.u32.max)=(4294967295:Int):=by decide
 rw [e]
 show ((rh+sgC re+chX re rf rg+xk) % 4294967296+xw) % 4294967296=_
 omega
theorem word_rng (bs:List Int) (t:Nat):0≤wordAt bs t∧wordAt bs t≤4294967295:=by unfold wordAt word4;exact bits_rng ..
theorem nextW_rng (p:List Int) (t:Nat):0≤nextW p t∧nextW p t≤4294967295:=by unfold nextW;exact ad_rng ..
theorem sch_rng (bs:List Int):∀t,∀x∈sch bs t,0≤x∧x≤4294967295
 |0,x,hx=>by simp [sch] at hx
 |t+1,x,hx=>by
  simp only [sch,List.mem_append,List.mem_singleton] at hx
  rcases hx with hx |rfl
  ·exact sch_rng bs t x hx
  ·split
   ·exact word_rng ..
   ·exact nextW_rng ..
theorem sch_getD (bs:List Int) (t i:Nat):0≤(sch bs t).getD i 0∧(sch bs t).getD i 0≤4294967295:=by
 rcases h:(sch bs t)[i]? with _ |x
 ·simp [List.getD,h]
 ·have:=sch_rng bs t x (List.mem_of_getElem? h)
  simpa [List.getD,h] using this
theorem and31:∀k:Fin 32,0 < k.val→bits .and .u64 (IntKind.u64.wrap (-(k.val:Int))) 31=((32 - k.val:Nat):Int):=by decide+kernel
theorem rotl_any (x:Int) (k:Nat) (m:Int) (w:World) (hm:m= -(k:Int)) (h0:0 < k) (h1:k < 32) (hx:0≤x) (hx1:x≤4294967295):
 Calls Tryz.prog 262 #[.int .u32 x,.int .i64 m] w fun e w'=>e= .returned (.int .u32 (ror k x))∧w=w':=by
 subst hm
 obtain ⟨s,hs⟩:∃s:Nat,s=32 - k:=⟨_,rfl⟩
 have ha:bits .and .u64 (IntKind.u64.wrap (-(k:Int))) 31=(s:Int):=by rw [hs];exact and31 ⟨k,h1⟩ h0
 have hb:IntKind.u64.wrap (32 - (s:Int))=(k:Int):=by rw [IntWalk.u64_in _ (by omega)];omega
 have HF:Hid (bits .or .u32 (x*2 ^ s % 4294967296) (x / 2 ^ k)=ror k x):=by
  show _=_
  unfold ror
  rw [hs,bits_or_comm]
 have hs1:s≤32:=by omega
 clear hs
 go_enter Tryz.func262,Tryz.ntmps262
 go_wp2
 go_ret
 exact ⟨ret_int HF.out,rfl⟩
theorem rotr_any (x:Int) (k:Nat) (m:Int) (w:World) (hm:m=(k:Int)) (h0:0 < k) (h1:k < 32) (hx:0≤x) (hx1:x≤4294967295):
 Calls Tryz.prog 235 #[.int .u32 x,.int .i64 m] w fun e w'=>e= .returned (.int .u32 (ror k x))∧∃n,w'=w.drewN n:=by
 subst hm
 have hb:IntKind.i64.wrap (32 - (k:Int))=((32 - k:Nat):Int):=by rw [IntWalk.i64_in _ (by omega)];omega
 obtain ⟨s,hs⟩:∃s:Nat,s=32 - k:=⟨_,rfl⟩
 rw [←hs] at hb
 have HF:Hid (bits .or .u32 (x / 2 ^ k) (x*2 ^ s % 4294967296)=ror k x):=by
  show _=_
  unfold ror
  rw [hs]
 have hs1:s≤32:=by omega
 clear hs
 go_enter Tryz.func235,Tryz.ntmps235
 go_wp2
 go_quiet (fail)
 go_wp2
 go_ret
 exact ⟨ret_int HF.out,_,rfl⟩
