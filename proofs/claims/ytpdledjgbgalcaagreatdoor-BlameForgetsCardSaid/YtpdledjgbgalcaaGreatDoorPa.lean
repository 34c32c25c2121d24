/- SHA-256 plainly: words, the schedule, the rounds, a block. Rotations. SHA-256 of the program: a block. Regions that draw their order: what is ready, asked for (it fails where the list is another). -/
import Derived.WalkKit
import Derived.Test.YtpdledjgbgalcaaGreatDoorMa
import Derived.Test.YtpdledjgbgalcaaGreatDoorChecked
import Derived.IntWalk
namespace Go.Proofs.YtpdledjgbgalcaaGreatDoor
set_option maxRecDepth 100000
set_option maxHeartbeats 8000000
open Go.RowKit
set_option linter.unusedVariables false
set_option linter.unusedSimpArgs false
def ror (n:Nat) (x:Int):Int:=bits .or .u32 (x / 2 ^ n) (x*2 ^ (32 - n) % 4294967296)
theorem bits_or_comm (k:IntKind) (x y:Int):bits .or k x y=bits .or k y x:=by
 unfold bits;simp only;rw [BitVec.or_comm]
theorem bits_rng (op:BinOp) (x y:Int):0≤bits op .u32 x y∧bits op .u32 x y≤4294967295:=by
 unfold bits;simp only;rw [IntKind.wrap_u32];omega
def word4 (a b c d:Int):Int:=bits .or .u32 (bits .or .u32 (bits .or .u32 (a*2 ^ 24) (b*2 ^ 16)) (c*2 ^ 8)) d
def sgA (x:Int):Int:=bits .xor .u32 (bits .xor .u32 (ror 7 x) (ror 18 x)) (x / 8)
def sgB (x:Int):Int:=bits .xor .u32 (bits .xor .u32 (ror 17 x) (ror 19 x)) (x / 1024)
def sgC (x:Int):Int:=bits .xor .u32 (bits .xor .u32 (ror 6 x) (ror 11 x)) (ror 25 x)
def sgD (x:Int):Int:=bits .xor .u32 (bits .xor .u32 (ror 2 x) (ror 13 x)) (ror 22 x)
def ad (x y:Int):Int:=(x+y) % 4294967296
theorem ycn (x y:Int):0≤ad x y∧ad x y≤4294967295:=by unfold ad;omega
def wordAt (bs:List Int) (t:Nat):Int:=word4 (bs.getD (4*t) 0) (bs.getD (4*t+1) 0) (bs.getD (4*t+2) 0) (bs.getD (4*t+3) 0)
def nextW (p:List Int) (t:Nat):Int:=ad (ad (ad (sgB (p.getD (t - 2) 0)) (p.getD (t - 7) 0)) (sgA (p.getD (t - 15) 0))) (p.getD (t - 16) 0)
def sch (bs:List Int):Nat→List Int
 |0=>[]
 |t+1=>sch bs t++[if t < 16 then wordAt bs t else nextW (sch bs t) t]
theorem ycJ (bs:List Int):∀t,(sch bs t).length=t
 |0=>rfl
 |t+1=>by simp [sch,ycJ bs t]
structure W8 where
 a:Int
 b:Int
 c:Int
 d:Int
 e:Int
 f:Int
 g:Int
 h:Int
def chX (e f g:Int):Int:=bits .xor .u32 (bits .and .u32 e f) (bits .and .u32 (bits .xor .u32 4294967295 e) g)
def majX (a b c:Int):Int:=bits .xor .u32 (bits .xor .u32 (bits .and .u32 a b) (bits .and .u32 a c)) (bits .and .u32 b c)
def t1X (v:W8) (k w:Int):Int:=ad (ad (ad (ad v.h (sgC v.e)) (chX v.e v.f v.g)) k) w
def t2X (v:W8):Int:=ad (sgD v.a) (majX v.a v.b v.c)
def rnd (v:W8) (k w:Int):W8:=⟨ad (t1X v k w) (t2X v),v.a,v.b,v.c,ad v.d (t1X v k w),v.e,v.f,v.g⟩
def kTab:List Int:=[1116352408,1899447441,3049323471,3921009573,961987163,1508970993,2453635748,2870763221,3624381080,310598401,607225278,1426881987,1925078388,2162078206,2614888103,3248222580,3835390401,4022224774,264347078,604807628,770255983,1249150122,1555081692,1996064986,2554220882,2821834349,2952996808,3210313671,3336571891,3584528711,113926993,338241895,666307205,773529912,1294757372,1396182291,1695183700,1986661051,2177026350,2456956037,2730485921,2820302411,3259730800,3345764771,3516065817,3600352804,4094571909,275423344,430227734,506948616,659060556,883997877,958139571,1322822218,1537002063,1747873779,1955562222,2024104815,2227730452,2361852424,2428436474,2756734187,3204031479,3329325298]
def hTab:W8:=⟨1779033703,3144134277,1013904242,2773480762,1359893119,2600822924,528734635,1541459225⟩
def rnds (ws:List Int) (v:W8):Nat→W8
 |0=>v
 |t+1=>rnd (rnds ws v t) (kTab.getD t 0) (ws.getD t 0)
def addW (v u:W8):W8:=⟨ad v.a u.a,ad v.b u.b,ad v.c u.c,ad v.d u.d,ad v.e u.e,ad v.f u.f,ad v.g u.g,ad v.h u.h⟩
def blk (v:W8) (bs:List Int):W8:=addW v (rnds (sch bs 64) v 64)
def W8.list (v:W8):List Int:=[v.a,v.b,v.c,v.d,v.e,v.f,v.g,v.h]
structure W8ok (v:W8):Prop where
 a:0≤v.a∧v.a≤4294967295
 b:0≤v.b∧v.b≤4294967295
 c:0≤v.c∧v.c≤4294967295
 d:0≤v.d∧v.d≤4294967295
 e:0≤v.e∧v.e≤4294967295
 f:0≤v.f∧v.f≤4294967295
 g:0≤v.g∧v.g≤4294967295
 h:0≤v.h∧v.h≤4294967295
theorem W8ok.rnd {v:W8} (h:W8ok v) (k w:Int):W8ok (rnd v k w):=⟨ycn ..,h.a,h.b,h.c,ycn ..,h.e,h.f,h.g⟩
theorem W8ok.rnds {v:W8} (h:W8ok v) (ws:List Int):∀t,W8ok (rnds ws v t)
 |0=>h
 |t+1=>(W8ok.rnds h ws t).rnd _ _
theorem W8ok.addW (v u:W8):W8ok (addW v u):=⟨ycn ..,ycn ..,ycn ..,ycn ..,ycn ..,ycn ..,ycn ..,ycn ..⟩
theorem W8ok.blk (v:W8) (bs:List Int):W8ok (blk v bs):=W8ok.addW ..
theorem hTab_ok:W8ok hTab:=by constructor<;>exact ⟨by decide,by decide⟩
theorem t1_sum (v:W8) (k w:Int):t1X v k w=(v.h+sgC v.e+chX v.e v.f v.g+k+w) % 4294967296:=by unfold t1X ad;omega
theorem rnd_a (v:W8) (k w:Int):(rnd v k w).a=((v.h+sgC v.e+chX v.e v.f v.g+k+w)+(sgD v.a+majX v.a v.b v.c)) % 4294967296:=by
 show ad _ _=_
 rw [t1_sum];unfold t2X ad;omega
theorem rnd_e (v:W8) (k w:Int):(rnd v k w).e=(v.d+(v.h+sgC v.e+chX v.e v.f v.g+k+w)) % 4294967296:=by
 show ad _ _=_
 rw [t1_sum];unfold ad;omega
theorem t1_fold (rh re rf rg xk xw:Int):((rh+bits .xor .u32 (bits .xor .u32 (ror 6 re) (ror 11 re)) (ror 25 re)+bits .xor .u32 (bits .and .u32 re rf) (bits .and .u32 (bits .xor .u32 (if IntKind.u32.signed=true then -1 else IntKind.u32.max) re) rg)+xk) % 4294967296+xw) % 4294967296=(rh+sgC re+chX re rf rg+xk+xw) % 4294967296:=by
 have e:(if IntKind.u32.signed=true then -1 else IntKind.u32.max)=(4294967295:Int):=by decide
 rw [e]
 show ((rh+sgC re+chX re rf rg+xk) % 4294967296+xw) % 4294967296=_
 omega
theorem word_rng (bs:List Int) (t:Nat):0≤wordAt bs t∧wordAt bs t≤4294967295:=by unfold wordAt word4;exact bits_rng ..
theorem nextW_rng (p:List Int) (t:Nat):0≤nextW p t∧nextW p t≤4294967295:=by unfold nextW;exact ycn ..
theorem sch_rng (bs:List Int):∀t,∀x∈sch bs t,0≤x∧x≤4294967295
 |0,x,hx=>by simp [sch] at hx
 |t+1,x,hx=>by
  simp only [sch,List.mem_append,List.mem_singleton] at hx;rcases hx with hx |rfl
  ·exact sch_rng bs t x hx
  ·split
   ·exact word_rng ..
   ·exact nextW_rng ..
theorem ycC (bs:List Int) (t i:Nat):0≤(sch bs t).getD i 0∧(sch bs t).getD i 0≤4294967295:=by
 rcases h:(sch bs t)[i]? with _ |x
 ·simp [List.getD,h]
 ·have:=sch_rng bs t x (List.mem_of_getElem? h)
  simpa [List.getD,h] using this
theorem and31:∀k:Fin 32,0 < k.val→bits .and .u64 (IntKind.u64.wrap (-(k.val:Int))) 31=((32 - k.val:Nat):Int):=by decide+kernel
theorem ybL (x:Int) (k:Nat) (m:Int) (w:World) (hm:m= -(k:Int)) (h0:0 < k) (h1:k < 32) (hx:0≤x) (hx1:x≤4294967295):
 Calls Tryz.prog 262 #[.int .u32 x,.int .i64 m] w fun e w'=>e= .returned (.int .u32 (ror k x))∧w=w':=by
 subst hm;obtain ⟨s,hs⟩:∃s:Nat,s=32 - k:=⟨_,rfl⟩
 have ha:bits .and .u64 (IntKind.u64.wrap (-(k:Int))) 31=(s:Int):=by rw [hs];exact and31 ⟨k,h1⟩ h0
 have hb:IntKind.u64.wrap (32 - (s:Int))=(k:Int):=by rw [IntWalk.u64_in _ om];omega
 have HF:Hid (bits .or .u32 (x*2 ^ s % 4294967296) (x / 2 ^ k)=ror k x):=by
  show _=_
  unfold ror;rw [hs,bits_or_comm]
 have hs1:s≤32:=by omega
 clear hs;go_enter Tryz.func262,Tryz.ntmps262;go_wp2;go_ret;exact ⟨ret_int HF.out,rfl⟩
theorem ybM (x:Int) (k:Nat) (m:Int) (w:World) (hm:m=(k:Int)) (h0:0 < k) (h1:k < 32) (hx:0≤x) (hx1:x≤4294967295):
 Calls Tryz.prog 235 #[.int .u32 x,.int .i64 m] w fun e w'=>e= .returned (.int .u32 (ror k x))∧∃n,w'=w.drewN n:=by
 subst hm;have hb:IntKind.i64.wrap (32 - (k:Int))=((32 - k:Nat):Int):=by rw [IntWalk.i64_in _ om];omega
 obtain ⟨s,hs⟩:∃s:Nat,s=32 - k:=⟨_,rfl⟩
 rw [←hs] at hb
 have HF:Hid (bits .or .u32 (x / 2 ^ k) (x*2 ^ s % 4294967296)=ror k x):=by
  show _=_
  unfold ror;rw [hs]
 have hs1:s≤32:=by omega
 clear hs;go_enter Tryz.func235,Tryz.ntmps235;go_wp2
 go_quiet (fail)
 go_wp2;go_ret;exact ⟨ret_int HF.out,_,rfl⟩
abbrev U32:=Value.int .u32
theorem setCell_blk {w:World} {g i:Nat} {u:Value} {cs:Array Value} {t:TypeId} {fr:Nat × Nat} (hg:w.heap[g]? =some (.cells cs t fr)):(w.setCell ⟨g,i,none⟩ u).heap[g]? =some (.cells (cs.setIfInBounds i u) t fr):=by
 obtain ⟨hl,he⟩:=Array.getElem?_eq_some_iff.1 hg;simp [World.setCell,Array.getElem?_modify,hg]
section
variable {w:World} {b i:Nat} {l:List Int} {rest:List Value} {f:Int→Value} {t:TypeId} {fr:Nat × Nat} {x:Int}
theorem ybb (h:w.heap[b]? =some (.cells (l.map f++rest).toArray t fr)) (hx:l[i]? =some x):w.cell? ⟨b,i,none⟩=some (f x):=by
 rw [cell_of_row w b i _ _ _ h,List.getElem?_toArray,List.getElem?_append_left (by rw [List.length_map];exact (List.getElem?_eq_some_iff.1 hx).1),List.getElem?_map,hx];rfl
theorem ydd (h:w.heap[b]? =some (.cells (l.map f++rest).toArray t (0,0))) (hi:i < l.length):(w.setCell ⟨b,i,none⟩ (f x)).heap[b]? =some (.cells ((l.set i x).map f++rest).toArray t (0,0)):=by
 rw [setCell_blk h];simp only [List.setIfInBounds_toArray];rw [List.set_append_left _ _ (by rw [List.length_map];exact hi),List.map_set]
end
def yce (v:W8) (buf:List Int) (n:Int):Array Value:=(v.list.map U32++(buf.map fB++[Value.int .i64 n])).toArray
abbrev oSt (v:W8) (buf:List Int) (n:Int):Obj:= .cells (yce v buf n) 302
def KTab (w:World):Prop:=∀(i:Nat) (x:Int),kTab[i]? =some x→w.cell? ⟨1,i,none⟩=some (U32 x)
def zw (bs:List Int) (t:Nat):List Int:=sch bs t++List.replicate (64 - t) 0
theorem zw_len {bs:List Int} {t:Nat} (h:t≤64):(zw bs t).length=64:=by unfold zw;rw [List.length_append,ycJ,List.length_replicate];omega
theorem ycG {bs:List Int} {t i:Nat} (h:i < t):(zw bs t)[i]? =some ((sch bs t).getD i 0):=by
 unfold zw;rw [List.getElem?_append_left (by rw [ycJ];exact h),List.getElem?_eq_getElem (by rw [ycJ];exact h)];simp [List.getD,List.getElem?_eq_getElem (show i < (sch bs t).length by rw [ycJ];exact h)]
theorem zw_set {bs:List Int} {t:Nat} (h:t < 64):(zw bs t).set t (if t < 16 then wordAt bs t else nextW (sch bs t) t)=zw bs (t+1):=by
 unfold zw;obtain ⟨k,hk⟩:∃k,64 - t=k+1:=⟨64 - t - 1,by omega⟩
 rw [hk,show 64 - (t+1)=k by omega,List.replicate_succ,List.set_append_right _ _ (by rw [ycJ];exact Nat.le_refl _),ycJ,Nat.sub_self,List.set_cons_zero];simp [sch]
theorem ycQ {P:Program} (t e n:Nat) (i:TypeInfo) (d:TypeDesc) (ht:P.underlying t=some (.array n e)) (he:P.underlying e=some d) (hd:(match d with | .struct _ | .array _ _=>true |_=>false)=false) (hi:P.info? e=some i) (hs:i.size=1)
 (cs:Array Value) (k:IntKind) (j:Nat) (v:Value) (hj:j < n) (hv:cs[j]? =some v) (w:World):(Instr.index t (.agg cs) (.int k (j:Int))).run P w= .ok v w:=by
 have hagg:(isAgg e).run P w= .ok false w:=by
  unfold isAgg;rw [Sem.run_bind,run_underlying he w]
  cases d<;>simp_all
 simp [Instr.index,asIntOf,run_underlying ht,part,Sem.run_bind,hagg,sizeOf,typeInfo,hi,hs,hj,hv,Result.andThen]
theorem Tryz.infoU:(Tryz.prog.info? 250).map (fun i=>(i.zero,i.size,i.bytes))=some (some (.int .u32 0),1,4):=by kernel_rfl
def RndP (ws:List Int) (v:W8) (W:World) (xa xb xc xd xe xf xg xh i:Value) (w2:World):Prop:=
 ∃(t:Nat) (r:W8) (nd:Nat),t≤64∧r=rnds ws v t∧xa=U32 r.a∧xb=U32 r.b∧xc=U32 r.c∧xd=U32 r.d∧xe=U32 r.e∧xf=U32 r.f∧xg=U32 r.g∧xh=U32 r.h∧i= .int .i64 t∧w2=W.drewN nd
def SumP (g gw gv:Nat) (v r:W8) (buf:List Int) (n:Int) (w:World) (i:Value) (w3:World):Prop:=
 ∃j:Nat,j≤8∧i= .int .i64 j∧w3.heap[g]? =some (.cells ((((addW v r).list.take j++v.list.drop j).map U32)++(buf.map fB++[Value.int .i64 n])).toArray 302 (0,0))∧w3.heap[gv]? =some (.cells (v.list.map U32++[]).toArray 251 (0,0))∧But (fun k=>k=g) w w3
theorem sum_set (v r:W8) {j:Nat} {x y:Int} (hj:j < 8) (hx:r.list[j]? =some x) (hy:v.list[j]? =some y):((addW v r).list.take j++v.list.drop j).set j ((y+x) % 4294967296)=(addW v r).list.take (j+1)++v.list.drop (j+1):=by
 obtain ⟨a,b,c,d,e,f,g,h⟩:=v;obtain ⟨a',b',c',d',e',f',g',h'⟩:=r;rcases j with _ |_ |_ |_ |_ |_ |_ |_ |j
 all_goals first
  |(injection hx with hx;injection hy with hy;subst hx hy;rfl)
  |omega
theorem st_cells {w:World} {g:Nat} {v:W8} {buf:List Int} {n:Int} (h:w.heap[g]? =some (oSt v buf n)):w.cell? ⟨g,0,none⟩=some (U32 v.a)∧w.cell? ⟨g,1,none⟩=some (U32 v.b)∧w.cell? ⟨g,2,none⟩=some (U32 v.c)∧w.cell? ⟨g,3,none⟩=some (U32 v.d)∧w.cell? ⟨g,4,none⟩=some (U32 v.e)∧w.cell? ⟨g,5,none⟩=some (U32 v.f)∧w.cell? ⟨g,6,none⟩=some (U32 v.g)∧w.cell? ⟨g,7,none⟩=some (U32 v.h):=
 ⟨ybb h rfl,ybb h rfl,ybb h rfl,ybb h rfl,ybb h rfl,ybb h rfl,ybb h rfl,ybb h rfl⟩
theorem ycK (g:Nat) (v:W8) (buf:List Int) (n:Int) (A:Option Addr) (c B:Nat) (bs:List Int) (w:World) (hg:w.heap[g]? =some (oSt v buf n)) (hb:Sl fB w B A 64 bs) (hB:B≤w.heap.size) (hr:∀x∈bs,0≤x∧x < 256) (hc:64≤c) (hk:KTab w) (hkl:1 < w.heap.size) (hg1:g≠1) (hv:W8ok v):
 Calls Tryz.prog 242 #[.pointer (some ⟨g,0,none⟩),.slice A 64 c] w fun e w'=>e= .returned (.tuple #[])∧w'.heap[g]? =some (oSt (blk v bs) buf n)∧But (fun k=>k=g) w w':=by
 obtain ⟨b,off,_,rfl,hbB,_,_⟩:=hb.2.at_ (k:=0) (by rw [hb.1];omega);have HG:=lh hg;have HBS:=lh hb;have HR:=lh hr;have HK:=lh hk;have HKL:=lh hkl;have HGL:=lh (lt_of_block hg);have HBL:Hid (b < w.heap.size):=Nat.lt_of_lt_of_le hbB hB;have HVO:=lh hv;have HW0:Hid ((w.alloc (.cells (((zw bs 0).map U32)++[]).toArray 293)).heap[w.heap.size]? =some (.cells (((zw bs 0).map U32)++[]).toArray 293 (0,0))):=heap_alloc_new w _;clear hg hb hr hk hkl hv;go_enter Tryz.func242,Tryz.ntmps242
 go_wp2_with fail
 go_loopw [27] (fun i wr=>∃t:Nat,t≤64∧i= .int .i64 t∧Hid (wr.heap[w.heap.size]? =some (.cells ((zw bs t).map U32++[]).toArray 293 (0,0)))∧Hid (But (fun k=>k=w.heap.size) w wr)) (fun i _=>64 - (intOf i).toNat)
 case atStart=>exact ⟨0,by omega,rfl,HW0,(But.refl _ _).alloc _⟩
 case round=>
  obtain ⟨t,ht,rfl,HW,HBt⟩:=hrel
  by_cases hlt:t < 64
  ·by_cases h16:t < 16
   ·
    have h4:4*t+4 - 4*t=4:=by omega
    have hbx:∀k,k < 64→wr.cell? ⟨b,off+k,none⟩=some (fB (bs.getD k 0))∧0≤bs.getD k 0∧bs.getD k 0 < 256:=fun k hk=>by
     obtain ⟨x,hx⟩:=ybn (xs:=bs) (k:=k) (by rw [HBS.out.1];exact hk);obtain ⟨b',off',e,_,hc'⟩:=HBS.out.2 (by rw [HBS.out.1];omega)
     cases e
     rw [ybg hx];exact ⟨(World.cell?_of_block (w:=w) (HBt.out.block b HBL.out (Nat.ne_of_lt HBL.out))).trans (hc' k x hx),HR.out x (List.mem_of_getElem? hx)⟩
    have hx0:=hbx (4*t) om;have hx1:=hbx (4*t+1) om;have hx2:=hbx (4*t+2) om;have hx3:=hbx (4*t+3) om
    have HT:Hid (∀y0 y1 y2 y3:Int,bs.getD (4*t) 0=y0→bs.getD (4*t+1) 0=y1→bs.getD (4*t+2) 0=y2→bs.getD (4*t+3) 0=y3→(zw bs t).set t (word4 y0 y1 y2 y3)=zw bs (t+1)):=by
     rintro y0 y1 y2 y3 rfl rfl rfl rfl;have h9:=zw_set (bs:=bs) hlt;rw [if_pos h16] at h9;exact h9
    obtain ⟨y0,hy0⟩:∃y,bs.getD (4*t) 0=y:=⟨_,rfl⟩
    obtain ⟨y1,hy1⟩:∃y,bs.getD (4*t+1) 0=y:=⟨_,rfl⟩
    obtain ⟨y2,hy2⟩:∃y,bs.getD (4*t+2) 0=y:=⟨_,rfl⟩
    obtain ⟨y3,hy3⟩:∃y,bs.getD (4*t+3) 0=y:=⟨_,rfl⟩
    have HT2:=lh (HT.out y0 y1 y2 y3 hy0 hy1 hy2 hy3);rw [hy0] at hx0;rw [hy1,←Nat.add_assoc] at hx1;rw [hy2,←Nat.add_assoc] at hx2;rw [hy3,←Nat.add_assoc] at hx3;obtain ⟨c0,l0,u0⟩:=hx0;obtain ⟨c1,l1,u1⟩:=hx1;obtain ⟨c2,l2,u2⟩:=hx2;obtain ⟨c3,l3,u3⟩:=hx3;obtain ⟨z,hz⟩:=ybn (xs:=zw bs t) (k:=t) yaQ;have hcw:=ybb HW.out hz;have hfw:=frozen_of_row wr w.heap.size t _ _ HW.out;clear hbx hy0 hy1 hy2 hy3 hz HT;go_wp2
    go_still_tail 24,yaV
    repeat still_step
    try refine wpStill_nil ?_
    change wpList _ _ _ _ _ wr.drew
    go_wp2
    go_roundw
    case rel=>exact ⟨t+1,by omega,by go_num,by
     show _=_
     rw [←HT2.out]
     exact ydd (w:=wr.drew) HW.out yaQ,(HBt.out.drewN 1).setCell (.inl rfl) _⟩
    case measure=>simp [intOf];omega
   ·
    obtain ⟨p2,e2⟩:∃p,p=t - 2:=⟨_,rfl⟩
    obtain ⟨p7,e7⟩:∃p,p=t - 7:=⟨_,rfl⟩
    obtain ⟨p15,e15⟩:∃p,p=t - 15:=⟨_,rfl⟩
    obtain ⟨p16,e16⟩:∃p,p=t - 16:=⟨_,rfl⟩
    have hz14:=ybb HW.out (ycG (bs:=bs) (t:=t) (i:=p2) om);have hz9:=ybb HW.out (ycG (bs:=bs) (t:=t) (i:=p7) om);have hz1:=ybb HW.out (ycG (bs:=bs) (t:=t) (i:=p15) om);have hz0:=ybb HW.out (ycG (bs:=bs) (t:=t) (i:=p16) om)
    have HT:Hid (∀y14 y9 y1 y0:Int,(sch bs t).getD p2 0=y14→(sch bs t).getD p7 0=y9→(sch bs t).getD p15 0=y1→(sch bs t).getD p16 0=y0→(zw bs t).set t (ad (ad (ad (sgB y14) y9) (sgA y1)) y0)=zw bs (t+1)):=by
     rintro _ _ _ _ rfl rfl rfl rfl;have h9:=zw_set (bs:=bs) hlt;rw [if_neg h16] at h9;subst e2 e7 e15 e16;exact h9
    obtain ⟨l14,u14⟩:=ycC bs t p2;obtain ⟨l9,u9⟩:=ycC bs t p7;obtain ⟨l1,u1⟩:=ycC bs t p15;obtain ⟨l0,u0⟩:=ycC bs t p16;obtain ⟨x14,hx14⟩:∃x,(sch bs t).getD p2 0=x:=⟨_,rfl⟩
    obtain ⟨x9,hx9⟩:∃x,(sch bs t).getD p7 0=x:=⟨_,rfl⟩
    obtain ⟨x1,hx1⟩:∃x,(sch bs t).getD p15 0=x:=⟨_,rfl⟩
    obtain ⟨x0,hx0⟩:∃x,(sch bs t).getD p16 0=x:=⟨_,rfl⟩
    have HT2:=lh (HT.out x14 x9 x1 x0 hx14 hx9 hx1 hx0);rw [hx14] at hz14 l14 u14;rw [hx9] at hz9 l9 u9;rw [hx1] at hz1 l1 u1;rw [hx0] at hz0 l0 u0;have w2:IntKind.i64.wrap ((t:Int) - 2)=(p2:Int):=by rw [IntWalk.i64_in _ om];omega
    have w7:IntKind.i64.wrap ((t:Int) - 7)=(p7:Int):=by rw [IntWalk.i64_in _ om];omega
    have w15:IntKind.i64.wrap ((t:Int) - 15)=(p15:Int):=by rw [IntWalk.i64_in _ om];omega
    have w16:IntKind.i64.wrap ((t:Int) - 16)=(p16:Int):=by rw [IntWalk.i64_in _ om];omega
    have q2:(p2:Int) < 64:=by omega
    have q7:(p7:Int) < 64:=by omega
    have q15:(p15:Int) < 64:=by omega
    have q16:(p16:Int) < 64:=by omega
    clear e2 e7 e15 e16;obtain ⟨z,hz⟩:=ybn (xs:=zw bs t) (k:=t) yaQ;have hcw:=ybb HW.out hz;have hfw:=frozen_of_row wr w.heap.size t _ _ HW.out;clear hx14 hx9 hx1 hx0 HT hz;go_wp2
    go_quiet (fail)
    go_wp2_with (first
     |(go_at_call 262;(with_reducible (refine (ybL x14 17 (-17) _ rfl de de l14 u14).mono ?_));rintro e w6 ⟨rfl,rfl⟩)
     |(go_at_call 262;(with_reducible (refine (ybL x14 19 (-19) _ rfl de de l14 u14).mono ?_));rintro e w6 ⟨rfl,rfl⟩)
     |(go_at_call 262;(with_reducible (refine (ybL x1 7 (-7) _ rfl de de l1 u1).mono ?_));rintro e w6 ⟨rfl,rfl⟩)
     |(go_at_call 262;(with_reducible (refine (ybL x1 18 (-18) _ rfl de de l1 u1).mono ?_));rintro e w6 ⟨rfl,rfl⟩))
    generalize hW:World.drewN wr _=W
    replace hz9:W.cell? ⟨w.heap.size,p7,none⟩=some (U32 x9):=by rw [←hW];exact hz9
    replace hz0:W.cell? ⟨w.heap.size,p16,none⟩=some (U32 x0):=by rw [←hW];exact hz0
    replace hcw:W.cell? ⟨w.heap.size,t,none⟩=some (U32 z):=by rw [←hW];exact hcw
    replace HW:Hid (W.heap[w.heap.size]? =some (.cells ((zw bs t).map U32++[]).toArray 293 (0,0))):=by rw [←hW];exact HW
    replace hfw:=frozen_of_row W w.heap.size t _ _ HW.out
    replace HBt:Hid (But (fun k=>k=w.heap.size) w W):=by rw [←hW];exact HBt.out.drewN _
    clear hW hz14 hz1
    go_still_tail 15,yaV
    repeat still_step
    try refine wpStill_nil ?_
    change wpList _ _ _ _ _ W.drew
    go_wp2
    go_roundw
    case rel=>exact ⟨t+1,by omega,by go_num,by
     show _=_
     rw [←HT2.out,show ad (ad (ad (sgB x14) x9) (sgA x1)) x0=(sgB x14+x9+sgA x1+x0) % 4294967296 by unfold ad;omega]
     exact ydd (w:=W) (x:=(sgB x14+x9+sgA x1+x0) % 4294967296) HW.out yaQ,(HBt.out.setCell (.inl rfl) _).drewN 1⟩
    case measure=>simp [intOf];omega
  ·
   obtain rfl:t=64:=by omega
   have HGr:Hid (wr.heap[g]? =some (oSt v buf n)):=(HBt.out.block g HGL.out (Nat.ne_of_lt HGL.out)).trans HG.out;obtain ⟨c0,c1,c2,c3,c4,c5,c6,c7⟩:=st_cells HGr.out;have HKr:Hid (KTab wr):=fun i x hx=>(World.cell?_of_block (w:=w) (HBt.out.block 1 HKL.out (Nat.ne_of_lt HKL.out))).trans (HK.out i x hx)
   go_wp2
   go_quiet (fail)
   generalize hW:World.drewN (wr.alloc _) _=W
   have HV:Hid (W.heap[wr.heap.size]? =some (.cells #[U32 v.a,U32 v.b,U32 v.c,U32 v.d,U32 v.e,U32 v.f,U32 v.g,U32 v.h] 251 (0,0))):=by
    show _=_
    rw [←hW];exact heap_alloc_new wr _
   have HBw:Hid (But (fun k=>k=w.heap.size) w W):=by
    show But _ _ _
    rw [←hW];exact (HBt.out.alloc _).drewN _
   have HSz:Hid (wr.heap.size < W.heap.size):=lt_of_block HV.out
   have HWw:Hid (W.heap[w.heap.size]? =some (.cells ((zw bs 64).map U32++[]).toArray 293 (0,0))):=by
    show _=_
    rw [←hW];exact (Below.heap_alloc wr _ _ (lt_of_block HW.out)).trans HW.out
   have HW1:Hid (W.heap[1]? =wr.heap[1]?):=by
    show _=_
    rw [←hW];exact Below.heap_alloc wr _ 1 (Nat.lt_of_lt_of_le HKL.out HBt.out.size)
   clear hW c0 c1 c2 c3 c4 c5 c6 c7;go_wp2
   go_loopw [12,13,14,15,16,17,18,19,123] (fun xa xb xc xd xe xf xg xh i w2=>RndP (sch bs 64) v W xa xb xc xd xe xf xg xh i w2) (fun _ _ _ _ _ _ _ _ i _=>64 - (intOf i).toNat)
   case atStart=>exact ⟨0,v,0,by omega,rfl,rfl,rfl,rfl,rfl,rfl,rfl,rfl,rfl,rfl,rfl⟩
   case round=>
    obtain ⟨t,r,nd,ht,HRr,rfl,rfl,rfl,rfl,rfl,rfl,rfl,rfl,rfl,rfl⟩:=hrel
    by_cases hlt:t < 64
    ·
     have HOr:Hid (W8ok r):=by rw [HRr];exact HVO.out.rnds _ _
     have hre:=HOr.out.e;have hra:=HOr.out.a;obtain ⟨xk,hxk⟩:=ybn (xs:=kTab) (k:=t) hlt;obtain ⟨W2,hW2⟩:∃W2,W2=World.drewN W nd:=⟨_,rfl⟩
     have HKc:=HKr.out t xk hxk
     replace HKc:W2.cell? ⟨1,t,none⟩=some (U32 xk):=by rw [hW2];exact (World.cell?_of_block (w:=wr) (HW1.out)).trans HKc
     have HWc:=ybb HWw.out (ycG (bs:=bs) (t:=64) (i:=t) om);obtain ⟨xw,hxw⟩:∃x,(sch bs 64).getD t 0=x:=⟨_,rfl⟩
     rw [hxw] at HWc
     replace HWc:W2.cell? ⟨w.heap.size,t,none⟩=some (U32 xw):=by rw [hW2];exact HWc
     rw [←hW2]
     replace hW2:=lh hW2
     have HR1:Hid (rnds (sch bs 64) v (t+1)=rnd r xk xw):=by
      show _=_
      rw [rnds,←HRr,hxw,ybg hxk]
     have HA:=lh (rnd_a r xk xw);have HE:=lh (rnd_e r xk xw);have HRr':=lh HRr;clear HRr hxw hxk;obtain ⟨ra,rb,rc,rd,re,rf,rg,rh⟩:=r;have hq:(t:Int) < 64:=by omega
     go_wp2_with (first
      |(go_at_call 262;(with_reducible (refine (ybL re 6 (-6) _ rfl de de hre.1 hre.2).mono ?_));rintro e w6 ⟨rfl,rfl⟩)
      |(go_at_call 262;(with_reducible (refine (ybL re 11 (-11) _ rfl de de hre.1 hre.2).mono ?_));rintro e w6 ⟨rfl,rfl⟩)
      |(go_at_call 262;(with_reducible (refine (ybL re 25 (-25) _ rfl de de hre.1 hre.2).mono ?_));rintro e w6 ⟨rfl,rfl⟩)
      |(go_at_call 262;(with_reducible (refine (ybL ra 2 (-2) _ rfl de de hra.1 hra.2).mono ?_));rintro e w6 ⟨rfl,rfl⟩)
      |(go_at_call 262;(with_reducible (refine (ybL ra 13 (-13) _ rfl de de hra.1 hra.2).mono ?_));rintro e w6 ⟨rfl,rfl⟩)
      |(go_at_call 262;(with_reducible (refine (ybL ra 22 (-22) _ rfl de de hra.1 hra.2).mono ?_));rintro e w6 ⟨rfl,rfl⟩))
     go_quiet (fail)
     generalize hT:(HMod.hMod (HAdd.hAdd _ xw) 4294967296:Int)=t1;generalize hS:(bits BinOp.xor IntKind.u32 (bits BinOp.xor IntKind.u32 (ror 2 ra) _) _)=s0;generalize hS2:(bits BinOp.xor IntKind.u32 (bits BinOp.xor IntKind.u32 (ror 6 re) _) _)=s1;generalize hW3:World.drewN W2 _=W3;have HT:=lh hT;have HS:=lh hS;have HS2:=lh hS2;have HW3:=lh hW3;clear hT hS hS2 hW3
     go_wp
     refine ⟨⟨_,_,_,_,_,_,_,_,_,_,_,_,_,_,_,_,_,_,_,_,_,_,_,_,_,_,_,_,_,_,_,_,_,_,_,_,_,_,_,_,_,_,_,_,_,_,_,_,_,_,_,_,_,_,_,_,_,_,_,_,_,_,_,_,_,_,_,_,_,_,_,_,_,_,_,_,_,_,?rel,rfl⟩,?measure⟩
     case rel=>
      have e1:t1=(rh+sgC re+chX re rf rg+xk+xw) % 4294967296:=by rw [←HT.out];exact t1_fold ..
      refine ⟨t+1,rnds (sch bs 64) v (t+1),nd+_,by omega,rfl,?_,?_,?_,?_,?_,?_,?_,?_,by go_num,(HW3.out.symm.trans (by rw [hW2.out])).trans (World.drewN_drewN ..)⟩
      all_goals rw [HR1.out]
      ·rw [HA.out]
       refine congrArg U32 ?_
       show (t1+(s0+majX ra rb rc) % 4294967296) % 4294967296=_
       rw [e1,←HS.out]
       show ((rh+sgC re+chX re rf rg+xk+xw) % 4294967296+(sgD ra+majX ra rb rc) % 4294967296) % 4294967296=((rh+sgC re+chX re rf rg+xk+xw)+(sgD ra+majX ra rb rc)) % 4294967296
       omega
      ·rfl
      ·rfl
      ·rfl
      ·rw [HE.out]
       refine congrArg U32 ?_;rw [e1]
       show (rd+(rh+sgC re+chX re rf rg+xk+xw) % 4294967296) % 4294967296=(rd+(rh+sgC re+chX re rf rg+xk+xw)) % 4294967296
       omega
      ·rfl
      ·rfl
      ·rfl
     case measure=>
      show 64 - ((t:Int)+1).toNat < 64 - (t:Int).toNat
      omega
    ·
     obtain rfl:t=64:=by omega
     have HBr:Hid (r=rnds (sch bs 64) v 64):=HRr;clear HRr;have HGW:Hid (W.heap[g]? =some (oSt v buf n)):=(HBw.out.block g HGL.out (Nat.ne_of_lt HGL.out)).trans HG.out;obtain ⟨ra,rb,rc,rd,re,rf,rg,rh⟩:=r;go_wp2
     go_loopw [197] (fun i w3=>SumP g w.heap.size wr.heap.size v ⟨ra,rb,rc,rd,re,rf,rg,rh⟩ buf n w i w3) (fun i _=>8 - (intOf i).toNat)
     case atStart=>exact ⟨0,by omega,rfl,HGW.out,HV.out,(HBw.out.drewN nd).mono fun k hk=> .inr (by rw [hk];exact Nat.le_refl _)⟩
     case round=>
      obtain ⟨j,hj,rfl,HG4,HV4,HB4⟩:=hrel
      replace HG4:=lh HG4
      replace HV4:=lh HV4
      replace HB4:=lh HB4
      by_cases hj8:j < 8
      ·obtain ⟨y,hy⟩:=ybn (xs:=v.list) (k:=j) hj8
       obtain ⟨x,hx⟩:=ybn (xs:=(W8.mk ra rb rc rd re rf rg rh).list) (k:=j) hj8;have hcv:=ybb HV4.out hy
       have hix:(#[U32 ra,U32 rb,U32 rc,U32 rd,U32 re,U32 rf,U32 rg,U32 rh]:Array Value)[j]? =some (U32 x):=by
        have:=congrArg (Option.map U32) hx
        rw [←List.getElem?_map] at this;rw [List.getElem?_toArray];exact this
       obtain ⟨iU,hU0,_,hU1,_⟩:=info_parts Tryz.infoU;have hiw:=fun W=>ycQ (P:=Tryz.prog) 251 250 8 iU _ Tryz.underlying251 Tryz.underlying250 rfl hU0 hU1 #[U32 ra,U32 rb,U32 rc,U32 rd,U32 re,U32 rf,U32 rg,U32 rh] .i64 j (U32 x) hj8 hix W
       clear hix
       have hl4:j < (((addW v ⟨ra,rb,rc,rd,re,rf,rg,rh⟩).list.take j++v.list.drop j)).length:=by
        rw [List.length_append,List.length_take,List.length_drop];show j < min j 8+(8 - j);omega
       obtain ⟨z,hz⟩:=ybn hl4;have hcg:=ybb HG4.out hz;have hfg:=frozen_of_row wr g j _ _ HG4.out;have hj':(j:Int) < 8:=by omega
       have HST:=lh (sum_set v ⟨ra,rb,rc,rd,re,rf,rg,rh⟩ hj8 hx hy);clear hy hx hz;go_wp2
       go_still_tail 10,yaV
       repeat still_step
       try refine wpStill_nil ?_
       change wpList _ _ _ _ _ wr.drew
       go_wp2;refine ⟨⟨_,_,_,_,_,_,_,_,_,_,_,_,_,_,_,_,_,?rel,rfl⟩,?measure⟩
       case rel=>
        refine ⟨j+1,by omega,by go_num,?_,?_,?_⟩
        ·rw [←HST.out]
         exact ydd HG4.out hl4
        ·exact (Below.heap_setCell wr ⟨g,j,none⟩ (U32 ((y+x) % 4294967296)) _ (Nat.ne_of_gt (Nat.lt_of_lt_of_le HGL.out HBt.out.size))).trans HV4.out
        ·exact (HB4.out.setCell (.inl rfl) _).drewN 1
       case measure=>
        show 8 - ((j:Int)+1).toNat < 8 - (j:Int).toNat
        omega
      ·obtain rfl:j=8:=by omega
       go_wp2
       go_end0
       refine ⟨rfl,?_,HB4.out⟩;have he:blk v bs=addW v ⟨ra,rb,rc,rd,re,rf,rg,rh⟩:=by unfold blk;rw [HBr.out]
       rw [he];exact HG4.out
open Go.RowKit Go.Lib
theorem rb1 {P:Program} {ops:Array Oper} {Q:Exit→Act→World→Prop} {md:Region.Mode} {S:World→Prop} {oi:Oper} {fuel:Nat} {listed:Array Bool} {a:Act} {w:World} (i:Nat)
 (h:∀K':Act→World→Prop,Shut (∀a w,S w→(S w→wpAnyH P md ops Q S fuel (listed.setIfInBounds i true) a w)→K' a w)→if Region.wanted oi (yielded ops a.tmps)=true then Oper.wp P oi a w K' Q else K' (a.put oi.dst undef) w)
 (hr:Region.ready md ops listed=[i]:=by decide+kernel) (hi:ops[i]? =some oi:=by simp only [List.getElem?_toArray,List.getElem?_cons_succ,List.getElem?_cons_zero];rfl):wpAnyH P md ops Q S (fuel+1) listed a w:=
 wpAnyH_ready hr sI (AllReadyH.cons hi h AllReadyH.nil)
theorem rb2 {P:Program} {ops:Array Oper} {Q:Exit→Act→World→Prop} {md:Region.Mode} {S:World→Prop} {oi oj:Oper} {fuel:Nat} {listed:Array Bool} {a:Act} {w:World} (i j:Nat)
 (h:∀K':Act→World→Prop,Shut (∀a w,S w→(S w→wpAnyH P md ops Q S fuel (listed.setIfInBounds i true) a w)→K' a w)→if Region.wanted oi (yielded ops a.tmps)=true then Oper.wp P oi a w K' Q else K' (a.put oi.dst undef) w)
 (g:∀K':Act→World→Prop,Shut (∀a w,S w→(S w→wpAnyH P md ops Q S fuel (listed.setIfInBounds j true) a w)→K' a w)→if Region.wanted oj (yielded ops a.tmps)=true then Oper.wp P oj a w K' Q else K' (a.put oj.dst undef) w)
 (hr:Region.ready md ops listed=[i,j]:=by decide+kernel) (hi:ops[i]? =some oi:=by simp only [List.getElem?_toArray,List.getElem?_cons_succ,List.getElem?_cons_zero];rfl) (hj:ops[j]? =some oj:=by simp only [List.getElem?_toArray,List.getElem?_cons_succ,List.getElem?_cons_zero];rfl):wpAnyH P md ops Q S (fuel+1) listed a w:=
 wpAnyH_ready hr sI (AllReadyH.cons hi h (AllReadyH.cons hj g AllReadyH.nil))
theorem rb3 {P:Program} {ops:Array Oper} {Q:Exit→Act→World→Prop} {md:Region.Mode} {S:World→Prop} {oi oj ok:Oper} {fuel:Nat} {listed:Array Bool} {a:Act} {w:World} (i j k:Nat)
 (h:∀K':Act→World→Prop,Shut (∀a w,S w→(S w→wpAnyH P md ops Q S fuel (listed.setIfInBounds i true) a w)→K' a w)→if Region.wanted oi (yielded ops a.tmps)=true then Oper.wp P oi a w K' Q else K' (a.put oi.dst undef) w)
 (g:∀K':Act→World→Prop,Shut (∀a w,S w→(S w→wpAnyH P md ops Q S fuel (listed.setIfInBounds j true) a w)→K' a w)→if Region.wanted oj (yielded ops a.tmps)=true then Oper.wp P oj a w K' Q else K' (a.put oj.dst undef) w)
 (f:∀K':Act→World→Prop,Shut (∀a w,S w→(S w→wpAnyH P md ops Q S fuel (listed.setIfInBounds k true) a w)→K' a w)→if Region.wanted ok (yielded ops a.tmps)=true then Oper.wp P ok a w K' Q else K' (a.put ok.dst undef) w)
 (hr:Region.ready md ops listed=[i,j,k]:=by decide+kernel) (hi:ops[i]? =some oi:=by simp only [List.getElem?_toArray,List.getElem?_cons_succ,List.getElem?_cons_zero];rfl) (hj:ops[j]? =some oj:=by simp only [List.getElem?_toArray,List.getElem?_cons_succ,List.getElem?_cons_zero];rfl) (hk:ops[k]? =some ok:=by simp only [List.getElem?_toArray,List.getElem?_cons_succ,List.getElem?_cons_zero];rfl):wpAnyH P md ops Q S (fuel+1) listed a w:=
 wpAnyH_ready hr sI (AllReadyH.cons hi h (AllReadyH.cons hj g (AllReadyH.cons hk f AllReadyH.nil)))
