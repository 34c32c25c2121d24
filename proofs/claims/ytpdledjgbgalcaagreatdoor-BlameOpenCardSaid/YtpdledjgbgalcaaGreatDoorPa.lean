import Derived.Test.YtpdledjgbgalcaaGreatDoorMa
namespace Go.Proofs.YtpdledjgbgalcaaGreatDoor
set_option maxRecDepth 100000
set_option maxHeartbeats 8000000
open Go.RowKit Go.Proofs.Tryz
set_option linter.unusedVariables false
set_option linter.unusedSimpArgs false
def ror (n:Nat) (x:Int):Int:=bits .or .u32 (x / 2 ^ n) (x*2 ^ (32 - n) % 4294967296)
theorem bits_or_comm (k:IntKind) (x y:Int):bits .or k x y=bits .or k y x:=by
 unfold bits;simp only;rw [BitVec.or_comm]
theorem bits_rng (op:BinOp) (x y:Int):0<=bits op .u32 x y/\bits op .u32 x y<=4294967295:=by
 unfold bits;simp only;rw [IntKind.wrap_u32];omega
def word4 (a b c d:Int):Int:=bits .or .u32 (bits .or .u32 (bits .or .u32 (a*2 ^ 24) (b*2 ^ 16)) (c*2 ^ 8)) d
def sgA (x:Int):Int:=bits .xor .u32 (bits .xor .u32 (ror 7 x) (ror 18 x)) (x / 8)
def sgB (x:Int):Int:=bits .xor .u32 (bits .xor .u32 (ror 17 x) (ror 19 x)) (x / 1024)
def sgC (x:Int):Int:=bits .xor .u32 (bits .xor .u32 (ror 6 x) (ror 11 x)) (ror 25 x)
def sgD (x:Int):Int:=bits .xor .u32 (bits .xor .u32 (ror 2 x) (ror 13 x)) (ror 22 x)
def ad (x y:Int):Int:=(x+y) % 4294967296
theorem ycL (x y:Int):0<=ad x y/\ad x y<=4294967295:=by unfold ad;omega
def wordAt (bs:List Int) (t:Nat):Int:=word4 (bs.getD (4*t) 0) (bs.getD (4*t+1) 0) (bs.getD (4*t+2) 0) (bs.getD (4*t+3) 0)
def nextW (p:List Int) (t:Nat):Int:=ad (ad (ad (sgB (p.getD (t - 2) 0)) (p.getD (t - 7) 0)) (sgA (p.getD (t - 15) 0))) (p.getD (t - 16) 0)
def sch (bs:List Int):Nat->List Int
 |0=>[]
 |t+1=>sch bs t++[if t < 16 then wordAt bs t else nextW (sch bs t) t]
theorem yc8 (bs:List Int):∀t,(sch bs t).length=t
 |0=>rfl
 |t+1=>by simp [sch,yc8 bs t]
structure W8 where
 a:Int
 b:Int
 c:Int
 d:Int
 e:Int
 f:Int
 g:Int
 h:Int
def chX (e f g:Int):Int:=bits .xor .u32 (bits .and .u32 e f) (bits .and .u32 (bits .xor .u32 4294967295 e) g)
def majX (a b c:Int):Int:=bits .xor .u32 (bits .xor .u32 (bits .and .u32 a b) (bits .and .u32 a c)) (bits .and .u32 b c)
def t1X (v:W8) (k w:Int):Int:=ad (ad (ad (ad v.h (sgC v.e)) (chX v.e v.f v.g)) k) w
def t2X (v:W8):Int:=ad (sgD v.a) (majX v.a v.b v.c)
def rnd (v:W8) (k w:Int):W8:=⟨ad (t1X v k w) (t2X v),v.a,v.b,v.c,ad v.d (t1X v k w),v.e,v.f,v.g⟩
def kTab:List Int:=[1116352408,1899447441,3049323471,3921009573,961987163,1508970993,2453635748,2870763221,3624381080,310598401,607225278,1426881987,1925078388,2162078206,2614888103,3248222580,3835390401,4022224774,264347078,604807628,770255983,1249150122,1555081692,1996064986,2554220882,2821834349,2952996808,3210313671,3336571891,3584528711,113926993,338241895,666307205,773529912,1294757372,1396182291,1695183700,1986661051,2177026350,2456956037,2730485921,2820302411,3259730800,3345764771,3516065817,3600352804,4094571909,275423344,430227734,506948616,659060556,883997877,958139571,1322822218,1537002063,1747873779,1955562222,2024104815,2227730452,2361852424,2428436474,2756734187,3204031479,3329325298]
def hTab:W8:=⟨1779033703,3144134277,1013904242,2773480762,1359893119,2600822924,528734635,1541459225⟩
def rnds (ws:List Int) (v:W8):Nat->W8
 |0=>v
 |t+1=>rnd (rnds ws v t) (kTab.getD t 0) (ws.getD t 0)
def addW (v u:W8):W8:=⟨ad v.a u.a,ad v.b u.b,ad v.c u.c,ad v.d u.d,ad v.e u.e,ad v.f u.f,ad v.g u.g,ad v.h u.h⟩
def blk (v:W8) (bs:List Int):W8:=addW v (rnds (sch bs 64) v 64)
def W8.list (v:W8):List Int:=[v.a,v.b,v.c,v.d,v.e,v.f,v.g,v.h]
structure W8ok (v:W8):Prop where
 a:0<=v.a/\v.a<=4294967295
 b:0<=v.b/\v.b<=4294967295
 c:0<=v.c/\v.c<=4294967295
 d:0<=v.d/\v.d<=4294967295
 e:0<=v.e/\v.e<=4294967295
 f:0<=v.f/\v.f<=4294967295
 g:0<=v.g/\v.g<=4294967295
 h:0<=v.h/\v.h<=4294967295
theorem W8ok.rnd {v:W8} (h:W8ok v) (k w:Int):W8ok (rnd v k w):=⟨ycL ..,h.a,h.b,h.c,ycL ..,h.e,h.f,h.g⟩
theorem W8ok.rnds {v:W8} (h:W8ok v) (ws:List Int):∀t,W8ok (rnds ws v t)
 |0=>h
 |t+1=>(W8ok.rnds h ws t).rnd _ _
theorem W8ok.addW (v u:W8):W8ok (addW v u):=⟨ycL ..,ycL ..,ycL ..,ycL ..,ycL ..,ycL ..,ycL ..,ycL ..⟩
theorem W8ok.blk (v:W8) (bs:List Int):W8ok (blk v bs):=W8ok.addW ..
theorem hTab_ok:W8ok hTab:=by constructor<;>exact ⟨by decide,by decide⟩
theorem t1_sum (v:W8) (k w:Int):t1X v k w=(v.h+sgC v.e+chX v.e v.f v.g+k+w) % 4294967296:=by unfold t1X ad;omega
theorem rnd_a (v:W8) (k w:Int):(rnd v k w).a=((v.h+sgC v.e+chX v.e v.f v.g+k+w)+(sgD v.a+majX v.a v.b v.c)) % 4294967296:=by
 show ad _ _=_;rw [t1_sum];unfold t2X ad;omega
theorem rnd_e (v:W8) (k w:Int):(rnd v k w).e=(v.d+(v.h+sgC v.e+chX v.e v.f v.g+k+w)) % 4294967296:=by
 show ad _ _=_;rw [t1_sum];unfold ad;omega
theorem t1_fold (M G J H K L:Int):((M+bits .xor .u32 (bits .xor .u32 (ror 6 G) (ror 11 G)) (ror 25 G)+bits .xor .u32 (bits .and .u32 G J) (bits .and .u32 (bits .xor .u32 (if IntKind.u32.signed=true then -1 else IntKind.u32.max) G) H)+K) % 4294967296+L) % 4294967296=(M+sgC G+chX G J H+K+L) % 4294967296:=by
 have e:(if IntKind.u32.signed=true then -1 else IntKind.u32.max)=(4294967295:Int):=by decide
 rw [e];show ((M+sgC G+chX G J H+K) % 4294967296+L) % 4294967296=_;omega
theorem word_rng (bs:List Int) (t:Nat):0<=wordAt bs t/\wordAt bs t<=4294967295:=by unfold wordAt word4;exact bits_rng ..
theorem nextW_rng (p:List Int) (t:Nat):0<=nextW p t/\nextW p t<=4294967295:=by unfold nextW;exact ycL ..
theorem sch_rng (bs:List Int):∀t,∀x∈sch bs t,0<=x/\x<=4294967295
 |0,x,G=>by simp [sch] at G
 |t+1,x,G=>by
  simp only [sch,List.mem_append,List.mem_singleton] at G;rcases G with G |rfl
  ·exact sch_rng bs t x G
  ·split
   ·exact word_rng ..
   ·exact nextW_rng ..
theorem ycZ (bs:List Int) (t i:Nat):0<=(sch bs t).getD i 0/\(sch bs t).getD i 0<=4294967295:=by
 rcases h:(sch bs t)[i]? with _ |x
 ·simp [List.getD,h]
 ·have:=sch_rng bs t x (List.mem_of_getElem? h);simpa [List.getD,h] using this
theorem and31:∀k:Fin 32,0 < k.val->bits .and .u64 (IntKind.u64.wrap (-(k.val:Int))) 31=((32 - k.val:Nat):Int):=by decide+kernel
theorem yb7 (x:Int) (k:Nat) (m:Int) (w:World) (H:m= -(k:Int)) (h0:0 < k) (h1:k < 32) (L:0<=x) (J:x<=4294967295):
 Calls prog 262 #[.int .u32 x,.int .i64 m] w fun e G=>e= .returned (.int .u32 (ror k x))/\w=G:=by
 subst H;obtain ⟨s,hs⟩:∃s:Nat,s=32 - k:=⟨_,rfl⟩
 have ha:bits .and .u64 (IntKind.u64.wrap (-(k:Int))) 31=(s:Int):=by rw [hs];exact and31 ⟨k,h1⟩ h0
 have M:IntKind.u64.wrap (32 - (s:Int))=(k:Int):=by rw [IntWalk.u64_in _ om];omega
 have HF:Hid (bits .or .u32 (x*2 ^ s % 4294967296) (x / 2 ^ k)=ror k x):=by
  show _=_;unfold ror;rw [hs,bits_or_comm]
 have K:s<=32:=by omega
 clear hs;go_enter func262,ntmps262;go_wp2;go_ret;exact ⟨ret_int HF.out,rfl⟩
theorem yb8 (x:Int) (k:Nat) (m:Int) (w:World) (J:m=(k:Int)) (h0:0 < k) (h1:k < 32) (M:0<=x) (K:x<=4294967295):
 Calls prog 235 #[.int .u32 x,.int .i64 m] w fun e H=>e= .returned (.int .u32 (ror k x))/\∃n,H=w.drewN n:=by
 subst J;have G:IntKind.i64.wrap (32 - (k:Int))=((32 - k:Nat):Int):=by rw [IntWalk.i64_in _ om];omega
 obtain ⟨s,hs⟩:∃s:Nat,s=32 - k:=⟨_,rfl⟩
 rw [<-hs] at G
 have HF:Hid (bits .or .u32 (x / 2 ^ k) (x*2 ^ s % 4294967296)=ror k x):=by
  show _=_;unfold ror;rw [hs]
 have L:s<=32:=by omega
 clear hs;go_enter func235,ntmps235;go_wp2;go_quiet (fail);go_wp2;go_ret;exact ⟨ret_int HF.out,_,rfl⟩
abbrev U32:=Value.int .u32
theorem setCell_blk {w:World} {g i:Nat} {u:Value} {cs:Array Value} {t:TypeId} {fr:Nat × Nat} (G:w.heap[g]? =some (.cells cs t fr)):(w.setCell ⟨g,i,none⟩ u).heap[g]? =some (.cells (cs.setIfInBounds i u) t fr):=by
 obtain ⟨hl,H⟩:=Array.getElem?_eq_some_iff.1 G;simp [World.setCell,Array.getElem?_modify,G]
section
variable {w:World} {b i:Nat} {l:List Int} {rest:List Value} {f:Int->Value} {t:TypeId} {fr:Nat × Nat} {x:Int}
theorem ybp (h:w.heap[b]? =some (.cells (l.map f++rest).toArray t fr)) (G:l[i]? =some x):w.cell? ⟨b,i,none⟩=some (f x):=by
 rw [cell_of_row w b i _ _ _ h,List.getElem?_toArray,List.getElem?_append_left (by rw [List.length_map];exact (List.getElem?_eq_some_iff.1 G).1),List.getElem?_map,G];rfl
theorem ydB (h:w.heap[b]? =some (.cells (l.map f++rest).toArray t (0,0))) (hi:i < l.length):(w.setCell ⟨b,i,none⟩ (f x)).heap[b]? =some (.cells ((l.set i x).map f++rest).toArray t (0,0)):=by
 rw [setCell_blk h];simp only [List.setIfInBounds_toArray];rw [List.set_append_left _ _ (by rw [List.length_map];exact hi),List.map_set]
end
def ycF (v:W8) (buf:List Int) (n:Int):Array Value:=(v.list.map U32++(buf.map fB++[Value.int .i64 n])).toArray
abbrev oSt (v:W8) (buf:List Int) (n:Int):Obj:= .cells (ycF v buf n) 302
def KTab (w:World):Prop:=∀(i:Nat) (x:Int),kTab[i]? =some x->w.cell? ⟨1,i,none⟩=some (U32 x)
def zw (bs:List Int) (t:Nat):List Int:=sch bs t++List.replicate (64 - t) 0
theorem zw_len {bs:List Int} {t:Nat} (h:t<=64):(zw bs t).length=64:=by unfold zw;rw [List.length_append,yc8,List.length_replicate];omega
theorem yc6 {bs:List Int} {t i:Nat} (h:i < t):(zw bs t)[i]? =some ((sch bs t).getD i 0):=by
 unfold zw;rw [List.getElem?_append_left (by rw [yc8];exact h),List.getElem?_eq_getElem (by rw [yc8];exact h)];simp [List.getD,List.getElem?_eq_getElem (show i < (sch bs t).length by rw [yc8];exact h)]
theorem zw_set {bs:List Int} {t:Nat} (h:t < 64):(zw bs t).set t (if t < 16 then wordAt bs t else nextW (sch bs t) t)=zw bs (t+1):=by
 unfold zw;obtain ⟨k,G⟩:∃k,64 - t=k+1:=⟨64 - t - 1,by omega⟩
 rw [G,show 64 - (t+1)=k by omega,List.replicate_succ,List.set_append_right _ _ (by rw [yc8];exact Nat.le_refl _),yc8,Nat.sub_self,List.set_cons_zero];simp [sch]
theorem ydh {P:Program} (t e n:Nat) (i:TypeInfo) (d:TypeDesc) (ht:P.underlying t=some (.array n e)) (H:P.underlying e=some d) (hd:(match d with | .struct _ | .array _ _=>true |_=>false)=false) (hi:P.info? e=some i) (hs:i.size=1)
 (cs:Array Value) (k:IntKind) (j:Nat) (v:Value) (hj:j < n) (J:cs[j]? =some v) (w:World):(Instr.index t (.agg cs) (.int k (j:Int))).run P w= .ok v w:=by
 have G:(isAgg e).run P w= .ok false w:=by
  unfold isAgg;rw [Sem.run_bind,run_underlying H w];cases d<;>simp_all
 simp [Instr.index,asIntOf,run_underlying ht,part,Sem.run_bind,G,sizeOf,typeInfo,hi,hs,hj,J,Result.andThen]
theorem Tryz.infoU:(prog.info? 250).map (fun i=>(i.zero,i.size,i.bytes))=some (some (.int .u32 0),1,4):=by kernel_rfl
def RndP (ws:List Int) (v:W8) (W:World) (xa xb xc xd xe xf xg xh i:Value) (w2:World):Prop:=
 ∃(t:Nat) (r:W8) (nd:Nat),t<=64/\r=rnds ws v t/\xa=U32 r.a/\xb=U32 r.b/\xc=U32 r.c/\xd=U32 r.d/\xe=U32 r.e/\xf=U32 r.f/\xg=U32 r.g/\xh=U32 r.h/\i= .int .i64 t/\w2=W.drewN nd
def SumP (g gw gv:Nat) (v r:W8) (buf:List Int) (n:Int) (w:World) (i:Value) (w3:World):Prop:=
 ∃j:Nat,j<=8/\i= .int .i64 j/\w3.heap[g]? =some (.cells ((((addW v r).list.take j++v.list.drop j).map U32)++(buf.map fB++[Value.int .i64 n])).toArray 302 (0,0))/\w3.heap[gv]? =some (.cells (v.list.map U32++[]).toArray 251 (0,0))/\But (fun k=>k=g) w w3
theorem sum_set (v r:W8) {j:Nat} {x y:Int} (hj:j < 8) (G:r.list[j]? =some x) (H:v.list[j]? =some y):((addW v r).list.take j++v.list.drop j).set j ((y+x) % 4294967296)=(addW v r).list.take (j+1)++v.list.drop (j+1):=by
 obtain ⟨a,b,c,d,e,f,g,h⟩:=v;obtain ⟨a',M,N,L,O,J,K,T⟩:=r;rcases j with _ |_ |_ |_ |_ |_ |_ |_ |j
 all_goals first
  |(injection G with G;injection H with H;subst G H;rfl)
  |omega
theorem st_cells {w:World} {g:Nat} {v:W8} {buf:List Int} {n:Int} (h:w.heap[g]? =some (oSt v buf n)):w.cell? ⟨g,0,none⟩=some (U32 v.a)/\w.cell? ⟨g,1,none⟩=some (U32 v.b)/\w.cell? ⟨g,2,none⟩=some (U32 v.c)/\w.cell? ⟨g,3,none⟩=some (U32 v.d)/\w.cell? ⟨g,4,none⟩=some (U32 v.e)/\w.cell? ⟨g,5,none⟩=some (U32 v.f)/\w.cell? ⟨g,6,none⟩=some (U32 v.g)/\w.cell? ⟨g,7,none⟩=some (U32 v.h):=
 ⟨ybp h rfl,ybp h rfl,ybp h rfl,ybp h rfl,ybp h rfl,ybp h rfl,ybp h rfl,ybp h rfl⟩
theorem yc9 (g:Nat) (v:W8) (buf:List Int) (n:Int) (A:Option Addr) (c B:Nat) (bs:List Int) (w:World) (hg:w.heap[g]? =some (oSt v buf n)) (hb:Sl fB w B A 64 bs) (hB:B<=w.heap.size) (hr:∀x∈bs,0<=x/\x < 256) (hc:64<=c) (hk:KTab w) (aY:1 < w.heap.size) (bp:g≠1) (hv:W8ok v):
 Calls prog 242 #[.pointer (some ⟨g,0,none⟩),.slice A 64 c] w fun e w'=>e= .returned (.tuple #[])/\w'.heap[g]? =some (oSt (blk v bs) buf n)/\But (fun k=>k=g) w w':=by
 obtain ⟨b,a2,_,rfl,a7,_,_⟩:=hb.2.at_ (k:=0) (by rw [hb.1];omega);have HG:=lh hg;have aJ:=lh hb;have HR:=lh hr;have HK:=lh hk;have aA:=lh aY;have HGL:=lh (lb hg);have aQ:Hid (b < w.heap.size):=Nat.lt_of_lt_of_le a7 hB;have bf:=lh hv;have a3:Hid ((w.alloc (.cells (((zw bs 0).map U32)++[]).toArray 293)).heap[w.heap.size]? =some (.cells (((zw bs 0).map U32)++[]).toArray 293 (0,0))):=zy w _;clear hg hb hr hk aY hv;go_enter func242,ntmps242;go_wp2_with fail
 go_loopw [27] (fun i wr=>∃t:Nat,t<=64/\i= .int .i64 t/\Hid (wr.heap[w.heap.size]? =some (.cells ((zw bs t).map U32++[]).toArray 293 (0,0)))/\Hid (But (fun k=>k=w.heap.size) w wr)) (fun i _=>64 - (intOf i).toNat)
 case atStart=>exact ⟨0,by omega,rfl,a3,(But.refl _ _).alloc _⟩
 case round=>
  obtain ⟨t,ht,rfl,K,J⟩:=hrel
  by_cases hlt:t < 64
  ·by_cases aS:t < 16
   ·
    have h4:4*t+4 - 4*t=4:=by omega
    have am:∀k,k < 64->wr.cell? ⟨b,a2+k,none⟩=some (fB (bs.getD k 0))/\0<=bs.getD k 0/\bs.getD k 0 < 256:=fun k hk=>by
     obtain ⟨x,hx⟩:=ybM (xs:=bs) (k:=k) (by rw [aJ.out.1];exact hk);obtain ⟨b',bj,e,_,bh⟩:=aJ.out.2 (by rw [aJ.out.1];omega);cases e
     rw [ybw hx];exact ⟨(cB (w:=w) (J.out.block b aQ.out (Nat.ne_of_lt aQ.out))).trans (bh k x hx),HR.out x (List.mem_of_getElem? hx)⟩
    have ag:=am (4*t) om;have ai:=am (4*t+1) om;have a0:=am (4*t+2) om;have aW:=am (4*t+3) om
    have HT:Hid (∀y0 y1 y2 y3:Int,bs.getD (4*t) 0=y0->bs.getD (4*t+1) 0=y1->bs.getD (4*t+2) 0=y2->bs.getD (4*t+3) 0=y3->(zw bs t).set t (word4 y0 y1 y2 y3)=zw bs (t+1)):=by
     rintro y0 y1 y2 y3 rfl rfl rfl rfl;have h9:=zw_set (bs:=bs) hlt;rw [if_pos aS] at h9;exact h9
    obtain ⟨y0,aD⟩:=gx (bs.getD (4*t) 0);obtain ⟨y1,aw⟩:=gx (bs.getD (4*t+1) 0);obtain ⟨y2,aE⟩:=gx (bs.getD (4*t+2) 0);obtain ⟨y3,aK⟩:=gx (bs.getD (4*t+3) 0);have aH:=lh (HT.out y0 y1 y2 y3 aD aw aE aK);rw [aD] at ag;rw [aw,<-Nat.add_assoc] at ai;rw [aE,<-Nat.add_assoc] at a0;rw [aK,<-Nat.add_assoc] at aW;obtain ⟨c0,l0,u0⟩:=ag;obtain ⟨c1,l1,u1⟩:=ai;obtain ⟨c2,l2,u2⟩:=a0;obtain ⟨c3,l3,u3⟩:=aW;obtain ⟨z,hz⟩:=ybM (xs:=zw bs t) (k:=t) ya2;have az:=ybp K.out hz;have aT:=frozen_of_row wr w.heap.size t _ _ K.out;clear am aD aw aE aK hz HT;go_wp2
    go_still_tail 24,ya9
    repeat still_step
    try refine wpStill_nil ?_
    change wpList _ _ _ _ _ wr.drew
    go_wp2;go_roundw
    case rel=>exact ⟨t+1,by omega,by go_num,by
     show _=_;rw [<-aH.out]
     exact ydB (w:=wr.drew) K.out ya2,(J.out.drewN 1).setCell (.inl rfl) _⟩
    case measure=>simp [intOf];omega
   ·
    obtain ⟨p2,e2⟩:∃p,p=t - 2:=⟨_,rfl⟩
    obtain ⟨p7,e7⟩:∃p,p=t - 7:=⟨_,rfl⟩
    obtain ⟨ae,aN⟩:∃p,p=t - 15:=⟨_,rfl⟩
    obtain ⟨T,a1⟩:∃p,p=t - 16:=⟨_,rfl⟩
    have aI:=ybp K.out (yc6 (bs:=bs) (t:=t) (i:=p2) om);have aF:=ybp K.out (yc6 (bs:=bs) (t:=t) (i:=p7) om);have aV:=ybp K.out (yc6 (bs:=bs) (t:=t) (i:=ae) om);have aG:=ybp K.out (yc6 (bs:=bs) (t:=t) (i:=T) om)
    have HT:Hid (∀y14 y9 y1 y0:Int,(sch bs t).getD p2 0=y14->(sch bs t).getD p7 0=y9->(sch bs t).getD ae 0=y1->(sch bs t).getD T 0=y0->(zw bs t).set t (ad (ad (ad (sgB y14) y9) (sgA y1)) y0)=zw bs (t+1)):=by
     rintro _ _ _ _ rfl rfl rfl rfl;have h9:=zw_set (bs:=bs) hlt;rw [if_neg aS] at h9;subst e2 e7 aN a1;exact h9
    obtain ⟨aL,aC⟩:=ycZ bs t p2;obtain ⟨l9,u9⟩:=ycZ bs t p7;obtain ⟨l1,u1⟩:=ycZ bs t ae;obtain ⟨l0,u0⟩:=ycZ bs t T;obtain ⟨ah,ao⟩:=gx ((sch bs t).getD p2 0);obtain ⟨x9,ax⟩:=gx ((sch bs t).getD p7 0);obtain ⟨x1,ai⟩:=gx ((sch bs t).getD ae 0);obtain ⟨x0,ag⟩:=gx ((sch bs t).getD T 0);have aH:=lh (HT.out ah x9 x1 x0 ao ax ai ag);rw [ao] at aI aL aC;rw [ax] at aF l9 u9;rw [ai] at aV l1 u1;rw [ag] at aG l0 u0;have w2:IntKind.i64.wrap ((t:Int) - 2)=(p2:Int):=by rw [IntWalk.i64_in _ om];omega
    have w7:IntKind.i64.wrap ((t:Int) - 7)=(p7:Int):=by rw [IntWalk.i64_in _ om];omega
    have bq:IntKind.i64.wrap ((t:Int) - 15)=(ae:Int):=by rw [IntWalk.i64_in _ om];omega
    have bk:IntKind.i64.wrap ((t:Int) - 16)=(T:Int):=by rw [IntWalk.i64_in _ om];omega
    have q2:(p2:Int) < 64:=by omega
    have q7:(p7:Int) < 64:=by omega
    have bo:(ae:Int) < 64:=by omega
    have bz:(T:Int) < 64:=by omega
    clear e2 e7 aN a1;obtain ⟨z,hz⟩:=ybM (xs:=zw bs t) (k:=t) ya2;have az:=ybp K.out hz;have aT:=frozen_of_row wr w.heap.size t _ _ K.out;clear ao ax ai ag HT hz;go_wp2;go_quiet (fail)
    go_wp2_with (first
     |(go_at_call 262;(with_reducible (refine (yb7 ah 17 (-17) _ rfl de de aL aC).mono ?_));rintro e w6 ⟨rfl,rfl⟩)
     |(go_at_call 262;(with_reducible (refine (yb7 ah 19 (-19) _ rfl de de aL aC).mono ?_));rintro e w6 ⟨rfl,rfl⟩)
     |(go_at_call 262;(with_reducible (refine (yb7 x1 7 (-7) _ rfl de de l1 u1).mono ?_));rintro e w6 ⟨rfl,rfl⟩)
     |(go_at_call 262;(with_reducible (refine (yb7 x1 18 (-18) _ rfl de de l1 u1).mono ?_));rintro e w6 ⟨rfl,rfl⟩))
    generalize O:World.drewN wr _=W;replace aF:W.cell? ⟨w.heap.size,p7,none⟩=some (U32 x9):=by rw [<-O];exact aF
    replace aG:W.cell? ⟨w.heap.size,T,none⟩=some (U32 x0):=by rw [<-O];exact aG
    replace az:W.cell? ⟨w.heap.size,t,none⟩=some (U32 z):=by rw [<-O];exact az
    replace K:Hid (W.heap[w.heap.size]? =some (.cells ((zw bs t).map U32++[]).toArray 293 (0,0))):=by rw [<-O];exact K
    replace aT:=frozen_of_row W w.heap.size t _ _ K.out;replace J:Hid (But (fun k=>k=w.heap.size) w W):=by rw [<-O];exact J.out.drewN _
    clear O aI aV
    go_still_tail 15,ya9
    repeat still_step
    try refine wpStill_nil ?_
    change wpList _ _ _ _ _ W.drew
    go_wp2;go_roundw
    case rel=>exact ⟨t+1,by omega,by go_num,by
     show _=_;rw [<-aH.out,show ad (ad (ad (sgB ah) x9) (sgA x1)) x0=(sgB ah+x9+sgA x1+x0) % 4294967296 by unfold ad;omega]
     exact ydB (w:=W) (x:=(sgB ah+x9+sgA x1+x0) % 4294967296) K.out ya2,(J.out.setCell (.inl rfl) _).drewN 1⟩
    case measure=>simp [intOf];omega
  ·
   obtain rfl:t=64:=by omega
   have a5:Hid (wr.heap[g]? =some (oSt v buf n)):=(J.out.block g HGL.out (Nat.ne_of_lt HGL.out)).trans HG.out;obtain ⟨c0,c1,c2,c3,c4,c5,c6,c7⟩:=st_cells a5.out;have bc:Hid (KTab wr):=fun i x hx=>(cB (w:=w) (J.out.block 1 aA.out (Nat.ne_of_lt aA.out))).trans (HK.out i x hx);go_wp2;go_quiet (fail);generalize O:World.drewN (wr.alloc _) _=W
   have HV:Hid (W.heap[wr.heap.size]? =some (.cells #[U32 v.a,U32 v.b,U32 v.c,U32 v.d,U32 v.e,U32 v.f,U32 v.g,U32 v.h] 251 (0,0))):=by
    show _=_;rw [<-O];exact zy wr _
   have aU:Hid (But (fun k=>k=w.heap.size) w W):=by
    show But _ _ _;rw [<-O];exact (J.out.alloc _).drewN _
   have bm:Hid (wr.heap.size < W.heap.size):=lb HV.out
   have bb:Hid (W.heap[w.heap.size]? =some (.cells ((zw bs 64).map U32++[]).toArray 293 (0,0))):=by
    show _=_;rw [<-O];exact (zx wr _ _ (lb K.out)).trans K.out
   have a8:Hid (W.heap[1]? =wr.heap[1]?):=by
    show _=_;rw [<-O];exact zx wr _ 1 (Nat.lt_of_lt_of_le aA.out J.out.size)
   clear O c0 c1 c2 c3 c4 c5 c6 c7;go_wp2
   go_loopw [12,13,14,15,16,17,18,19,123] (fun xa xb xc xd xe xf xg xh i w2=>RndP (sch bs 64) v W xa xb xc xd xe xf xg xh i w2) (fun _ _ _ _ _ _ _ _ i _=>64 - (intOf i).toNat)
   case atStart=>exact ⟨0,v,0,by omega,rfl,rfl,rfl,rfl,rfl,rfl,rfl,rfl,rfl,rfl,rfl⟩
   case round=>
    obtain ⟨t,r,nd,ht,ak,rfl,rfl,rfl,rfl,rfl,rfl,rfl,rfl,rfl,rfl⟩:=hrel
    by_cases hlt:t < 64
    ·
     have aO:Hid (W8ok r):=by rw [ak];exact bf.out.rnds _ _
     have af:=aO.out.e;have ac:=aO.out.a;obtain ⟨xk,aB⟩:=ybM (xs:=kTab) (k:=t) hlt;obtain ⟨W2,aa⟩:∃W2,W2=World.drewN W nd:=⟨_,rfl⟩
     have aP:=bc.out t xk aB;replace aP:W2.cell? ⟨1,t,none⟩=some (U32 xk):=by rw [aa];exact (cB (w:=wr) (a8.out)).trans aP
     have au:=ybp bb.out (yc6 (bs:=bs) (t:=64) (i:=t) om);obtain ⟨Z,ay⟩:=gx ((sch bs 64).getD t 0);rw [ay] at au;replace au:W2.cell? ⟨w.heap.size,t,none⟩=some (U32 Z):=by rw [aa];exact au
     rw [<-aa];replace aa:=lh aa
     have a9:Hid (rnds (sch bs 64) v (t+1)=rnd r xk Z):=by
      show _=_;rw [rnds,<-ak,ay,ybw aB]
     have HA:=lh (rnd_a r xk Z);have HE:=lh (rnd_e r xk Z);have bi:=lh ak;clear ak ay aB;obtain ⟨H,U,Y,rd,G,N,M,L⟩:=r;have hq:(t:Int) < 64:=by omega
     go_wp2_with (first
      |(go_at_call 262;(with_reducible (refine (yb7 G 6 (-6) _ rfl de de af.1 af.2).mono ?_));rintro e w6 ⟨rfl,rfl⟩)
      |(go_at_call 262;(with_reducible (refine (yb7 G 11 (-11) _ rfl de de af.1 af.2).mono ?_));rintro e w6 ⟨rfl,rfl⟩)
      |(go_at_call 262;(with_reducible (refine (yb7 G 25 (-25) _ rfl de de af.1 af.2).mono ?_));rintro e w6 ⟨rfl,rfl⟩)
      |(go_at_call 262;(with_reducible (refine (yb7 H 2 (-2) _ rfl de de ac.1 ac.2).mono ?_));rintro e w6 ⟨rfl,rfl⟩)
      |(go_at_call 262;(with_reducible (refine (yb7 H 13 (-13) _ rfl de de ac.1 ac.2).mono ?_));rintro e w6 ⟨rfl,rfl⟩)
      |(go_at_call 262;(with_reducible (refine (yb7 H 22 (-22) _ rfl de de ac.1 ac.2).mono ?_));rintro e w6 ⟨rfl,rfl⟩))
     go_quiet (fail)
     generalize hT:(HMod.hMod (HAdd.hAdd _ Z) 4294967296:Int)=t1;generalize hS:(bits BinOp.xor IntKind.u32 (bits BinOp.xor IntKind.u32 (ror 2 H) _) _)=s0;generalize aR:(bits BinOp.xor IntKind.u32 (bits BinOp.xor IntKind.u32 (ror 6 G) _) _)=s1;generalize aX:World.drewN W2 _=W3;have HT:=lh hT;have HS:=lh hS;have bx:=lh aR;have a4:=lh aX;clear hT hS aR aX
     go_wp
     refine ⟨⟨_,_,_,_,_,_,_,_,_,_,_,_,_,_,_,_,_,_,_,_,_,_,_,_,_,_,_,_,_,_,_,_,_,_,_,_,_,_,_,_,_,_,_,_,_,_,_,_,_,_,_,_,_,_,_,_,_,_,_,_,_,_,_,_,_,_,_,_,_,_,_,_,_,_,_,_,_,_,?rel,rfl⟩,?measure⟩
     case rel=>
      have e1:t1=(L+sgC G+chX G N M+xk+Z) % 4294967296:=by rw [<-HT.out];exact t1_fold ..
      refine ⟨t+1,rnds (sch bs 64) v (t+1),nd+_,by omega,rfl,?_,?_,?_,?_,?_,?_,?_,?_,by go_num,(a4.out.symm.trans (by rw [aa.out])).trans (World.drewN_drewN ..)⟩
      all_goals rw [a9.out]
      ·rw [HA.out];refine congrArg U32 ?_;show (t1+(s0+majX H U Y) % 4294967296) % 4294967296=_;rw [e1,<-HS.out];show ((L+sgC G+chX G N M+xk+Z) % 4294967296+(sgD H+majX H U Y) % 4294967296) % 4294967296=((L+sgC G+chX G N M+xk+Z)+(sgD H+majX H U Y)) % 4294967296;omega
      ·rfl
      ·rfl
      ·rfl
      ·rw [HE.out];refine congrArg U32 ?_;rw [e1];show (rd+(L+sgC G+chX G N M+xk+Z) % 4294967296) % 4294967296=(rd+(L+sgC G+chX G N M+xk+Z)) % 4294967296;omega
      ·rfl
      ·rfl
      ·rfl
     case measure=>
      show 64 - ((t:Int)+1).toNat < 64 - (t:Int).toNat;omega
    ·
     obtain rfl:t=64:=by omega
     have HBr:Hid (r=rnds (sch bs 64) v 64):=ak;clear ak;have be:Hid (W.heap[g]? =some (oSt v buf n)):=(aU.out.block g HGL.out (Nat.ne_of_lt HGL.out)).trans HG.out;obtain ⟨H,U,Y,rd,G,N,M,L⟩:=r;go_wp2
     go_loopw [197] (fun i w3=>SumP g w.heap.size wr.heap.size v ⟨H,U,Y,rd,G,N,M,L⟩ buf n w i w3) (fun i _=>8 - (intOf i).toNat)
     case atStart=>exact ⟨0,by omega,rfl,be.out,HV.out,(aU.out.drewN nd).mono fun k hk=> .inr (by rw [hk];exact Nat.le_refl _)⟩
     case round=>
      obtain ⟨j,hj,rfl,aj,ap,ar⟩:=hrel;replace aj:=lh aj;replace ap:=lh ap;replace ar:=lh ar
      by_cases aq:j < 8
      ·obtain ⟨y,hy⟩:=ybM (xs:=v.list) (k:=j) aq;obtain ⟨x,hx⟩:=ybM (xs:=(W8.mk H U Y rd G N M L).list) (k:=j) aq;have bn:=ybp ap.out hy
       have aZ:(#[U32 H,U32 U,U32 Y,U32 rd,U32 G,U32 N,U32 M,U32 L]:Array Value)[j]? =some (U32 x):=by
        have:=congrArg (Option.map U32) hx;rw [<-List.getElem?_map] at this;rw [List.getElem?_toArray];exact this
       obtain ⟨iU,bg,_,ba,_⟩:=info_parts Tryz.infoU;have bu:=fun W=>ydh (P:=prog) 251 250 8 iU _ underlying251 underlying250 rfl bg ba #[U32 H,U32 U,U32 Y,U32 rd,U32 G,U32 N,U32 M,U32 L] .i64 j (U32 x) aq aZ W;clear aZ
       have aM:j < (((addW v ⟨H,U,Y,rd,G,N,M,L⟩).list.take j++v.list.drop j)).length:=by
        rw [List.length_append,List.length_take,List.length_drop];show j < min j 8+(8 - j);omega
       obtain ⟨z,hz⟩:=ybM aM;have bv:=ybp aj.out hz;have br:=frozen_of_row wr g j _ _ aj.out;have bw:(j:Int) < 8:=by omega
       have a6:=lh (sum_set v ⟨H,U,Y,rd,G,N,M,L⟩ aq hx hy);clear hy hx hz;go_wp2
       go_still_tail 10,ya9
       repeat still_step
       try refine wpStill_nil ?_
       change wpList _ _ _ _ _ wr.drew
       go_wp2;refine ⟨⟨_,_,_,_,_,_,_,_,_,_,_,_,_,_,_,_,_,?rel,rfl⟩,?measure⟩
       case rel=>
        refine ⟨j+1,by omega,by go_num,?_,?_,?_⟩
        ·rw [<-a6.out];exact ydB aj.out aM
        ·exact (Below.heap_setCell wr ⟨g,j,none⟩ (U32 ((y+x) % 4294967296)) _ (Nat.ne_of_gt (Nat.lt_of_lt_of_le HGL.out J.out.size))).trans ap.out
        ·exact (ar.out.setCell (.inl rfl) _).drewN 1
       case measure=>
        show 8 - ((j:Int)+1).toNat < 8 - (j:Int).toNat;omega
      ·obtain rfl:j=8:=by omega
       go_wp2
       go_end0
       refine ⟨rfl,?_,ar.out⟩;have he:blk v bs=addW v ⟨H,U,Y,rd,G,N,M,L⟩:=by unfold blk;rw [HBr.out]
       rw [he];exact aj.out
