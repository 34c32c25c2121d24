import Derived.Test.YtpdledjgbgalcaaGreatDoorMy
import Derived.Test.YtpdledjgbgalcaaGreatDoorMb
namespace Go.Proofs.YtpdledjgbgalcaaGreatDoor
set_option maxRecDepth 100000
set_option maxHeartbeats 8000000
open Go.RowKit Go.Proofs.Tryz
set_option linter.unusedVariables false
set_option linter.unusedSimpArgs false
def ror (n:Nat) (x:Int):Int:=bits .or .u32 (x / 2 ^ n) (x*2 ^ (32 - n) % 4294967296)
theorem bits_or_comm (k:IntKind) (x y:Int):bits .or k x y=bits .or k y x:=by
 unfold bits;simp only;rw [BitVec.or_comm]
theorem bits_rng (op:BinOp) (x y:Int):0<=bits op .u32 x y/\bits op .u32 x y<=4294967295:=by
 unfold bits;simp only;rw [IntKind.wrap_u32];omega
def word4 (a b c d:Int):Int:=bits .or .u32 (bits .or .u32 (bits .or .u32 (a*2 ^ 24) (b*2 ^ 16)) (c*2 ^ 8)) d
def sgA (x:Int):Int:=bits .xor .u32 (bits .xor .u32 (ror 7 x) (ror 18 x)) (x / 8)
def sgB (x:Int):Int:=bits .xor .u32 (bits .xor .u32 (ror 17 x) (ror 19 x)) (x / 1024)
def sgC (x:Int):Int:=bits .xor .u32 (bits .xor .u32 (ror 6 x) (ror 11 x)) (ror 25 x)
def sgD (x:Int):Int:=bits .xor .u32 (bits .xor .u32 (ror 2 x) (ror 13 x)) (ror 22 x)
def ad (x y:Int):Int:=(x+y) % 4294967296
theorem ycU (x y:Int):0<=ad x y/\ad x y<=4294967295:=by unfold ad;omega
def wordAt (bs:List Int) (t:Nat):Int:=word4 (bs.getD (4*t) 0) (bs.getD (4*t+1) 0) (bs.getD (4*t+2) 0) (bs.getD (4*t+3) 0)
def nextW (p:List Int) (t:Nat):Int:=ad (ad (ad (sgB (p.getD (t - 2) 0)) (p.getD (t - 7) 0)) (sgA (p.getD (t - 15) 0))) (p.getD (t - 16) 0)
def sch (bs:List Int):Nat->List Int
 |0=>[]
 |t+1=>sch bs t++[if t < 16 then wordAt bs t else nextW (sch bs t) t]
theorem ydk (bs:List Int):∀t,(sch bs t).length=t
 |0=>rfl
 |t+1=>by simp [sch,ydk bs t]
structure W8 where
 a:Int
 b:Int
 c:Int
 d:Int
 e:Int
 f:Int
 g:Int
 h:Int
def chX (e f g:Int):Int:=bits .xor .u32 (bits .and .u32 e f) (bits .and .u32 (bits .xor .u32 4294967295 e) g)
def majX (a b c:Int):Int:=bits .xor .u32 (bits .xor .u32 (bits .and .u32 a b) (bits .and .u32 a c)) (bits .and .u32 b c)
def t1X (v:W8) (k w:Int):Int:=ad (ad (ad (ad v.h (sgC v.e)) (chX v.e v.f v.g)) k) w
def t2X (v:W8):Int:=ad (sgD v.a) (majX v.a v.b v.c)
def rnd (v:W8) (k w:Int):W8:=⟨ad (t1X v k w) (t2X v),v.a,v.b,v.c,ad v.d (t1X v k w),v.e,v.f,v.g⟩
def kTab:List Int:=[1116352408,1899447441,3049323471,3921009573,961987163,1508970993,2453635748,2870763221,3624381080,310598401,607225278,1426881987,1925078388,2162078206,2614888103,3248222580,3835390401,4022224774,264347078,604807628,770255983,1249150122,1555081692,1996064986,2554220882,2821834349,2952996808,3210313671,3336571891,3584528711,113926993,338241895,666307205,773529912,1294757372,1396182291,1695183700,1986661051,2177026350,2456956037,2730485921,2820302411,3259730800,3345764771,3516065817,3600352804,4094571909,275423344,430227734,506948616,659060556,883997877,958139571,1322822218,1537002063,1747873779,1955562222,2024104815,2227730452,2361852424,2428436474,2756734187,3204031479,3329325298]
def hTab:W8:=⟨1779033703,3144134277,1013904242,2773480762,1359893119,2600822924,528734635,1541459225⟩
def rnds (ws:List Int) (v:W8):Nat->W8
 |0=>v
 |t+1=>rnd (rnds ws v t) (kTab.getD t 0) (ws.getD t 0)
def addW (v u:W8):W8:=⟨ad v.a u.a,ad v.b u.b,ad v.c u.c,ad v.d u.d,ad v.e u.e,ad v.f u.f,ad v.g u.g,ad v.h u.h⟩
def blk (v:W8) (bs:List Int):W8:=addW v (rnds (sch bs 64) v 64)
def W8.list (v:W8):List Int:=[v.a,v.b,v.c,v.d,v.e,v.f,v.g,v.h]
structure W8ok (v:W8):Prop where
 a:0<=v.a/\v.a<=4294967295
 b:0<=v.b/\v.b<=4294967295
 c:0<=v.c/\v.c<=4294967295
 d:0<=v.d/\v.d<=4294967295
 e:0<=v.e/\v.e<=4294967295
 f:0<=v.f/\v.f<=4294967295
 g:0<=v.g/\v.g<=4294967295
 h:0<=v.h/\v.h<=4294967295
theorem W8ok.rnd {v:W8} (h:W8ok v) (k w:Int):W8ok (rnd v k w):=⟨ycU ..,h.a,h.b,h.c,ycU ..,h.e,h.f,h.g⟩
theorem W8ok.rnds {v:W8} (h:W8ok v) (ws:List Int):∀t,W8ok (rnds ws v t)
 |0=>h
 |t+1=>(W8ok.rnds h ws t).rnd _ _
theorem W8ok.addW (v u:W8):W8ok (addW v u):=⟨ycU ..,ycU ..,ycU ..,ycU ..,ycU ..,ycU ..,ycU ..,ycU ..⟩
theorem W8ok.blk (v:W8) (bs:List Int):W8ok (blk v bs):=W8ok.addW ..
theorem hTab_ok:W8ok hTab:=by constructor<;>exact ⟨by decide,by decide⟩
theorem t1_sum (v:W8) (k w:Int):t1X v k w=(v.h+sgC v.e+chX v.e v.f v.g+k+w) % 4294967296:=by unfold t1X ad;omega
theorem rnd_a (v:W8) (k w:Int):(rnd v k w).a=((v.h+sgC v.e+chX v.e v.f v.g+k+w)+(sgD v.a+majX v.a v.b v.c)) % 4294967296:=by
 show ad _ _=_;rw [t1_sum];unfold t2X ad;omega
theorem rnd_e (v:W8) (k w:Int):(rnd v k w).e=(v.d+(v.h+sgC v.e+chX v.e v.f v.g+k+w)) % 4294967296:=by
 show ad _ _=_;rw [t1_sum];unfold ad;omega
theorem t1_fold (M G L J H K:Int):((M+bits .xor .u32 (bits .xor .u32 (ror 6 G) (ror 11 G)) (ror 25 G)+bits .xor .u32 (bits .and .u32 G L) (bits .and .u32 (bits .xor .u32 (if IntKind.u32.signed=true then -1 else IntKind.u32.max) G) J)+H) % 4294967296+K) % 4294967296=(M+sgC G+chX G L J+H+K) % 4294967296:=by
 have e:(if IntKind.u32.signed=true then -1 else IntKind.u32.max)=(4294967295:Int):=by decide
 rw [e];show ((M+sgC G+chX G L J+H) % 4294967296+K) % 4294967296=_;omega
theorem word_rng (bs:List Int) (t:Nat):0<=wordAt bs t/\wordAt bs t<=4294967295:=by unfold wordAt word4;exact bits_rng ..
theorem nextW_rng (p:List Int) (t:Nat):0<=nextW p t/\nextW p t<=4294967295:=by unfold nextW;exact ycU ..
theorem sch_rng (bs:List Int):∀t,∀x∈sch bs t,0<=x/\x<=4294967295
 |0,x,G=>by simp [sch] at G
 |t+1,x,G=>by
  simp only [sch,List.mem_append,List.mem_singleton] at G;rcases G with G |rfl
  ·exact sch_rng bs t x G
  ·split
   ·exact word_rng ..
   ·exact nextW_rng ..
theorem yc9 (bs:List Int) (t i:Nat):0<=(sch bs t).getD i 0/\(sch bs t).getD i 0<=4294967295:=by
 rcases h:(sch bs t)[i]? with _ |x
 ·simp [List.getD,h]
 ·have:=sch_rng bs t x (List.mem_of_getElem? h);simpa [List.getD,h] using this
theorem and31:∀k:Fin 32,0 < k.val->bits .and .u64 (IntKind.u64.wrap (-(k.val:Int))) 31=((32 - k.val:Nat):Int):=by decide+kernel
theorem ycg (x:Int) (k:Nat) (m:Int) (w:World) (G:m= -(k:Int)) (h0:0 < k) (h1:k < 32) (M:0<=x) (K:x<=4294967295):
 Calls prog 262 #[.int .u32 x,.int .i64 m] w fun e H=>e= .returned (.int .u32 (ror k x))/\w=H:=by
 subst G;obtain ⟨s,hs⟩:∃s:Nat,s=32 - k:=⟨_,rfl⟩
 have ha:bits .and .u64 (IntKind.u64.wrap (-(k:Int))) 31=(s:Int):=by rw [hs];exact and31 ⟨k,h1⟩ h0
 have L:IntKind.u64.wrap (32 - (s:Int))=(k:Int):=by rw [IntWalk.u64_in _ om];omega
 have HF:Hid (bits .or .u32 (x*2 ^ s % 4294967296) (x / 2 ^ k)=ror k x):=by
  show _=_;unfold ror;rw [hs,bits_or_comm]
 have J:s<=32:=by omega
 clear hs;go_enter func262,ntmps262;go_wp2;go_ret;exact ⟨ycQ HF.out,rfl⟩
theorem ych (x:Int) (k:Nat) (m:Int) (w:World) (G:m=(k:Int)) (h0:0 < k) (h1:k < 32) (M:0<=x) (L:x<=4294967295):
 Calls prog 235 #[.int .u32 x,.int .i64 m] w fun e H=>e= .returned (.int .u32 (ror k x))/\∃n,H=w.drewN n:=by
 subst G;have J:IntKind.i64.wrap (32 - (k:Int))=((32 - k:Nat):Int):=by rw [IntWalk.i64_in _ om];omega
 obtain ⟨s,hs⟩:∃s:Nat,s=32 - k:=⟨_,rfl⟩
 rw [<-hs] at J
 have HF:Hid (bits .or .u32 (x / 2 ^ k) (x*2 ^ s % 4294967296)=ror k x):=by
  show _=_;unfold ror;rw [hs]
 have K:s<=32:=by omega
 clear hs;go_enter func235,ntmps235;go_wp2;go_quiet (fail);go_wp2;go_ret;exact ⟨ycQ HF.out,_,rfl⟩
abbrev U32:=Value.int .u32
theorem setCell_blk {w:World} {g i:Nat} {u:Value} {cs:Array Value} {t:TypeId} {fr:Nat × Nat} (G:w.heap[g]? =some (.cells cs t fr)):(w.setCell ⟨g,i,none⟩ u).heap[g]? =some (.cells (cs.setIfInBounds i u) t fr):=by
 obtain ⟨hl,H⟩:=Array.getElem?_eq_some_iff.1 G;simp [World.setCell,Array.getElem?_modify,G]
section
variable {w:World} {b i:Nat} {l:List Int} {rest:List Value} {f:Int->Value} {t:TypeId} {fr:Nat × Nat} {x:Int}
theorem ybz (h:w.heap[b]? =some (.cells (l.map f++rest).toArray t fr)) (G:l[i]? =some x):w.cell? ⟨b,i,none⟩=some (f x):=by
 rw [cell_of_row w b i _ _ _ h,List.getElem?_toArray,List.getElem?_append_left (by rw [List.length_map];exact (List.getElem?_eq_some_iff.1 G).1),List.getElem?_map,G];rfl
theorem ydQ (h:w.heap[b]? =some (.cells (l.map f++rest).toArray t (0,0))) (hi:i < l.length):(w.setCell ⟨b,i,none⟩ (f x)).heap[b]? =some (.cells ((l.set i x).map f++rest).toArray t (0,0)):=by
 rw [setCell_blk h];simp only [List.setIfInBounds_toArray];rw [List.set_append_left _ _ (by rw [List.length_map];exact hi),List.map_set]
end
def ycI (v:W8) (buf:List Int) (n:Int):Array Value:=(v.list.map U32++(buf.map fB++[Value.int .i64 n])).toArray
abbrev oSt (v:W8) (buf:List Int) (n:Int):Obj:= .cells (ycI v buf n) 302
def KTab (w:World):Prop:=∀(i:Nat) (x:Int),kTab[i]? =some x->w.cell? ⟨1,i,none⟩=some (U32 x)
def zw (bs:List Int) (t:Nat):List Int:=sch bs t++List.replicate (64 - t) 0
theorem zw_len {bs:List Int} {t:Nat} (h:t<=64):(zw bs t).length=64:=by unfold zw;rw [List.length_append,ydk,List.length_replicate];omega
theorem ydh {bs:List Int} {t i:Nat} (h:i < t):(zw bs t)[i]? =some ((sch bs t).getD i 0):=by
 unfold zw;rw [List.getElem?_append_left (by rw [ydk];exact h),List.getElem?_eq_getElem (by rw [ydk];exact h)];simp [List.getD,List.getElem?_eq_getElem (show i < (sch bs t).length by rw [ydk];exact h)]
theorem zw_set {bs:List Int} {t:Nat} (h:t < 64):(zw bs t).set t (if t < 16 then wordAt bs t else nextW (sch bs t) t)=zw bs (t+1):=by
 unfold zw;obtain ⟨k,G⟩:∃k,64 - t=k+1:=⟨64 - t - 1,by omega⟩
 rw [G,show 64 - (t+1)=k by omega,List.replicate_succ,List.set_append_right _ _ (by rw [ydk];exact Nat.le_refl _),ydk,Nat.sub_self,List.set_cons_zero];simp [sch]
theorem ydw {P:Program} (t e n:Nat) (i:TypeInfo) (d:TypeDesc) (ht:P.underlying t=some (.array n e)) (H:P.underlying e=some d) (hd:(match d with | .struct _ | .array _ _=>true |_=>false)=false) (hi:P.info? e=some i) (hs:i.size=1)
 (cs:Array Value) (k:IntKind) (j:Nat) (v:Value) (hj:j < n) (J:cs[j]? =some v) (w:World):(Instr.index t (.agg cs) (.int k (j:Int))).run P w= .ok v w:=by
 have G:(isAgg e).run P w= .ok false w:=by
  unfold isAgg;rw [Sem.run_bind,run_underlying H w];cases d<;>simp_all
 simp [Instr.index,asIntOf,run_underlying ht,part,Sem.run_bind,G,sizeOf,typeInfo,hi,hs,hj,J,Result.andThen]
theorem Tryz.infoU:(prog.info? 250).map (fun i=>(i.zero,i.size,i.bytes))=some (some (.int .u32 0),1,4):=by kernel_rfl
def RndP (ws:List Int) (v:W8) (W:World) (xa xb xc xd xe xf xg xh i:Value) (w2:World):Prop:=
 ∃(t:Nat) (r:W8) (nd:Nat),t<=64/\r=rnds ws v t/\xa=U32 r.a/\xb=U32 r.b/\xc=U32 r.c/\xd=U32 r.d/\xe=U32 r.e/\xf=U32 r.f/\xg=U32 r.g/\xh=U32 r.h/\i= .int .i64 t/\w2=W.drewN nd
def SumP (g gw gv:Nat) (v r:W8) (buf:List Int) (n:Int) (w:World) (i:Value) (w3:World):Prop:=
 ∃j:Nat,j<=8/\i= .int .i64 j/\w3.heap[g]? =some (.cells ((((addW v r).list.take j++v.list.drop j).map U32)++(buf.map fB++[Value.int .i64 n])).toArray 302 (0,0))/\w3.heap[gv]? =some (.cells (v.list.map U32++[]).toArray 251 (0,0))/\But (fun k=>k=g) w w3
theorem sum_set (v r:W8) {j:Nat} {x y:Int} (hj:j < 8) (H:r.list[j]? =some x) (G:v.list[j]? =some y):((addW v r).list.take j++v.list.drop j).set j ((y+x) % 4294967296)=(addW v r).list.take (j+1)++v.list.drop (j+1):=by
 obtain ⟨a,b,c,d,e,f,g,h⟩:=v;obtain ⟨a',N,L,K,O,M,T,J⟩:=r;rcases j with _ |_ |_ |_ |_ |_ |_ |_ |j
 all_goals first
  |(injection H with H;injection G with G;subst H G;rfl)
  |omega
theorem st_cells {w:World} {g:Nat} {v:W8} {buf:List Int} {n:Int} (h:w.heap[g]? =some (oSt v buf n)):w.cell? ⟨g,0,none⟩=some (U32 v.a)/\w.cell? ⟨g,1,none⟩=some (U32 v.b)/\w.cell? ⟨g,2,none⟩=some (U32 v.c)/\w.cell? ⟨g,3,none⟩=some (U32 v.d)/\w.cell? ⟨g,4,none⟩=some (U32 v.e)/\w.cell? ⟨g,5,none⟩=some (U32 v.f)/\w.cell? ⟨g,6,none⟩=some (U32 v.g)/\w.cell? ⟨g,7,none⟩=some (U32 v.h):=
 ⟨ybz h rfl,ybz h rfl,ybz h rfl,ybz h rfl,ybz h rfl,ybz h rfl,ybz h rfl,ybz h rfl⟩
theorem ydl (g:Nat) (v:W8) (buf:List Int) (n:Int) (A:Option Addr) (c B:Nat) (bs:List Int) (w:World) (hg:w.heap[g]? =some (oSt v buf n)) (hb:Sl fB w B A 64 bs) (hB:B<=w.heap.size) (hr:∀x∈bs,0<=x/\x < 256) (hc:64<=c) (hk:KTab w) (aZ:1 < w.heap.size) (bv:g≠1) (hv:W8ok v):
 Calls prog 242 #[.pointer (some ⟨g,0,none⟩),.slice A 64 c] w fun e w'=>e= .returned (.tuple #[])/\w'.heap[g]? =some (oSt (blk v bs) buf n)/\But (fun k=>k=g) w w':=by
 obtain ⟨b,a9,_,rfl,a1,_,_⟩:=hb.2.at_ (k:=0) (by rw [hb.1];omega);have HG:=lh hg;have aJ:=lh hb;have HR:=lh hr;have HK:=lh hk;have aC:=lh aZ;have HGL:=lh (lb hg);have aT:Hid (b < w.heap.size):=Nat.lt_of_lt_of_le a1 hB;have a3:=lh hv;have bf:Hid ((w.alloc (.cells (((zw bs 0).map U32)++[]).toArray 293)).heap[w.heap.size]? =some (.cells (((zw bs 0).map U32)++[]).toArray 293 (0,0))):=zy w _;clear hg hb hr hk aZ hv;go_enter func242,ntmps242;go_wp2_with fail
 go_loopw [27] (fun i wr=>∃t:Nat,t<=64/\i= .int .i64 t/\Hid (wr.heap[w.heap.size]? =some (.cells ((zw bs t).map U32++[]).toArray 293 (0,0)))/\Hid (But (fun k=>k=w.heap.size) w wr)) (fun i _=>64 - (intOf i).toNat)
 case atStart=>exact ⟨0,by omega,rfl,bf,(But.refl _ _).alloc _⟩
 case round=>
  obtain ⟨t,ht,rfl,K,J⟩:=hrel
  by_cases hlt:t < 64
  ·by_cases aQ:t < 16
   ·
    have h4:4*t+4 - 4*t=4:=by omega
    have al:∀k,k < 64->wr.cell? ⟨b,a9+k,none⟩=some (fB (bs.getD k 0))/\0<=bs.getD k 0/\bs.getD k 0 < 256:=fun k hk=>by
     obtain ⟨x,hx⟩:=ybQ (xs:=bs) (k:=k) (by rw [aJ.out.1];exact hk);obtain ⟨b',bj,e,_,a5⟩:=aJ.out.2 (by rw [aJ.out.1];omega);cases e
     rw [ybA hx];exact ⟨(cB (w:=w) (J.out.block b aT.out (Nat.ne_of_lt aT.out))).trans (a5 k x hx),HR.out x (List.mem_of_getElem? hx)⟩
    have af:=al (4*t) om;have ai:=al (4*t+1) om;have aM:=al (4*t+2) om;have aR:=al (4*t+3) om
    have HT:Hid (∀y0 y1 y2 y3:Int,bs.getD (4*t) 0=y0->bs.getD (4*t+1) 0=y1->bs.getD (4*t+2) 0=y2->bs.getD (4*t+3) 0=y3->(zw bs t).set t (word4 y0 y1 y2 y3)=zw bs (t+1)):=by
     rintro y0 y1 y2 y3 rfl rfl rfl rfl;have h9:=zw_set (bs:=bs) hlt;rw [if_pos aQ] at h9;exact h9
    obtain ⟨y0,aF⟩:=gX (bs.getD (4*t) 0);obtain ⟨y1,ar⟩:=gX (bs.getD (4*t+1) 0);obtain ⟨y2,aA⟩:=gX (bs.getD (4*t+2) 0);obtain ⟨y3,aI⟩:=gX (bs.getD (4*t+3) 0);have ax:=lh (HT.out y0 y1 y2 y3 aF ar aA aI);rw [aF] at af;rw [ar,<-Nat.add_assoc] at ai;rw [aA,<-Nat.add_assoc] at aM;rw [aI,<-Nat.add_assoc] at aR;obtain ⟨c0,l0,u0⟩:=af;obtain ⟨c1,l1,u1⟩:=ai;obtain ⟨c2,l2,u2⟩:=aM;obtain ⟨c3,l3,u3⟩:=aR;obtain ⟨z,hz⟩:=ybQ (xs:=zw bs t) (k:=t) ya9;have az:=ybz K.out hz;have aP:=frozen_of_row wr w.heap.size t _ _ K.out;clear al aF ar aA aI hz HT;go_wp2
    go_still_tail 24,ybi
    repeat still_step
    try refine wpStill_nil ?_
    change wpList _ _ _ _ _ wr.drew
    go_wp2;go_roundw
    case rel=>exact ⟨t+1,by omega,by go_num,by
     show _=_;rw [<-ax.out]
     exact ydQ (w:=wr.drew) K.out ya9,(J.out.drewN 1).setCell (.inl rfl) _⟩
    case measure=>simp [intOf];omega
   ·
    obtain ⟨p2,e2⟩:∃p,p=t - 2:=⟨_,rfl⟩
    obtain ⟨p7,e7⟩:∃p,p=t - 7:=⟨_,rfl⟩
    obtain ⟨aa,aO⟩:∃p,p=t - 15:=⟨_,rfl⟩
    obtain ⟨U,aS⟩:∃p,p=t - 16:=⟨_,rfl⟩
    have aB:=ybz K.out (ydh (bs:=bs) (t:=t) (i:=p2) om);have aK:=ybz K.out (ydh (bs:=bs) (t:=t) (i:=p7) om);have a0:=ybz K.out (ydh (bs:=bs) (t:=t) (i:=aa) om);have ay:=ybz K.out (ydh (bs:=bs) (t:=t) (i:=U) om)
    have HT:Hid (∀y14 y9 y1 y0:Int,(sch bs t).getD p2 0=y14->(sch bs t).getD p7 0=y9->(sch bs t).getD aa 0=y1->(sch bs t).getD U 0=y0->(zw bs t).set t (ad (ad (ad (sgB y14) y9) (sgA y1)) y0)=zw bs (t+1)):=by
     rintro _ _ _ _ rfl rfl rfl rfl;have h9:=zw_set (bs:=bs) hlt;rw [if_neg aQ] at h9;subst e2 e7 aO aS;exact h9
    obtain ⟨au,aD⟩:=yc9 bs t p2;obtain ⟨l9,u9⟩:=yc9 bs t p7;obtain ⟨l1,u1⟩:=yc9 bs t aa;obtain ⟨l0,u0⟩:=yc9 bs t U;obtain ⟨aj,am⟩:=gX ((sch bs t).getD p2 0);obtain ⟨x9,aE⟩:=gX ((sch bs t).getD p7 0);obtain ⟨x1,ai⟩:=gX ((sch bs t).getD aa 0);obtain ⟨x0,af⟩:=gX ((sch bs t).getD U 0);have ax:=lh (HT.out aj x9 x1 x0 am aE ai af);rw [am] at aB au aD;rw [aE] at aK l9 u9;rw [ai] at a0 l1 u1;rw [af] at ay l0 u0;have w2:IntKind.i64.wrap ((t:Int) - 2)=(p2:Int):=by rw [IntWalk.i64_in _ om];omega
    have w7:IntKind.i64.wrap ((t:Int) - 7)=(p7:Int):=by rw [IntWalk.i64_in _ om];omega
    have bw:IntKind.i64.wrap ((t:Int) - 15)=(aa:Int):=by rw [IntWalk.i64_in _ om];omega
    have bA:IntKind.i64.wrap ((t:Int) - 16)=(U:Int):=by rw [IntWalk.i64_in _ om];omega
    have q2:(p2:Int) < 64:=by omega
    have q7:(p7:Int) < 64:=by omega
    have bz:(aa:Int) < 64:=by omega
    have br:(U:Int) < 64:=by omega
    clear e2 e7 aO aS;obtain ⟨z,hz⟩:=ybQ (xs:=zw bs t) (k:=t) ya9;have az:=ybz K.out hz;have aP:=frozen_of_row wr w.heap.size t _ _ K.out;clear am aE ai af HT hz;go_wp2;go_quiet (fail)
    go_wp2_with (first
     |(go_at_call 262;(with_reducible (refine (ycg aj 17 (-17) _ rfl de de au aD).mono ?_));rintro e w6 ⟨rfl,rfl⟩)
     |(go_at_call 262;(with_reducible (refine (ycg aj 19 (-19) _ rfl de de au aD).mono ?_));rintro e w6 ⟨rfl,rfl⟩)
     |(go_at_call 262;(with_reducible (refine (ycg x1 7 (-7) _ rfl de de l1 u1).mono ?_));rintro e w6 ⟨rfl,rfl⟩)
     |(go_at_call 262;(with_reducible (refine (ycg x1 18 (-18) _ rfl de de l1 u1).mono ?_));rintro e w6 ⟨rfl,rfl⟩))
    generalize O:World.drewN wr _=W;replace aK:W.cell? ⟨w.heap.size,p7,none⟩=some (U32 x9):=by rw [<-O];exact aK
    replace ay:W.cell? ⟨w.heap.size,U,none⟩=some (U32 x0):=by rw [<-O];exact ay
    replace az:W.cell? ⟨w.heap.size,t,none⟩=some (U32 z):=by rw [<-O];exact az
    replace K:Hid (W.heap[w.heap.size]? =some (.cells ((zw bs t).map U32++[]).toArray 293 (0,0))):=by rw [<-O];exact K
    replace aP:=frozen_of_row W w.heap.size t _ _ K.out;replace J:Hid (But (fun k=>k=w.heap.size) w W):=by rw [<-O];exact J.out.drewN _
    clear O aB a0
    go_still_tail 15,ybi
    repeat still_step
    try refine wpStill_nil ?_
    change wpList _ _ _ _ _ W.drew
    go_wp2;go_roundw
    case rel=>exact ⟨t+1,by omega,by go_num,by
     show _=_;rw [<-ax.out,show ad (ad (ad (sgB aj) x9) (sgA x1)) x0=(sgB aj+x9+sgA x1+x0) % 4294967296 by unfold ad;omega]
     exact ydQ (w:=W) (x:=(sgB aj+x9+sgA x1+x0) % 4294967296) K.out ya9,(J.out.setCell (.inl rfl) _).drewN 1⟩
    case measure=>simp [intOf];omega
  ·
   obtain rfl:t=64:=by omega
   have a2:Hid (wr.heap[g]? =some (oSt v buf n)):=(J.out.block g HGL.out (Nat.ne_of_lt HGL.out)).trans HG.out;obtain ⟨c0,c1,c2,c3,c4,c5,c6,c7⟩:=st_cells a2.out;have bg:Hid (KTab wr):=fun i x hx=>(cB (w:=w) (J.out.block 1 aC.out (Nat.ne_of_lt aC.out))).trans (HK.out i x hx);go_wp2;go_quiet (fail);generalize O:World.drewN (wr.alloc _) _=W
   have HV:Hid (W.heap[wr.heap.size]? =some (.cells #[U32 v.a,U32 v.b,U32 v.c,U32 v.d,U32 v.e,U32 v.f,U32 v.g,U32 v.h] 251 (0,0))):=by
    show _=_;rw [<-O];exact zy wr _
   have aV:Hid (But (fun k=>k=w.heap.size) w W):=by
    show But _ _ _;rw [<-O];exact (J.out.alloc _).drewN _
   have bq:Hid (wr.heap.size < W.heap.size):=lb HV.out
   have a4:Hid (W.heap[w.heap.size]? =some (.cells ((zw bs 64).map U32++[]).toArray 293 (0,0))):=by
    show _=_;rw [<-O];exact (zx wr _ _ (lb K.out)).trans K.out
   have be:Hid (W.heap[1]? =wr.heap[1]?):=by
    show _=_;rw [<-O];exact zx wr _ 1 (Nat.lt_of_lt_of_le aC.out J.out.size)
   clear O c0 c1 c2 c3 c4 c5 c6 c7;go_wp2
   go_loopw [12,13,14,15,16,17,18,19,123] (fun xa xb xc xd xe xf xg xh i w2=>RndP (sch bs 64) v W xa xb xc xd xe xf xg xh i w2) (fun _ _ _ _ _ _ _ _ i _=>64 - (intOf i).toNat)
   case atStart=>exact ⟨0,v,0,by omega,rfl,rfl,rfl,rfl,rfl,rfl,rfl,rfl,rfl,rfl,rfl⟩
   case round=>
    obtain ⟨t,r,nd,ht,ae,rfl,rfl,rfl,rfl,rfl,rfl,rfl,rfl,rfl,rfl⟩:=hrel
    by_cases hlt:t < 64
    ·
     have aN:Hid (W8ok r):=by rw [ae];exact a3.out.rnds _ _
     have ak:=aN.out.e;have ac:=aN.out.a;obtain ⟨Z,aw⟩:=ybQ (xs:=kTab) (k:=t) hlt;obtain ⟨W2,ah⟩:∃W2,W2=World.drewN W nd:=⟨_,rfl⟩
     have aU:=bg.out t Z aw;replace aU:W2.cell? ⟨1,t,none⟩=some (U32 Z):=by rw [ah];exact (cB (w:=wr) (be.out)).trans aU
     have aH:=ybz a4.out (ydh (bs:=bs) (t:=64) (i:=t) om);obtain ⟨xw,aG⟩:=gX ((sch bs 64).getD t 0);rw [aG] at aH;replace aH:W2.cell? ⟨w.heap.size,t,none⟩=some (U32 xw):=by rw [ah];exact aH
     rw [<-ah];replace ah:=lh ah
     have a8:Hid (rnds (sch bs 64) v (t+1)=rnd r Z xw):=by
      show _=_;rw [rnds,<-ae,aG,ybA aw]
     have HA:=lh (rnd_a r Z xw);have HE:=lh (rnd_e r Z xw);have bk:=lh ae;clear ae aG aw;obtain ⟨H,Y,T,rd,G,M,N,L⟩:=r;have hq:(t:Int) < 64:=by omega
     go_wp2_with (first
      |(go_at_call 262;(with_reducible (refine (ycg G 6 (-6) _ rfl de de ak.1 ak.2).mono ?_));rintro e w6 ⟨rfl,rfl⟩)
      |(go_at_call 262;(with_reducible (refine (ycg G 11 (-11) _ rfl de de ak.1 ak.2).mono ?_));rintro e w6 ⟨rfl,rfl⟩)
      |(go_at_call 262;(with_reducible (refine (ycg G 25 (-25) _ rfl de de ak.1 ak.2).mono ?_));rintro e w6 ⟨rfl,rfl⟩)
      |(go_at_call 262;(with_reducible (refine (ycg H 2 (-2) _ rfl de de ac.1 ac.2).mono ?_));rintro e w6 ⟨rfl,rfl⟩)
      |(go_at_call 262;(with_reducible (refine (ycg H 13 (-13) _ rfl de de ac.1 ac.2).mono ?_));rintro e w6 ⟨rfl,rfl⟩)
      |(go_at_call 262;(with_reducible (refine (ycg H 22 (-22) _ rfl de de ac.1 ac.2).mono ?_));rintro e w6 ⟨rfl,rfl⟩))
     go_quiet (fail)
     generalize hT:(HMod.hMod (HAdd.hAdd _ xw) 4294967296:Int)=t1;generalize hS:(bits BinOp.xor IntKind.u32 (bits BinOp.xor IntKind.u32 (ror 2 H) _) _)=s0;generalize aW:(bits BinOp.xor IntKind.u32 (bits BinOp.xor IntKind.u32 (ror 6 G) _) _)=s1;generalize aY:World.drewN W2 _=W3;have HT:=lh hT;have HS:=lh hS;have bu:=lh aW;have bb:=lh aY;clear hT hS aW aY
     go_wp
     refine ⟨⟨_,_,_,_,_,_,_,_,_,_,_,_,_,_,_,_,_,_,_,_,_,_,_,_,_,_,_,_,_,_,_,_,_,_,_,_,_,_,_,_,_,_,_,_,_,_,_,_,_,_,_,_,_,_,_,_,_,_,_,_,_,_,_,_,_,_,_,_,_,_,_,_,_,_,_,_,_,_,?rel,rfl⟩,?measure⟩
     case rel=>
      have e1:t1=(L+sgC G+chX G M N+Z+xw) % 4294967296:=by rw [<-HT.out];exact t1_fold ..
      refine ⟨t+1,rnds (sch bs 64) v (t+1),nd+_,by omega,rfl,?_,?_,?_,?_,?_,?_,?_,?_,by go_num,(bb.out.symm.trans (by rw [ah.out])).trans (World.drewN_drewN ..)⟩
      all_goals rw [a8.out]
      ·rw [HA.out];refine congrArg U32 ?_;show (t1+(s0+majX H Y T) % 4294967296) % 4294967296=_;rw [e1,<-HS.out];show ((L+sgC G+chX G M N+Z+xw) % 4294967296+(sgD H+majX H Y T) % 4294967296) % 4294967296=((L+sgC G+chX G M N+Z+xw)+(sgD H+majX H Y T)) % 4294967296;omega
      ·rfl
      ·rfl
      ·rfl
      ·rw [HE.out];refine congrArg U32 ?_;rw [e1];show (rd+(L+sgC G+chX G M N+Z+xw) % 4294967296) % 4294967296=(rd+(L+sgC G+chX G M N+Z+xw)) % 4294967296;omega
      ·rfl
      ·rfl
      ·rfl
     case measure=>
      show 64 - ((t:Int)+1).toNat < 64 - (t:Int).toNat;omega
    ·
     obtain rfl:t=64:=by omega
     have HBr:Hid (r=rnds (sch bs 64) v 64):=ae;clear ae;have a7:Hid (W.heap[g]? =some (oSt v buf n)):=(aV.out.block g HGL.out (Nat.ne_of_lt HGL.out)).trans HG.out;obtain ⟨H,Y,T,rd,G,M,N,L⟩:=r;go_wp2
     go_loopw [197] (fun i w3=>SumP g w.heap.size wr.heap.size v ⟨H,Y,T,rd,G,M,N,L⟩ buf n w i w3) (fun i _=>8 - (intOf i).toNat)
     case atStart=>exact ⟨0,by omega,rfl,a7.out,HV.out,(aV.out.drewN nd).mono fun k hk=> .inr (by rw [hk];exact Nat.le_refl _)⟩
     case round=>
      obtain ⟨j,hj,rfl,ag,ap,aq⟩:=hrel;replace ag:=lh ag;replace ap:=lh ap;replace aq:=lh aq
      by_cases ao:j < 8
      ·obtain ⟨y,hy⟩:=ybQ (xs:=v.list) (k:=j) ao;obtain ⟨x,hx⟩:=ybQ (xs:=(W8.mk H Y T rd G M N L).list) (k:=j) ao;have bx:=ybz ap.out hy
       have aL:(#[U32 H,U32 Y,U32 T,U32 rd,U32 G,U32 M,U32 N,U32 L]:Array Value)[j]? =some (U32 x):=by
        have:=congrArg (Option.map U32) hx;rw [<-List.getElem?_map] at this;rw [List.getElem?_toArray];exact this
       obtain ⟨iU,bh,_,a6,_⟩:=info_parts Tryz.infoU;have bm:=fun W=>ydw (P:=prog) 251 250 8 iU _ underlying251 underlying250 rfl bh a6 #[U32 H,U32 Y,U32 T,U32 rd,U32 G,U32 M,U32 N,U32 L] .i64 j (U32 x) ao aL W;clear aL
       have aX:j < (((addW v ⟨H,Y,T,rd,G,M,N,L⟩).list.take j++v.list.drop j)).length:=by
        rw [List.length_append,List.length_take,List.length_drop];show j < min j 8+(8 - j);omega
       obtain ⟨z,hz⟩:=ybQ aX;have bp:=ybz ag.out hz;have bo:=frozen_of_row wr g j _ _ ag.out;have bB:(j:Int) < 8:=by omega
       have bi:=lh (sum_set v ⟨H,Y,T,rd,G,M,N,L⟩ ao hx hy);clear hy hx hz;go_wp2
       go_still_tail 10,ybi
       repeat still_step
       try refine wpStill_nil ?_
       change wpList _ _ _ _ _ wr.drew
       go_wp2;refine ⟨⟨_,_,_,_,_,_,_,_,_,_,_,_,_,_,_,_,_,?rel,rfl⟩,?measure⟩
       case rel=>
        refine ⟨j+1,by omega,by go_num,?_,?_,?_⟩
        ·rw [<-bi.out];exact ydQ ag.out aX
        ·exact (Below.heap_setCell wr ⟨g,j,none⟩ (U32 ((y+x) % 4294967296)) _ (Nat.ne_of_gt (Nat.lt_of_lt_of_le HGL.out J.out.size))).trans ap.out
        ·exact (aq.out.setCell (.inl rfl) _).drewN 1
       case measure=>
        show 8 - ((j:Int)+1).toNat < 8 - (j:Int).toNat;omega
      ·obtain rfl:j=8:=by omega
       go_wp2
       go_end0
       refine ⟨rfl,?_,aq.out⟩;have he:blk v bs=addW v ⟨H,Y,T,rd,G,M,N,L⟩:=by unfold blk;rw [HBr.out]
       rw [he];exact ag.out
def encL (xs:List Int):List Int:=xs.flatMap fun x=>enc x.toNat
def encV (xs:List Int):List Int:=enc (nrm xs).length++encL (nrm xs)
theorem encL_len (xs:List Int):(encL xs).length<=10*xs.length:=by
 induction xs with
 |nil=>simp [encL]
 |cons x xs ih=>
  have:=ybx x.toNat;simp only [encL,List.flatMap_cons,List.length_append,List.length_cons] at ih ⊢;omega
theorem ycA (xs:List Int) (x:Int):encL (xs++[x])=encL xs++enc x.toNat:=by simp [encL]
theorem nrm_inR {xs:List Int} (h:xs.all inR=true):(nrm xs).all inR=true:=by
 rw [List.all_eq_true] at h ⊢;exact fun z hz=>h z (List.mem_of_mem_take hz)
theorem nrm_len (xs:List Int):(nrm xs).length<=xs.length:=by rw [nrm,List.length_take];omega
def EncPost (xs:List Int) (w:World) (e:Ending) (w':World):Prop:=
 (ybt xs=true/\Slc2 fB (encV xs) 0 w e w')∨(ybt xs=false/\Slc2 fB ([]:List Int) 1 w e w')
theorem encode_any (A:Option Addr) (n:Nat) (xs:List Int) (c:Nat) (w:World) (B:Nat) (hx:Sl I w B A n xs) (hB:B<=w.heap.size) (hl:n<=1000000):
 Calls prog 69 #[.slice A n c] w (EncPost xs w):=by
 have HX:=lh hx;clear hx;obtain ⟨G,L⟩:∃p,p=pd xs:=⟨_,rfl⟩
 have c1:Hid (∀W,Sl I W B A n xs->B<=W.heap.size->Calls prog 133 #[.slice A n c] W fun e w'=>e= .returned (.tuple #[.agg (av G),.bool (ybt xs)])/\Below W.heap.size W w'):=fun W h hb=>by rw [L];exact padded_any A n xs c W B h hb hl
 have S1:Hid ((prog.info? 212).map (·.size)=some (av G).size):=L▸pd_size57 xs;have T1:Hid (Z12.toArray.size=(av G).size):=L▸pd_sizeZ xs;have L1:Hid (G.length=12):=L▸pd_len xs;have ac:=lh L;clear L
 by_cases N:ybt xs=true
 ·have HN:Hid (nrm G=nrm xs):=by show _=_;rw [ac.out,pd_yes N,nrm_pad (ydv N)]
  have ar:Hid ((nrm G).all inR=true):=nrm_inR (by rw [ac.out,pd_yes N];exact pad_inR N);have ao:Hid ((nrm G).length<=12):=by show _<=_;have:=nrm_len G;have:=L1.out;omega
  have HV:=lh N;go_enter func69,ntmps69;go_wp2_with fail;refine (c1.out _ HX.out hB).mono ?_;rintro e w1 ⟨rfl,K⟩;have HB1:=lh K;have Y:=K.size;clear K
  go_wp2_with (first
   |(with_reducible refine ybr (o:=⟨none,.store 212 (.tmp 4) (.tmp 13),_,_,_,_⟩) rfl 212 (.tmp 4) (.tmp 13) rfl 212 Z12.toArray (av G) rfl rfl S1.out T1.out (av_one _) ?_)
   |(with_reducible refine wpList_load_row (o:=⟨some 17,_,_,_,_,_⟩) rfl 212 (.tmp 4) rfl w1.heap.size rfl 212 (av G) (0,0) _ (zy w1 _) underlying212 rfl S1.out ?_)
   |(go_at_call 134;refine (normal_any _ _ L1.out).mono ?_;rintro e H ⟨A2,J,c2,rfl,h1,h2,z⟩
     have H2:=lh h2;have af:Hid (Below w.heap.size w H):=(HB1.out.alloc Y _).trans (z.mono ybh);have aq:=af.out.size;have ay:J<=12:=by rw [<-h2.1];exact ao.out
     have T:Hid ((nrm G).length=J):=h2.1
     clear h2 z)
   |(go_at_call 72;refine (ycH _).mono ?_;rintro e w3 ⟨rfl,rfl⟩)
   |(go_at_call 76;refine (wcount_any H.heap.size (H.heap.size+1) _ [] J _ (Wr.new H) om sI).mono ?_;rintro e w4 ⟨v4,rfl,O,ah,ai⟩
     have HW4:Hid (Wr w4 H.heap.size (H.heap.size+1) v4 (enc J)):=by have h:=O;rw [List.nil_append] at h;exact h
     have ag:Hid (Below H.heap.size H w4):=bl.trans (ah.below sI fun i hi=>by
      rcases hi with rfl |hi
      ·exact Nat.le_refl _
      ·simp [Value.ownBlock] at hi)
     clear O ah ai))
  go_loopw [26] (fun i wr=>∃(k:Nat) (v:Value),k<=J/\i= .int .i64 k/\Hid (Wr wr H.heap.size (H.heap.size+1) v (enc J++encL ((nrm G).take k)))/\Hid (Below H.heap.size H wr)) (fun i _=>J - (intOf i).toNat)
  case atStart=>exact ⟨0,v4,by omega,rfl,by show Wr _ _ _ _ _;rw [List.take_zero];simp only [encL,List.flatMap_nil,List.append_nil];exact HW4.out,ag⟩
  case round=>
   obtain ⟨k,v,hk,rfl,HW,M⟩:=hrel;clear HW4 ag
   have aw:(enc J++encL ((nrm G).take k)).length<=130:=by
    have h1:=ybx J;have h2:=encL_len ((nrm G).take k);rw [List.length_append];rw [List.length_take] at h2;omega
   by_cases hlt:k < J
   ·obtain ⟨b,ax,x,rfl,_,Z,hc⟩:=SL.at_ (H2.out.up M.out nl).2 (k:=k) (by rw [T.out];exact hlt);have aa:=List.all_eq_true.1 ar.out x (List.mem_of_getElem? Z);simp only [inR,Bool.and_eq_true,decide_eq_true_eq] at aa;obtain ⟨m,rfl⟩:∃m:Nat,x=m:=⟨x.toNat,by omega⟩
    have hm:m<=1099511627776:=by omega
    have HT:Hid (enc J++encL ((nrm G).take (k+1))=(enc J++encL ((nrm G).take k))++enc m):=by
     show _=_;rw [yby Z,ycA,Int.toNat_natCast,List.append_assoc]
    have HC:=lh (yb4 H.heap.size (H.heap.size+1) v _ m wr HW.out om om);have ap:=HW;clear Z aa
    go_wp2_with (first
     |(go_at_call 73;refine HC.out.mono ?_;rintro e w5 ⟨v5,rfl,U,ae,aj⟩
       have ak:=lh U
       have am:Hid (Below H.heap.size wr w5):=ae.below M.out.size fun i hi=>by
        rcases hi with rfl |hi
        ·exact Nat.le_refl _
        ·have:=(ol ap.out.2.1 i hi).1;omega
       clear U ae aj))
    go_roundw
    case rel=>exact ⟨k+1,v5,by omega,by go_num,by show Wr _ _ _ _ _;rw [HT.out];exact ak.out,M.out.trans am.out⟩
    case measure=>simp [intOf];omega
   ·obtain rfl:k=J:=by omega
    have HD:=lh (wdone_any H.heap.size (H.heap.size+1) v _ wr HW.out om)
    have au:Hid (enc k++encL ((nrm G).take k)=encV xs):=by
     show _=_;rw [List.take_of_length_le (by have:=T.out;omega),encV,<-HN.out,T.out]
    go_wp2_with (go_at_call 78;refine HD.out.mono ?_;rintro e w6 ⟨A6,n6,c6,rfl,h1,h2,z⟩)
    go_ret2;exact .inl ⟨HV.out,A6,n6,c6,rfl,h1,by rw [<-au.out];exact h2,af.out.trans ((M.out.mono aq).trans (z.mono (by have:=M.out.size;omega)))⟩
 ·have al:ybt xs=false:=by simpa using N
  have HF:=lh al;clear N;go_enter func69,ntmps69;go_wp2_with fail;refine (c1.out _ HX.out hB).mono ?_;rintro e w1 ⟨rfl,K⟩;have HB1:=lh K;have Y:=K.size;clear K;go_wp2_with (with_reducible refine ybr (o:=⟨none,.store 212 (.tmp 4) (.tmp 13),_,_,_,_⟩) rfl 212 (.tmp 4) (.tmp 13) rfl 212 Z12.toArray (av G) rfl rfl S1.out T1.out (av_one _) ?_)
  all_goals (go_ret2;exact .inr ⟨HF.out,none,0,0,rfl,Nat.le_refl _,⟨rfl,SL.nil⟩,HB1.out.alloc Y _⟩)
def decT (bs:List Int) (p0:Nat) (e0:Int):Nat->List Int × Nat × Int
 |0=>([],p0,e0)
 |k+1=>
  let s:=decT bs p0 e0 k
  if s.2.2=0 then
   (if (numF bs 10 0 0 s.2.1).2.1=0 then (s.1++[IntKind.i64.wrap (numF bs 10 0 0 s.2.1).1],(numF bs 10 0 0 s.2.1).2.2,0)
    else (s.1++[0],s.2.1,(numF bs 10 0 0 s.2.1).2.1))
  else (s.1++[0],s.2.1,s.2.2)
theorem yee (bs:List Int) (p0:Nat) (e0:Int) (k:Nat):(decT bs p0 e0 k).1.length=k:=by
 induction k with
 |zero=>rfl
 |succ k ih=>
  rw [decT]
  split
  ·split
   ·simp [ih]
   ·simp [ih]
  ·simp [ih]
def decN (bs:List Int):Int × Int × Nat:=limF 12 (numF bs 10 0 0 0)
def decE (bs:List Int):List Int × Nat × Int:=decT bs (if (decN bs).2.1=0 then (decN bs).2.2 else 0) (decN bs).2.1 (if (decN bs).2.1=0 then (decN bs).1.toNat else 0)
def decV (bs:List Int):Option (List Int):=
 if (decE bs).2.2=0/\¬(decE bs).2.1 < bs.length/\ybt (decE bs).1=true/\nrm (decE bs).1=(decE bs).1 then some (decE bs).1 else none
theorem OwnI.but {w M:World} {base:Nat} {e:TypeId} {v:Value} {bs:List Int} {p:Nat->Prop} (h:Own I e w base v bs) (O:But p w M) (N:∀k,base<=k->¬p k):Own I e M base v bs:=
 ⟨h.1,by
   rcases h.2 with hn |⟨K,cap,L,rfl,G,H,J⟩
   ·exact .inl hn
   ·exact .inr ⟨K,cap,L,rfl,G,(O.block K (lb H) (N K G)).trans H,J⟩⟩
theorem ruint_any' (g:Nat) (A:Option Addr) (n c p:Nat) (H er:Int) (bs:List Int) (w:World) (hr:Rd w g A n c p H er) (O:Sl fB w g A n bs) (L:∀b∈bs,0<=b/\b < 256) (hp:p<=n) (hn:n<=1000000):
 Calls prog 82 #[.pointer (some ⟨g,0,none⟩)] w fun e G=>∃(z K:Int),e= .returned (.int .u64 z)/\0<=z/\z < 18446744073709551616/\
  (∀xs:List Int,(if er=0 then (if (numF bs 10 0 0 p).2.1=0 then (xs++[IntKind.i64.wrap (numF bs 10 0 0 p).1],(numF bs 10 0 0 p).2.2,0) else (xs++[0],p,(numF bs 10 0 0 p).2.1)) else (xs++[0],p,er))=(xs++[IntKind.i64.wrap z],(if er=0 then (if (numF bs 10 0 0 p).2.1=0 then (numF bs 10 0 0 p).2.2 else p) else p),(if er=0 then (numF bs 10 0 0 p).2.1 else er)))/\
  Rd G g A n c (if er=0 then (if (numF bs 10 0 0 p).2.1=0 then (numF bs 10 0 0 p).2.2 else p) else p) K (if er=0 then (numF bs 10 0 0 p).2.1 else er)/\But (fun k=>k=g) w G:=by
 by_cases J:er=0
 ·subst J;refine (yeb g A n c p H bs w hr O L hp hn).mono ?_;rintro e G ⟨rfl,h1,h2⟩
  by_cases h0:(numF bs 10 0 0 p).2.1=0
  ·simp only [h0,if_true] at h1 ⊢;refine ⟨_,_,rfl,ybY _ _ _ _ _,?_,fun xs=>rfl,h1,h2⟩;obtain ⟨k,N,_,_,_,_,M⟩:=ycS bs L 10 0 0 p _ _ rfl (show numF bs 10 0 0 p=((numF bs 10 0 0 p).1,0,(numF bs 10 0 0 p).2.2) by rw [<-h0]);rw [N];simp only [Nat.pow_zero,Nat.mul_one,Nat.zero_add] at M ⊢;omega
  ·simp only [h0,if_true,if_false] at h1 ⊢;exact ⟨0,_,rfl,by omega,by omega,fun xs=>rfl,h1,h2⟩
 ·refine (ruint_err g A n c p H er w hr J).mono ?_;rintro e G ⟨rfl,h1,h2⟩;simp only [J,if_false];exact ⟨0,H,rfl,by omega,by omega,fun xs=>rfl,h1,But.of_below h2⟩
theorem enc_mid {bs pre G post:List Int} (h:bs=pre++(G++post)) (j:Nat) (hj:j < G.length):bs[pre.length+j]? =G[j]? :=by
 rw [h,List.getElem?_append_right om,Nat.add_sub_cancel_left,List.getElem?_append_left hj]
theorem encL_app (xs ys:List Int):encL (xs++ys)=encL xs++encL ys:=by simp [encL]
theorem decT_enc (bs xs pre:List Int) (J:∀x∈xs,0<=x/\x<=1099511627776) (H:bs=pre++encL xs):∀k,k<=xs.length->
 decT bs pre.length 0 k=(xs.take k,pre.length+(encL (xs.take k)).length,0)
 |0,_=>by simp [decT,encL]
 |k+1,hk=>by
  obtain ⟨x,G⟩:=ybQ (xs:=xs) (k:=k) om;obtain ⟨h0,h1⟩:=J x (List.mem_of_getElem? G)
  have hs:xs=xs.take k++([x]++xs.drop (k+1)):=by
   have h:=(List.take_append_drop (k+1) xs).symm;rw [yby G,List.append_assoc] at h;exact h
  have L:bs=(pre++encL (xs.take k))++(enc x.toNat++encL (xs.drop (k+1))):=by
   rw [H]
   conv=>lhs;rw [hs,encL_app,encL_app]
   simp [encL]
  have hn:=yed bs 10 x.toNat 0 0 (pre.length+(encL (xs.take k)).length) om om om (fun j hj=>by
   have:=enc_mid L j hj
   rwa [List.length_append] at this) (.inl rfl) om
  simp only [Nat.sub_zero,Nat.pow_zero,Nat.mul_one,Nat.zero_add] at hn;have K:IntKind.i64.wrap ((x.toNat:Nat):Int)=x:=by rw [IntWalk.i64_in _ om];omega
  rw [decT,decT_enc bs xs pre J H k om];simp only [if_true,hn,K];rw [yby G,ycA,List.length_append];simp only [enc];rw [Nat.add_assoc]
theorem decT_err (bs:List Int) (p0:Nat) (e0:Int) (h:e0≠0):∀k,(decT bs p0 e0 k).2.2=e0
 |0=>rfl
 |k+1=>by
  rw [decT];simp only [decT_err bs p0 e0 h k,h,if_false]
theorem decT_only (bs:List Int) (J:∀b∈bs,0<=b/\b < 256) (p0:Nat):∀k,(decT bs p0 0 k).2.2=0->(∀x∈(decT bs p0 0 k).1,0<=x/\x<=1099511627776)->
 (decT bs p0 0 k).2.1=p0+(encL (decT bs p0 0 k).1).length/\∀j,j < (encL (decT bs p0 0 k).1).length->bs[p0+j]? =(encL (decT bs p0 0 k).1)[j]?
 |0,_,_=>by simp [decT,encL]
 |k+1,he,hv=>by
  rw [decT] at he hv ⊢
  by_cases h1:(decT bs p0 0 k).2.2=0
  ·by_cases h2:(numF bs 10 0 0 (decT bs p0 0 k).2.1).2.1=0
   ·simp only [h1,h2,if_true] at hv ⊢;obtain ⟨H,K⟩:=decT_only bs J p0 k h1 (fun x U=>hv x (List.mem_append_left _ U));obtain ⟨n,G,T,N,_,_,O⟩:=ycS bs J 10 0 0 (decT bs p0 0 k).2.1 (numF bs 10 0 0 (decT bs p0 0 k).2.1).2.2 (numF bs 10 0 0 (decT bs p0 0 k).2.1).1 rfl (Prod.ext rfl (Prod.ext h2 rfl));simp only [Nat.pow_zero,Nat.mul_one,Nat.zero_add] at G O;have L:=hv _ (List.mem_append_right _ (List.mem_singleton.2 rfl));rw [G] at L ⊢;rw [T];generalize decT bs p0 0 k=s at*;obtain ⟨v,p,er⟩:=s;simp only [] at*;subst H
    have M:IntKind.i64.wrap (n:Int)=n:=by
     rcases Nat.lt_or_ge n 9223372036854775808 with h |h
     ·exact IntWalk.i64_in _ om
     ·exfalso;rw [IntKind.wrap_i64] at L;omega
    rw [M,ycA,List.length_append,Int.toNat_natCast];refine ⟨by simp only [enc];omega,fun j hj=>?_⟩;rcases Nat.lt_or_ge j (encL v).length with h |h
    ·rw [List.getElem?_append_left h];exact K j h
    ·rw [List.getElem?_append_right h];have:=N (j - (encL v).length) (by simp only [enc] at hj;omega);show _=(encF 10 n)[j - (encL v).length]?;rw [<-this]
     congr 1
     omega
   ·simp only [h1,h2,if_true,if_false] at he
  ·exact absurd (by simp only [h1,if_false] at he) h1
theorem yef {xs:List Int} (h:ybt xs=true):∀x∈xs,0<=x/\x<=1099511627776:=fun x hx=>by
 obtain ⟨k,hk,rfl⟩:=List.getElem_of_mem hx;have:=valid_getD h k;rwa [ybA (List.getElem?_eq_getElem hk)] at this
theorem decV_enc (xs:List Int) (G:ybt xs=true):decV (encV xs)=some (nrm xs):=by
 have hl:(nrm xs).length<=12:=lT (nrm_len xs) (ydv G);have J:∀x∈nrm xs,0<=x/\x<=1099511627776:=fun x M=>yef G x (List.mem_of_mem_take M)
 have hn:=yed (encV xs) 10 (nrm xs).length 0 0 0 om om om (fun j hj=>by
  have:=enc_mid (bs:=encV xs) (pre:=[]) rfl j hj
  simpa [enc] using this) (.inl rfl) om
 simp only [Nat.sub_zero,Nat.pow_zero,Nat.mul_one,Nat.zero_add] at hn
 have L:decN (encV xs)=(((nrm xs).length:Int),0,(enc (nrm xs).length).length):=by
  unfold decN;rw [hn,limF];simp only [if_true];rw [if_neg om];rfl
 have K:decE (encV xs)=(nrm xs,(enc (nrm xs).length).length+(encL (nrm xs)).length,0):=by
  rw [decE,L];simp only [if_true,Int.toNat_natCast];rw [decT_enc (encV xs) (nrm xs) (enc (nrm xs).length) J rfl _ nl,List.take_length]
 have H:ybt (nrm xs)=true:=valid_of_getD hl (fun j=>by rw [nrm_getD];exact valid_getD G j);rw [decV,K];simp only [];rw [if_pos ⟨trivial,by rw [encV,List.length_append];omega,H,nrm_nrm xs⟩]
theorem decV_only (bs:List Int) (T:∀b∈bs,0<=b/\b < 256) (v:List Int) (h:decV bs=some v):ybt v=true/\nrm v=v/\encV v=bs:=by
 unfold decV at h
 split at h
 ·rename_i hc
  obtain ⟨h1,h2,h3,W⟩:=hc;injection h with h;subst h;refine ⟨h3,W,?_⟩
  have K:(decN bs).2.1=0:=by
   rcases Int.decEq (decN bs).2.1 0 with h |h
   ·have:=decT_err bs (if (decN bs).2.1=0 then (decN bs).2.2 else 0) (decN bs).2.1 h (if (decN bs).2.1=0 then (decN bs).1.toNat else 0);rw [<-decE,h1] at this;exact absurd this.symm h
   ·exact h
  have J:decE bs=decT bs (decN bs).2.2 0 (decN bs).1.toNat:=by rw [decE,K];simp only [if_true]
  have G:(decE bs).1.length=(decN bs).1.toNat:=by rw [J];exact yee _ _ _ _
  have z:=decT_only bs T (decN bs).2.2 (decN bs).1.toNat (by rw [<-J];exact h1) (by rw [<-J];exact yef h3);rw [<-J] at z;obtain ⟨Z,H⟩:=z;have U:=gX (numF bs 10 0 0 0);obtain ⟨⟨n,e,p⟩,hN⟩:=U
  have O:e=0/\decN bs=(n,0,p):=by
   have:=K;rw [decN,hN,limF] at this ⊢
   by_cases he:e=0
   ·simp only [he,if_true] at this ⊢
    split at this
    ·simp at this
    ·rename_i L
     rw [if_neg L];exact ⟨trivial,rfl⟩
   ·simp only [he,if_false] at this
  obtain ⟨rfl,hD⟩:=O;obtain ⟨m,e1,Y,N,_⟩:=ycS bs T 10 0 0 0 _ _ rfl hN;simp only [Nat.pow_zero,Nat.mul_one,Nat.zero_add] at e1 Y N;subst e1;subst Y;rw [hD] at G Z H;simp only [Int.toNat_natCast] at G Z H;rw [encV,W,G];refine List.ext_getElem? fun j=>?_
  have L:(encF 10 m).length+(encL (decE bs).1).length=bs.length:=by
   have h5:(encF 10 m).length+(encL (decE bs).1).length<=bs.length:=by
    rcases Nat.eq_zero_or_pos ((encL (decE bs).1).length) with h |h
    ·rcases Nat.eq_zero_or_pos ((encF 10 m).length) with M |M
     ·omega
     ·have:=(List.getElem?_eq_some_iff.1 ((N ((encF 10 m).length - 1) om).trans (List.getElem?_eq_getElem om))).1;omega
    ·have:=(List.getElem?_eq_some_iff.1 ((H ((encL (decE bs).1).length - 1) om).trans (List.getElem?_eq_getElem om))).1;omega
   omega
  rcases Nat.lt_or_ge j (encF 10 m).length with h |h
  ·rw [enc,List.getElem?_append_left h];exact (N j h).symm
  ·rw [enc,List.getElem?_append_right h]
   rcases Nat.lt_or_ge j bs.length with M |M
   ·have:=H (j - (encF 10 m).length) om;rw [<-this]
    congr 1
    omega
   ·rw [List.getElem?_eq_none om,List.getElem?_eq_none om]
 ·simp at h
def DecPost (bs:List Int) (w:World) (e:Ending) (w':World):Prop:=match decV bs with
 |some v=>∃A n c,e= .returned (.tuple #[.slice A n c,.int .i64 0])/\n<=c/\(Sl I w' w'.heap.size A n v/\∀t,A=some t->w.heap.size<=t.block)/\Below w.heap.size w w'
 |none=>Slc2 I ([]:List Int) 3 w e w'
theorem vvalid_n (A:Option Addr) (n:Nat) (xs:List Int) (c:Nat) (w:World) (B:Nat) (G:Sl I w B A n xs) (hl:n<=1000000):
 Calls prog 143 #[.slice A n c] w fun e H=>e= .returned (.bool (ybt xs))/\w=H:=by
 obtain ⟨rfl,G⟩:=G;exact ydP A xs c w B G om
theorem Sl.butgY {f:Int->Value} {w G:World} {g n:Nat} {A:Option Addr} {xs:List Int} (h:Sl f w g A n xs) (J:But (fun k=>k=g) w G) (L:g<=w.heap.size):Sl f G g A n xs:=⟨h.1,fun hn=>by
 obtain ⟨b,H,e,hlt,K⟩:=h.2 hn
 exact ⟨b,H,e,hlt,K.keep (J.block b om om)⟩⟩
theorem numF_leY (bs:List Int):∀(k G i p:Nat),p<=bs.length->(numF bs k G i p).2.2<=bs.length
 |0,_,_,_,h=>h
 |k+1,G,i,p,h=>by
  rw [numF]
  cases H:bs[p]? with
  |none=>exact h
  |some b=>
   have hp:=(List.getElem?_eq_some_iff.1 H).1;simp only []
   split
   ·exact numF_leY bs k _ _ _ hp
   ·split
    ·exact hp
    ·exact hp
theorem limF_placeY (m:Nat) (N:Int × Int × Nat):(limF m N).2.2=N.2.2:=by
 unfold limF
 split
 ·split<;>rfl
 ·rfl
theorem decT_le (bs:List Int) (p0:Nat) (H:Int) (hp:p0<=bs.length):∀k,(decT bs p0 H k).2.1<=bs.length
 |0=>hp
 |k+1=>by
  have G:=decT_le bs p0 H hp k;rw [decT]
  split
  ·split
   ·exact numF_leY bs _ _ _ _ G
   ·exact G
  ·exact G
theorem nrm_last {v:List Int} {m:Nat} (hl:v.length=m+1):nrm v=v↔v.getD m 0≠0:=by
 rw [nrm,hl,nlen]
 by_cases h:v.getD m 0=0
 ·rw [if_pos h];refine ⟨fun G=>?_,fun hn=>absurd h hn⟩;have:=congrArg List.length G;rw [List.length_take] at this;have:=nlen_le v m;omega
 ·rw [if_neg h,<-hl,List.take_length];exact ⟨fun _=>h,fun _=>rfl⟩
theorem decN_bd (bs:List Int):∃G:Nat,(if (decN bs).2.1=0 then (decN bs).1 else 0)=(G:Int)/\(if (decN bs).2.1=0 then (decN bs).1.toNat else 0)=G/\G<=12:=by
 have h0:=ybY bs 10 0 0 0;unfold decN;generalize numF bs 10 0 0 0=N at*;unfold limF
 by_cases H:N.2.1=0
 ·simp only [H,if_true]
  by_cases hl:((12:Nat):Int) < N.1
  ·simp only [hl,if_true];exact ⟨0,rfl,rfl,by omega⟩
  ·simp only [hl,if_false,if_true];exact ⟨N.1.toNat,by omega,rfl,by omega⟩
 ·simp only [H,if_false];exact ⟨0,rfl,rfl,by omega⟩
theorem dec_none {bs:List Int} {vs:List Int} {ps:Nat} {es:Int} (h:decE bs=(vs,ps,es)) (hc:¬(es=0/\¬ps < bs.length/\ybt vs=true/\nrm vs=vs)):decV bs=none:=by
 rw [decV,h,if_neg hc]
theorem dec_some {bs:List Int} {vs:List Int} {ps:Nat} {es:Int} (h:decE bs=(vs,ps,es)) (hc:es=0/\¬ps < bs.length/\ybt vs=true/\nrm vs=vs):decV bs=some vs:=by
 rw [decV,h,if_pos hc]
theorem DecPost.no {bs:List Int} {w G:World} {e:Ending} (h:decV bs=none) (H:e= .returned (.tuple #[.slice none 0 0,.int .i64 3])) (J:Below w.heap.size w G):DecPost bs w e G:=by
 unfold DecPost;rw [h];exact ⟨none,0,0,H,Nat.le_refl _,⟨rfl,SL.nil⟩,J⟩
theorem DecPost.yes {bs vs:List Int} {w G:World} {e:Ending} {A:Option Addr} {n c:Nat} (h:decV bs=some vs) (J:e= .returned (.tuple #[.slice A n c,.int .i64 0])) (H:n<=c) (hs:Sl I G G.heap.size A n vs) (hf:∀t,A=some t->w.heap.size<=t.block) (K:Below w.heap.size w G):DecPost bs w e G:=by
 unfold DecPost;rw [h];exact ⟨A,n,c,J,H,⟨hs,hf⟩,K⟩
theorem decode_any (A:Option Addr) (n c:Nat) (bs:List Int) (w:World) (hx:Sl fB w w.heap.size A n bs) (hn:n<=1000000) (hb:∀b∈bs,0<=b/\b < 256):
 Calls prog 84 #[.slice A n c] w (DecPost bs w):=by
 have HC:=lh (ydt A n c bs w hx hn);have aA:=lh hb;have HLN:Hid (bs.length=n):=hx.1;clear hx hb;obtain ⟨i0,hi,H,ax,aO⟩:=info_parts Tryz.info3;have HI:=lh hi;have be:=lh H;have bf:=lh ax;have a2:=lh aO;clear hi H ax aO;go_enter func84,ntmps84;go_wp2_with fail;refine HC.out.mono ?_;rintro e w1 ⟨g,A1,c1,rfl,ap,aT,bi,aW⟩;have a3:=lh ap;have aM:=lh aT;have HB1:=lh aW.1;have aI:g < w1.heap.size:=lb ap;clear ap aT aW;go_wp2_with fail;refine (rcount_ok g A1 n c1 0 12 0 bs w1 a3.out aM.out aA.out om hn om).mono ?_;rintro e w2 ⟨he,ah,aj⟩;have a4:=lh aj;obtain ⟨N0,Y⟩:=gX (decN bs);have bh:=lh Y;have ae:limF 12 (numF bs 10 0 0 0)=N0:=Y;rw [ae] at he ah;obtain ⟨aa,ac,ak,aX⟩:=decN_bd bs;obtain ⟨p0,am⟩:∃p0:Nat,(if N0.2.1=0 then N0.2.2 else 0)=p0:=⟨_,rfl⟩
 have aJ:Hid (p0<=bs.length):=by
  show p0<=_;rw [<-am,<-ae,limF_placeY]
  split
  ·exact numF_leY bs _ _ _ _ (Nat.zero_le _)
  ·exact Nat.zero_le _
 have K:Hid (decE bs=decT bs p0 N0.2.1 aa):=by
  show decE bs=_;unfold decE;rw [ak,Y,am]
 rw [Y] at ac;clear Y ae ak;rw [ac] at he;rw [am] at ah;have aH:=lh ah;have bb:Hid (Sl fB w2 g A1 n bs):=aM.out.butgY aj (Nat.le_of_lt aI);have bj:=aj.size;clear ah aj;subst he;obtain ⟨J,aB⟩:=gX (N0.2.1);rw [aB] at aH K;clear aB ac am;go_wp2
 go_loopw [5,12] (fun u i wr=>∃(j:Nat) (pv:Int),j<=aa/\i= .int .i64 j/\Hid (Own I 3 wr w1.heap.size u (decT bs p0 J j).1)/\Hid (Rd wr g A1 n c1 (decT bs p0 J j).2.1 pv (decT bs p0 J j).2.2)/\Hid (Sl fB wr g A1 n bs)/\Hid (But (fun k=>k=g∨w1.heap.size<=k) w1 wr)/\Hid ((decT bs p0 J j).2.1<=n)) (fun _ i _=>aa - (intOf i).toNat)
 case atStart=>exact ⟨0,0,by omega,rfl,Own.nil,aH.out,bb.out,a4.out.mono fun i hi=> .inl (.inl hi),by show p0<=n;have:=aJ.out;have:=HLN.out;omega⟩
 case round=>
  obtain ⟨j,pv,hj,rfl,HO,ag,aP,aq,az⟩:=hrel
  by_cases hlt:j < aa
  ·have a5:Hid (((decT bs p0 J j).1.length+1)*8<=140737488355328):=by show _<=_;rw [yee];omega
   have a7:Hid ((decT bs p0 J j).1.length+1<=maxLen):=by show _<=_;rw [yee];unfold maxLen;omega
   go_wp2_with fail
   refine (ruint_any' g A1 n c1 _ pv _ bs wr ag.out aP.out aA.out az.out hn).mono ?_;rintro e w4 ⟨z,aY,rfl,H,ax,aF,aR,ao⟩;have aZ:=lh aR;have bg:=lh (aF (decT bs p0 J j).1);have aK:Hid (Own I 3 w4 w1.heap.size u5 (decT bs p0 J j).1):=OwnI.but HO.out ao (fun k hk=>by omega);have bm:=ao.size;have bp:=aq.out.size;have aQ:=lh ao;clear aF aR ao;go_wp2_with (with_reducible refine ybw (o:=⟨some 19,_,_,_,_,_⟩) rfl (.tmp 14) (.tmp 18) 27 rfl 3 i0 (.int .i64 0) 8 underlying27 HI.out be.out bf.out a2.out rfl u5 (decT bs p0 J j).1 w1.heap.size rfl aK.out (wrap64 z) 1 rfl I1 a5.out a7.out om ?_;intro v5 w5 a1 HG5 bo);have L:Below w1.heap.size w4 w5:=Own.below aK.out bR om om HG5.out;have a9:Hid (decT bs p0 J (j+1)=((decT bs p0 J j).1++[IntKind.i64.wrap z],_,_)):=bg.out;go_roundw
   case rel=>
    have aU:=a9.out;refine ⟨j+1,aY,by omega,by go_num,?_,?_,?_,?_,?_⟩
    ·show Own _ _ _ _ _ _;rw [aU];have:=a1.out;rwa [<-IntWalk.i64_left] at this
    ·show Rd _ _ _ _ _ _ _ _;rw [aU];exact (L.block g aI).trans aZ.out
    ·exact (aP.out.butgY aQ.out om).up L om
    ·exact (aq.out.trans aQ.out (fun i hi=> .inl (.inl hi))).trans (q:=fun k=>w1.heap.size<=k) ⟨L.os,L.tape,L.output,L.size,fun k _ hk=>L.block k om⟩ (fun i hi=> .inl (.inr hi))
    ·show _<=_;have:=decT_le bs p0 J aJ.out (j+1);have:=HLN.out;omega
   case measure=>simp [intOf];omega
  ·obtain rfl:j=aa:=by omega
   obtain ⟨vs,ps,es,hS⟩:∃vs ps es,decT bs p0 J j=(vs,ps,es):=⟨_,_,_,rfl⟩
   have hl:=yee bs p0 J j;rw [hS] at hl HO ag az K;simp only [] at hl HO ag az
   have N:Hid (Below w.heap.size w wr):=HB1.out.trans (aq.out.below HB1.out.size fun i hi=>(by
    have:=HB1.out.size
    rcases hi with h |h<;>omega))
   have T:=N.out.size;have O:=lh (yec g A1 n c1 ps pv es wr ag.out);obtain ⟨A5,c5,au,aw,aE,_⟩:=HO.out.shape;rw [hl] at au aw;have aN:=lh aw
   have aG:Hid (∀t,A5=some t->w.heap.size<=t.block):=fun t ht=>by
    have h1:=(ol HO.out t.block (by rw [au,ht];rfl)).1;have h2:=HB1.out.size;omega
   clear aw;have HS5:Hid (Sl I wr wr.heap.size A5 j vs):=⟨hl,aE⟩;have al:Hid (vs.length=j):=hl;obtain ⟨z,hz⟩:∃z:Int,(if es=0 then (if ps < n then 3 else 0) else es)=z:=⟨_,rfl⟩
   rw [hz] at O;have HZ:=lh hz;clear hz hS aE hl hlt;subst au
   by_cases H:z=0
   ·have a0:(z != 0)=false:=by simp [H]
    have ai:Hid (es=0/\¬ps < bs.length):=by
     have h1:=HZ.out;rw [H] at h1;refine ⟨?_,?_⟩
     ·rcases Int.decEq es 0 with h |h
      ·rw [if_neg h] at h1;exact absurd h1 h
      ·exact h
     ·intro h;rw [HLN.out] at h
      split at h1
      ·omega
      ·contradiction
    have bk:j<=12:=aX;clear H;have U:Hid (∀W,Below wr.heap.size wr W->Calls prog 143 #[.slice A5 j c5] W fun e w'=>e= .returned (.bool (ybt vs))/\W=w'):=fun W hb=>vvalid_n A5 j vs c5 W wr.heap.size (HS5.out.up hb nl) om;obtain ⟨vb,ar⟩:=gX (ybt vs);rw [ar] at U;have ay:=lh ar;clear ar;rcases vb with _ |_
    ·have Z:Hid (decV bs=none):=dec_none K.out (fun hc=>by have:=ay.out;rw [hc.2.2.1] at this;cases this);go_wp2_with fail;refine O.out.mono ?_;rintro e w6 ⟨rfl,G⟩;have HB6:=lh G;clear G;go_wp2_with fail;refine (U.out _ HB6.out).mono ?_;rintro e w7 ⟨rfl,rfl⟩;go_wp2_with fail;go_ret2;exact DecPost.no Z.out rfl (N.out.trans (HB6.out.mono T))
    ·rcases j with _ |m
     ·have af:Hid (decV bs=some vs):=dec_some K.out ⟨ai.out.1,ai.out.2,ay.out,by
       have:=al.out;obtain rfl:vs=[]:=List.eq_nil_of_length_eq_zero this
       rfl⟩
      go_wp2_with fail
      refine O.out.mono ?_;rintro e w6 ⟨rfl,G⟩;have HB6:=lh G;clear G;go_wp2_with fail;refine (U.out _ HB6.out).mono ?_;rintro e w7 ⟨rfl,rfl⟩;go_wp2_with fail;go_ret2;exact DecPost.yes af.out rfl aN.out (HS5.out.up HB6.out nl |>.more' HB6.out.size) aG.out (N.out.trans (HB6.out.mono T))
     ·obtain ⟨b5,o5,x,rfl,aS,aC,aD⟩:=HS5.out.2.at_ (k:=m) (by have:=al.out;omega);have aL:=lh aC;have aV:=lh aD;clear aC aD
      by_cases M:x=0
      ·have Z:Hid (decV bs=none):=dec_none K.out (fun hc=>by
        have:=(nrm_last al.out).1 hc.2.2.2;rw [ybA aL.out] at this
        exact this M)
       have a8:(x==0)=true:=by simp [M]
       clear M;go_wp2_with fail;refine O.out.mono ?_;rintro e w6 ⟨rfl,G⟩;have a6:w6.cell? ⟨b5,o5+m,none⟩=some (I x):=(G.cell (p:=⟨b5,o5+m,none⟩) aS).trans aV.out;have HB6:=lh G;clear G;go_wp2_with fail;refine (U.out _ HB6.out).mono ?_;rintro e w7 ⟨rfl,rfl⟩;go_wp2_with fail;go_ret2;exact DecPost.no Z.out rfl (N.out.trans (HB6.out.mono T))
      ·have af:Hid (decV bs=some vs):=dec_some K.out ⟨ai.out.1,ai.out.2,ay.out,(nrm_last al.out).2 (by rw [ybA aL.out];exact M)⟩;have a8:(x==0)=false:=by simp [M]
       clear M;go_wp2_with fail;refine O.out.mono ?_;rintro e w6 ⟨rfl,G⟩;have a6:w6.cell? ⟨b5,o5+m,none⟩=some (I x):=(G.cell (p:=⟨b5,o5+m,none⟩) aS).trans aV.out;have HB6:=lh G;clear G;go_wp2_with fail;refine (U.out _ HB6.out).mono ?_;rintro e w7 ⟨rfl,rfl⟩;go_wp2_with fail;go_ret2;exact DecPost.yes af.out rfl aN.out (HS5.out.up HB6.out nl |>.more' HB6.out.size) aG.out (N.out.trans (HB6.out.mono T))
   ·have a0:(z != 0)=true:=by simp [H]
    have Z:Hid (decV bs=none):=dec_none K.out (fun hc=>H (by rw [<-HZ.out,if_pos hc.1,if_neg (by rw [<-HLN.out];exact hc.2.1)]));clear H;go_wp2_with fail;refine O.out.mono ?_;rintro e w6 ⟨rfl,G⟩;have HB6:=lh G;clear G;go_wp2_with fail;go_ret2;exact DecPost.no Z.out rfl (N.out.trans (HB6.out.mono T))
