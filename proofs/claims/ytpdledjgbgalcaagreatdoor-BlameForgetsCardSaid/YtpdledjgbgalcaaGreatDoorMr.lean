/- The reference of wire: a number's encoding. The reference's list of values, plainly: what it encodes to. The reference of wire: Encode, over the kinds uint, bytes, text, sum, count. The reference's values made: number, sum, bytes. The reference's list of values while it grows. -/
import Derived.Test.YtpdledjgbgalcaaGreatDoorMa
import Derived.IntWalk
import Derived.Deep.Onto
namespace Go.Proofs.YtpdledjgbgalcaaGreatDoor
set_option maxRecDepth 20000
set_option maxHeartbeats 8000000
open Go.RowKit
set_option linter.unusedVariables false
set_option linter.unusedSimpArgs false
theorem yb2 (n:Nat) (w:World) (hn:n < 18446744073709551616):
 Calls Tryz.prog 79 #[.int .u64 n] w fun e w'=>∃v,e= .returned v∧Own fB 5 w' w.heap.size v (enc n)∧Below w.heap.size w w':=by
 obtain ⟨i0,hi,hz0,hz1,hz2⟩:=info_parts Tryz.infoB;have HI:=lh hi;have HZ0:=lh hz0;have HZ1:=lh hz1;have HZ2:=lh hz2;clear hi hz0 hz1 hz2;have hn10:Hid (n < 128 ^ 10):=by show _ < _;omega
 have HN:Hid (n < 18446744073709551616):=hn;clear hn;have HO0:Hid (Own fB 5 (w.alloc (.cells #[] 5)) w.heap.size (.slice (some ⟨w.heap.size,0,none⟩) 0 0) []):=World.ownsRow_lit w #[] 0 nl yaS rfl;have HB0:Hid (Below w.heap.size w (w.alloc (.cells #[] 5))):=bl;go_enter Tryz.func79,Tryz.ntmps79;go_wp2
 go_loopw [0,3] (fun i u wr=>∃(k m:Nat) (out:List Int),i= .int .u64 m∧Hid (m < 128 ^ k)∧Hid (m < 18446744073709551616)∧0 < k∧k≤10∧out.length+k≤10∧Hid (out++encF k m=enc n)∧Hid (Own fB 5 wr w.heap.size u out)∧Hid (Below w.heap.size w wr)) (fun i _ _=>(intOf i).toNat)
 case atStart=>exact ⟨10,n,[],rfl,hn10,HN,by omega,by omega,by simp,by show _=_;rfl,HO0,HB0⟩
 case round=>
  obtain ⟨k,m,out,rfl,HM,HM6,hk1,hk,hol,HE,HO,HB⟩:=hrel;have HL1:Hid ((out.length+1)*1≤140737488355328):=by show _≤_;omega
  have HL2:Hid (out.length+1≤maxLen):=by show _≤_;unfold maxLen;omega
  have HS:Hid (w.heap.size≤wr.heap.size):=HB.out.size;have HKB:Hid (∀W V,Own fB 5 wr w.heap.size V out→wr.grownBy W V.ownBlock→Below w.heap.size w W):=fun W V ho hg=>HB.out.trans (yaY hg (fun k hk=>(World.ownsRow.lt ho k hk).1) HS.out)
  obtain ⟨k,rfl⟩:∃k',k=k'+1:=⟨k - 1,by omega⟩
  have h64:=HM6.out
  by_cases hge:128≤m
  ·have HM2:Hid (m / 128 < 128 ^ k):=by show _ < _;have:=HM.out;rw [Nat.pow_succ] at this;omega
   have HM7:Hid (m / 128 < 18446744073709551616):=by show _ < _;omega
   have hk0:0 < k:=by
    have:=HM2.out
    rcases k with _ |k
    ·rw [Nat.pow_zero] at this;omega
    ·omega
   have HE2:Hid ((out++[(m:Int) % 128+128])++encF k (m / 128)=enc n):=by
    show _=_
    rw [←HE.out,encF,if_neg om,List.append_assoc]
    congr 1
   have hb0:(m:Int).tmod 128=(m:Int) % 128:=Int.tmod_eq_emod_of_nonneg om;have hb1:(m:Int) % 128 % 256=(m:Int) % 128:=by omega
   have hb2:((m:Int) % 128+128) % 256=(m:Int) % 128+128:=by omega
   go_wp2_with (with_reducible refine ya4 (o:=⟨some 13,_,_,_,_,_⟩) rfl (.tmp 7) (.tmp 12) 40 rfl 5 i0 (.int .u8 0) 1 Tryz.underlying40 HI.out HZ0.out HZ1.out HZ2.out rfl _ out w.heap.size rfl HO.out ((m:Int) % 128+128) 1 rfl fB1 HL1.out HL2.out HS.out ?_;intro v1 w1 HO1 HG1 HV1)
   go_roundw
   case rel=>exact ⟨k,m / 128,out++[(m:Int) % 128+128],by first |rfl |go_num,HM2,HM7,hk0,by omega,by rw [List.length_append];simp only [List.length_cons,List.length_nil];omega,HE2,HO1,HKB.out _ _ HO.out HG1.out⟩
   case measure=>simp [intOf];omega
  ·have hmm:(m:Int) % 256=m:=by omega
   have HE2:Hid (out++[(m:Int)]=enc n):=by
    show _=_
    rw [←HE.out,encF,if_pos om]
   go_wp2_with (with_reducible refine ya4 (o:=⟨some 20,_,_,_,_,_⟩) rfl (.tmp 16) (.tmp 19) 40 rfl 5 i0 (.int .u8 0) 1 Tryz.underlying40 HI.out HZ0.out HZ1.out HZ2.out rfl _ out w.heap.size rfl HO.out (m:Int) 1 rfl fB1 HL1.out HL2.out HS.out ?_;intro v1 w1 HO1 HG1 HV1)
   go_ret;exact ⟨v1,rfl,by rw [←HE2.out];exact HO1.out,HKB.out _ _ HO.out HG1.out⟩
open Go.RowKit Go.Lib
structure Vl where
 kind:Int
 u:Int
 n:Int
 b:Bool
 s:ByteArray
 most:Int
instance:Inhabited Vl:=⟨⟨0,0,0,false,⟨#[]⟩,0⟩⟩
abbrev fVl (x:Vl):List Value:=[.int .i64 x.kind,.int .u64 x.u,.int .i64 x.n,.bool x.b,.string x.s,.int .i64 x.most]
abbrev aVl (x:Vl):Value:= .agg (fVl x).toArray
theorem fVl_len:∀x,(fVl x).length=6:=fun _=>rfl
theorem fVl_one:∀x,∀u∈fVl x,u.oneCell'=true:=fun x u hu=>by
 simp only [fVl,List.mem_cons,List.not_mem_nil,or_false] at hu;rcases hu with rfl |rfl |rfl |rfl |rfl |rfl<;>rfl
theorem fVl_all (x:Vl):(fVl x).toArray.all (·.oneCell')=true:=by
 rw [Array.all_eq_true'];intro u hu;exact fVl_one x u (by simpa using hu)
theorem Tryz.sizeVl:(Tryz.prog.info? 188).map (·.size)=some 6:=by kernel_rfl
def vN (x:Int):Vl:=⟨1,x,0,false,⟨#[]⟩,0⟩
def vC (k:Nat):Vl:=⟨7,0,k,false,⟨#[]⟩,0⟩
def vB (s:ByteArray):Vl:=⟨4,0,0,false,s,0⟩
def vS (s:ByteArray):Vl:=⟨6,0,0,false,s,0⟩
def encR (x:Vl):List Int:=if x.kind=1 then enc x.u.toNat else if x.kind=4∨x.kind=5 then enc x.s.size++sB x.s else if x.kind=6 then sB x.s else enc x.n.toNat
def VlOk (x:Vl):Prop:=(x.kind=1∧0≤x.u∧x.u < 18446744073709551616)∨(x.kind=4∧x.s.size≤1048576)∨(x.kind=5∧x.s.size≤1048576)∨(x.kind=6∧x.s.size=32)∨(x.kind=7∧0≤x.n∧x.n≤100000)
theorem encR_N (x:Int):encR (vN x)=enc x.toNat:=rfl
theorem encR_C (k:Nat):encR (vC k)=enc k:=by simp [encR,vC]
theorem encR_B (s:ByteArray):encR (vB s)=enc s.size++sB s:=rfl
theorem encR_S (s:ByteArray):encR (vS s)=sB s:=rfl
theorem ybQ {x:Int} (h:0≤x∧x < 18446744073709551616):VlOk (vN x):= .inl ⟨rfl,h.1,h.2⟩
theorem vlOk_C {k:Nat} (h:k≤100000):VlOk (vC k):= .inr (.inr (.inr (.inr ⟨rfl,by simp [vC],by simp only [vC];omega⟩)))
theorem vlOk_B {s:ByteArray} (h:s.size≤1048576):VlOk (vB s):= .inr (.inl ⟨rfl,h⟩)
theorem ydt {s:ByteArray} (h:s.size=32):VlOk (vS s):= .inr (.inr (.inr (.inl ⟨rfl,h⟩)))
theorem flat_at {α:Type} {f:α→List Value} {s:Nat} (hs:∀x,(f x).length=s):∀(xs:List α) (k:Nat) (y:α) (j:Nat) (u:Value),xs[k]? =some y→(f y)[j]? =some u→(xs.flatMap f)[k*s+j]? =some u
 |x::l,0,y,j,u,hy,hu=>by
  simp at hy;subst hy;have hj:j < s:=by have:=(List.getElem?_eq_some_iff.1 hu).1;rw [hs] at this;exact this
  rw [List.flatMap_cons,List.getElem?_append_left (by rw [hs];omega),Nat.zero_mul,Nat.zero_add];exact hu
 |x::l,k+1,y,j,u,hy,hu=>by
  rw [List.flatMap_cons,List.getElem?_append_right (by rw [hs,Nat.succ_mul];omega),hs,show (k+1)*s+j - s=k*s+j by rw [Nat.succ_mul];omega];exact flat_at hs l k y j u (by simpa using hy) hu
 | [],_,_,_,_,hy,_=>by simp at hy
theorem SlN.of_rows {α:Type} {f:α→List Value} {s:Nat} (hs:∀x,(f x).length=s) {w:World} {g B:Nat} {t:TypeId} {fr:Nat × Nat} {xs:List α} {cs:Array Value} (h:w.heap[g]? =some (.cells cs t fr)) (hc:cs.toList=xs.flatMap f) (hB:g < B) {n:Nat} (hn:xs.length=n):SlN f s w B (some ⟨g,0,none⟩) n xs:=
 ⟨hn,fun _=>⟨g,0,rfl,hB,fun k y hy j u hu=>by
   rw [cell_of_row _ _ _ _ _ _ h,Nat.zero_add,←Array.getElem?_toList,hc]
   exact flat_at hs xs k y j u hy hu⟩⟩
theorem six {w:World} {b off m:Nat} {x:Vl} (h:∀(j:Nat) (v:Value),(fVl x)[j]? =some v→w.cell? ⟨b,off+(m+j),none⟩=some v):w.cell? ⟨b,off+m,none⟩=some (.int .i64 x.kind)∧w.cell? ⟨b,off+m+1,none⟩=some (.int .u64 x.u)∧w.cell? ⟨b,off+m+2,none⟩=some (.int .i64 x.n)∧w.cell? ⟨b,off+m+3,none⟩=some (.bool x.b)∧w.cell? ⟨b,off+m+4,none⟩=some (.string x.s)∧w.cell? ⟨b,off+m+5,none⟩=some (.int .i64 x.most):=
 ⟨h 0 _ rfl,h 1 _ rfl,h 2 _ rfl,h 3 _ rfl,h 4 _ rfl,h 5 _ rfl⟩
theorem take_flat {xs:List Vl} {k:Nat} {x:Vl} (h:xs[k]? =some x):(xs.take (k+1)).flatMap encR=(xs.take k).flatMap encR++encR x:=by
 rw [List.take_add_one,h,List.flatMap_append];simp
theorem step_appR {P:Program} {w:World} {α:Type} {f:α→Value} {ops:Array Oper} {o:Oper} {a:Act} {K:Act→World→Prop} {Q:Exit→Act→World→Prop} {E:Prop} (hgd:o.guard=none) (sl x:Operand) (t:TypeId)
 (ho:o.op= .call {callee:= .builtin .append,args:=#[sl,x],argTypes:=#[t,t]})
 (e:TypeId) (i:TypeInfo) (z:Value) (bytes:Nat) (ht:P.underlying t=some (.slice e)) (hi:P.info? e=some i) (hz:i.zero=some z)
 (hsize:i.size=1) (hby:i.bytes=bytes) (hzs:z.cells.size=1) (v:Value) (xs:List α) (base:Nat) (hsl:a.eval sl=v) (hown:Own f e w base v xs)
 (A:Option Addr) (m c B:Nat) (ys:List α) (hx:a.eval x= .slice A m c) (hr:Sl f w B A m ys) (h1:∀y,(f y).oneCell'=true) (hbytes:(xs.length+ys.length)*bytes≤140737488355328) (hmax:xs.length+ys.length≤maxLen) (hbase:base≤w.heap.size)
 (h:∀v' w',Hid (Own f e w' base v' (xs++ys))→Hid (w.grownBy w' v.ownBlock)→Hid (v'.ownBlock=v.ownBlock∨v'.ownBlock=some w.heap.size)→K (a.put o.dst v') w'):
 if Region.wanted o (yielded ops a.tmps)=true then Oper.wp P o a w K Q else E:=by
 have hw:Region.wanted o (yielded ops a.tmps)=true:=by simp [Region.wanted,hgd]
 rw [if_pos hw];exact wp_app sl x t ho e i z bytes ht hi hz hsize hby hzs v xs base hsl hown A m c B ys hx hr h1 hbytes hmax hbase fun v' w' h2 h3 h4=>h v' w' h2 h3 h4
theorem step_strO {P:Program} {w:World} {ops:Array Oper} {o:Oper} {a:Act} {K:Act→World→Prop} {Q:Exit→Act→World→Prop} {E:Prop} (hgd:o.guard=none) (sl x:Operand) (t u:TypeId)
 (ho:o.op= .call {callee:= .builtin .append,args:=#[sl,x],argTypes:=#[t,u]})
 (e:TypeId) (i:TypeInfo) (ht:P.underlying t=some (.slice e)) (hu:P.underlying u=some .string) (hi:P.info? e=some i) (hz:i.zero=some (.int .u8 0)) (hsize:i.size=1) (hby:i.bytes=1)
 (v:Value) (xs:List Int) (base:Nat) (hs:a.eval sl=v) (hown:Own fB e w base v xs) (s:ByteArray) (hx:a.eval x= .string s) (hl:xs.length+s.size≤140737488355328) (hbase:base≤w.heap.size)
 (h:∀v' w',Hid (Own fB e w' base v' (xs++sB s))→Hid (w.grownBy w' v.ownBlock)→Hid (v'.ownBlock=v.ownBlock∨v'.ownBlock=some w.heap.size)→K (a.put o.dst v') w'):
 if Region.wanted o (yielded ops a.tmps)=true then Oper.wp P o a w K Q else E:=by
 have hw:Region.wanted o (yielded ops a.tmps)=true:=by simp [Region.wanted,hgd]
 rw [if_pos hw];exact wp_app_str sl x t u ho e i ht hu hi hz hsize hby v xs base hs hown s hx hl hbase fun v' w' h2 h3 h4=>h v' w' h2 h3 h4
theorem ydJ {w w':World} {row:Option Nat} (hg:w.grownBy w' row) {b o:Nat} {v:Value} (hc:w.cell? ⟨b,o,none⟩=some v) (hb:b < w.heap.size) (hr:∀k,row=some k→k≠b):w'.cell? ⟨b,o,none⟩=some v:=
 (World.cell?_of_block (w:=w) (by exact hg.block b hb (fun e=>hr b e.symm rfl))).trans hc
theorem ne_own {u v1:Value} {n m:Nat} (hv:v1.ownBlock=u.ownBlock∨v1.ownBlock=some m) (hu:∀k,u.ownBlock=some k→k≠n) (h:n < m):∀k,v1.ownBlock=some k→k≠n:=fun k hk=>by
 rcases hv with h1 |h1
 ·exact hu k (by rw [←h1];exact hk)
 ·rw [h1] at hk;have:=Option.some.inj hk;omega
theorem ych (xs:List Vl) (A:Option Addr) (n c:Nat) (w:World) (hx:SlN fVl 6 w w.heap.size A n xs) (hok:∀x∈xs,VlOk x) (hl:(xs.flatMap encR).length≤1048576) (hn:n≤100000):
 Calls Tryz.prog 128 #[.slice A n c] w fun e w'=>∃v,e= .returned (.tuple #[v,.int .i64 0])∧Own fB 5 w' w.heap.size v (xs.flatMap encR)∧Below w.heap.size w w':=by
 obtain ⟨i0,hi,hz0,hz1,hz2⟩:=info_parts Tryz.infoB;have HI:=lh hi;have HZ0:=lh hz0;have HZ1:=lh hz1;have HZ2:=lh hz2;have HX:=lh hx;have HOK:=lh hok;have HL:=lh hl;have HO0:Hid (Own fB 5 (w.alloc (.cells #[] 5)) w.heap.size (.slice (some ⟨w.heap.size,0,none⟩) 0 0) []):=World.ownsRow_lit w #[] 0 nl yaS rfl;have HB0:Hid (Below w.heap.size w (w.alloc (.cells #[] 5))):=bl;clear hi hz0 hz1 hz2 hx hok hl;go_enter Tryz.func128,Tryz.ntmps128
 go_wp2_with fail
 go_loopw [4,5] (fun u i wr=>∃k:Nat,k≤n∧i= .int .i64 k∧Hid (Own fB 5 wr w.heap.size u ((xs.take k).flatMap encR))∧Hid (Below w.heap.size w wr)) (fun _ i _=>n - (intOf i).toNat)
 case atStart=>exact ⟨0,Nat.zero_le _,rfl,by show Own _ _ _ _ _ _;simpa using HO0.out,HB0⟩
 case round=>
  obtain ⟨k,hk,rfl,HO,HB⟩:=hrel
  by_cases hlt:k < n
  ·have hin:=HX.out.up HB.out nl
   obtain ⟨b,off,x,rfl,hbB,hxk,hcell⟩:=hin.at_ hlt;obtain ⟨c0,c1,c2,c3,c4,c5⟩:=six hcell;have HVO:=lh (HOK.out x (List.mem_of_getElem? hxk));have HTK:=lh (take_flat hxk)
   have HLK:Hid (((xs.take k).flatMap encR).length≤1048576):=by
    show _≤_
    have h1:(xs.flatMap encR).length=((xs.take k).flatMap encR).length+((xs.drop k).flatMap encR).length:=by rw [←List.length_append,←List.flatMap_append,List.take_append_drop]
    have:=HL.out
    omega
   clear hin hxk hcell;obtain ⟨xk,xu,xn,xb,xs0,xm⟩:=x;dsimp only at c0 c1 c2 c3 c4 c5;rcases HVO.out with ⟨h,h1,h2⟩ |⟨h,h1⟩ |⟨h,h1⟩ |⟨h,h1⟩ |⟨h,h1,h2⟩
   ·
    dsimp only at h h1 h2;subst h;obtain ⟨z,rfl⟩:∃z:Nat,xu=z:=⟨xu.toNat,by omega⟩
    have HK1:Hid ((((xs.take k).flatMap encR).length+(enc z).length)*1≤140737488355328):=by show _≤_;have:=HLK.out;have:=ya1 z;omega
    have HK2:Hid (((xs.take k).flatMap encR).length+(enc z).length≤maxLen):=by show _≤_;have:=HLK.out;have:=ya1 z;unfold maxLen;omega
    go_wp2_with fail
    refine (yb2 z _ om).mono ?_;rintro e w6 ⟨v6,rfl,ho6,b6⟩;obtain ⟨A6,c6,rfl,_,hs6,_⟩:=ho6.shape;have HS6:Hid (Sl fB w6 w6.heap.size A6 (enc z).length (enc z)):=⟨rfl,hs6⟩;have HB6:Hid (Below wr.heap.size wr w6):=Below.trans yaw (b6.mono sI);have HO6:=lh (HO.out.on HB6.out);have HS7:Hid (w.heap.size≤w6.heap.size):=Nat.le_trans HB.out.size HB6.out.size;clear hs6 ho6
    go_wp2_with (at_builtin;refine ya8 (o:=⟨some 26,_,_,_,_,_⟩) rfl (.tmp 22) (.tmp 25) 40 rfl 5 i0 (.int .u8 0) 1 Tryz.underlying40 HI.out HZ0.out HZ1.out HZ2.out rfl _ ((xs.take k).flatMap encR) w.heap.size (by rfl) HO6.out A6 (enc z).length c6 w6.heap.size (enc z) (by rfl) HS6.out fB1 HK1.out HK2.out HS7.out ?_;intro v1 w1 HO1 HG1 HV1)
    go_roundw
    case rel=>exact ⟨k+1,by omega,by go_num,by show Own _ _ _ _ _ _;rw [HTK.out];exact HO1.out,HO6.out.below (HB.out.trans (HB6.out.mono HB.out.size)) nl HS7.out HG1.out⟩
    case measure=>simp [intOf];omega
   ·
    dsimp only at h h1;subst h;have HZS:Hid (xs0.size < 18446744073709551616):=by show _ < _;omega
    have hzw:IntKind.u64.wrap (xs0.size:Int)=xs0.size:=IntWalk.u64_in _ om;have HK1:Hid ((((xs.take k).flatMap encR).length+(enc xs0.size).length)*1≤140737488355328):=by show _≤_;have:=HLK.out;have:=ya1 xs0.size;omega
    have HK2:Hid (((xs.take k).flatMap encR).length+(enc xs0.size).length≤maxLen):=by show _≤_;have:=HLK.out;have:=ya1 xs0.size;unfold maxLen;omega
    have HK3:Hid (((xs.take k).flatMap encR++enc xs0.size).length+xs0.size≤140737488355328):=by show _≤_;rw [List.length_append];have:=HLK.out;have:=ya1 xs0.size;omega
    have HC0:Hid ((wr.alloc (.cells #[.int .i64 4,.int .u64 xu,.int .i64 xn,.bool xb,.string xs0,.int .i64 xm] 188)).cell? ⟨wr.heap.size,4,none⟩=some (.string xs0)):=by show _=_;rw [cell_of_row _ _ 4 _ _ _ (heap_alloc_new wr _)];rfl
    have HNE:Hid (∀k',u4.ownBlock=some k'→k'≠wr.heap.size):=fun k' hk'=>Nat.ne_of_lt (World.ownsRow.lt HO.out k' hk').2
    have hnew:=World.new_ne wr
    go_wp2_with fail
    go_region_held3 (fun w'=>w'.cell? ⟨wr.heap.size,4,none⟩=some (.string xs0)) (first |exact HC8.out |exact HC7.out |exact HC6.out |exact HC0.out |go_keep) (first
     |(go_at_call 79;(refine (yb2 xs0.size _ HZS.out).mono ?_);(rintro e w6 ⟨v6,rfl,ho6,b6⟩);(obtain ⟨A6,c6,rfl,_,hs6,_⟩:=ho6.shape);(have HS6:Hid (Sl fB w6 w6.heap.size A6 (enc xs0.size).length (enc xs0.size)):=⟨rfl,hs6⟩);(have HB6:Hid (Below wr.heap.size wr w6):=Below.trans yaw (b6.mono sI));(have HO6:=lh (HO.out.on HB6.out));(have HS7:Hid (w.heap.size≤w6.heap.size):=Nat.le_trans HB.out.size HB6.out.size);(have HL6:Hid (wr.heap.size < w6.heap.size):=Nat.lt_of_lt_of_le sI b6.size);(have HC6:Hid (w6.cell? ⟨wr.heap.size,4,none⟩=some (.string xs0)):=(b6.cell (p:=⟨wr.heap.size,4,none⟩) sI).trans HC0.out);clear ho6 hs6 b6)
     |(refine step_appR (by rfl) (.tmp 48) (.tmp 53) 40 (by rfl) 5 i0 (.int .u8 0) 1 Tryz.underlying40 HI.out HZ0.out HZ1.out HZ2.out rfl u4 ((xs.take k).flatMap encR) w.heap.size (by rfl) HO6.out A6 (enc xs0.size).length c6 w6.heap.size (enc xs0.size) (by rfl) HS6.out fB1 HK1.out HK2.out HS7.out ?_;(intro v1 w1 HO1 HG1 HV1);(have HC7:Hid (w1.cell? ⟨wr.heap.size,4,none⟩=some (.string xs0)):=ydJ HG1.out HC6.out HL6.out HNE.out);(have HS8:Hid (w.heap.size≤w1.heap.size):=Nat.le_trans HS7.out HG1.out.size))
     |(refine step_strO (by rfl) (.tmp 54) (.tmp 56) 40 9 (by rfl) 5 i0 Tryz.underlying40 Tryz.underlying9 HI.out HZ0.out HZ1.out HZ2.out v1 ((xs.take k).flatMap encR++enc xs0.size) w.heap.size (by rfl) HO1.out xs0 (by rfl) HK3.out HS8.out ?_;(intro v2 w2 HO2 HG2 HV2);(have HC8:Hid (w2.cell? ⟨wr.heap.size,4,none⟩=some (.string xs0)):=ydJ HG2.out HC7.out (Nat.lt_of_lt_of_le HL6.out HG1.out.size) (ne_own HV1.out HNE.out HL6.out))))
    go_wp2_with fail
    go_roundw
    case rel=>exact ⟨k+1,by omega,by go_num,by show Own _ _ _ _ _ _;rw [HTK.out];have h9:=HO2.out;rw [List.append_assoc] at h9;exact h9,HO1.out.below (HO6.out.below (HB.out.trans (HB6.out.mono HB.out.size)) nl HS7.out HG1.out) nl HS8.out HG2.out⟩
    case measure=>simp [intOf];omega
   ·
    dsimp only at h h1;subst h;have HZS:Hid (xs0.size < 18446744073709551616):=by show _ < _;omega
    have hzw:IntKind.u64.wrap (xs0.size:Int)=xs0.size:=IntWalk.u64_in _ om;have HK1:Hid ((((xs.take k).flatMap encR).length+(enc xs0.size).length)*1≤140737488355328):=by show _≤_;have:=HLK.out;have:=ya1 xs0.size;omega
    have HK2:Hid (((xs.take k).flatMap encR).length+(enc xs0.size).length≤maxLen):=by show _≤_;have:=HLK.out;have:=ya1 xs0.size;unfold maxLen;omega
    have HK3:Hid (((xs.take k).flatMap encR++enc xs0.size).length+xs0.size≤140737488355328):=by show _≤_;rw [List.length_append];have:=HLK.out;have:=ya1 xs0.size;omega
    have HC0:Hid ((wr.alloc (.cells #[.int .i64 5,.int .u64 xu,.int .i64 xn,.bool xb,.string xs0,.int .i64 xm] 188)).cell? ⟨wr.heap.size,4,none⟩=some (.string xs0)):=by show _=_;rw [cell_of_row _ _ 4 _ _ _ (heap_alloc_new wr _)];rfl
    have HNE:Hid (∀k',u4.ownBlock=some k'→k'≠wr.heap.size):=fun k' hk'=>Nat.ne_of_lt (World.ownsRow.lt HO.out k' hk').2
    have hnew:=World.new_ne wr
    go_wp2_with fail
    go_region_held3 (fun w'=>w'.cell? ⟨wr.heap.size,4,none⟩=some (.string xs0)) (first |exact HC8.out |exact HC7.out |exact HC6.out |exact HC0.out |go_keep) (first
     |(go_at_call 79;(refine (yb2 xs0.size _ HZS.out).mono ?_);(rintro e w6 ⟨v6,rfl,ho6,b6⟩);(obtain ⟨A6,c6,rfl,_,hs6,_⟩:=ho6.shape);(have HS6:Hid (Sl fB w6 w6.heap.size A6 (enc xs0.size).length (enc xs0.size)):=⟨rfl,hs6⟩);(have HB6:Hid (Below wr.heap.size wr w6):=Below.trans yaw (b6.mono sI));(have HO6:=lh (HO.out.on HB6.out));(have HS7:Hid (w.heap.size≤w6.heap.size):=Nat.le_trans HB.out.size HB6.out.size);(have HL6:Hid (wr.heap.size < w6.heap.size):=Nat.lt_of_lt_of_le sI b6.size);(have HC6:Hid (w6.cell? ⟨wr.heap.size,4,none⟩=some (.string xs0)):=(b6.cell (p:=⟨wr.heap.size,4,none⟩) sI).trans HC0.out);clear ho6 hs6 b6)
     |(refine step_appR (by rfl) (.tmp 48) (.tmp 53) 40 (by rfl) 5 i0 (.int .u8 0) 1 Tryz.underlying40 HI.out HZ0.out HZ1.out HZ2.out rfl u4 ((xs.take k).flatMap encR) w.heap.size (by rfl) HO6.out A6 (enc xs0.size).length c6 w6.heap.size (enc xs0.size) (by rfl) HS6.out fB1 HK1.out HK2.out HS7.out ?_;(intro v1 w1 HO1 HG1 HV1);(have HC7:Hid (w1.cell? ⟨wr.heap.size,4,none⟩=some (.string xs0)):=ydJ HG1.out HC6.out HL6.out HNE.out);(have HS8:Hid (w.heap.size≤w1.heap.size):=Nat.le_trans HS7.out HG1.out.size))
     |(refine step_strO (by rfl) (.tmp 54) (.tmp 56) 40 9 (by rfl) 5 i0 Tryz.underlying40 Tryz.underlying9 HI.out HZ0.out HZ1.out HZ2.out v1 ((xs.take k).flatMap encR++enc xs0.size) w.heap.size (by rfl) HO1.out xs0 (by rfl) HK3.out HS8.out ?_;(intro v2 w2 HO2 HG2 HV2);(have HC8:Hid (w2.cell? ⟨wr.heap.size,4,none⟩=some (.string xs0)):=ydJ HG2.out HC7.out (Nat.lt_of_lt_of_le HL6.out HG1.out.size) (ne_own HV1.out HNE.out HL6.out))))
    go_wp2_with fail
    go_roundw
    case rel=>exact ⟨k+1,by omega,by go_num,by show Own _ _ _ _ _ _;rw [HTK.out];have h9:=HO2.out;rw [List.append_assoc] at h9;exact h9,HO1.out.below (HO6.out.below (HB.out.trans (HB6.out.mono HB.out.size)) nl HS7.out HG1.out) nl HS8.out HG2.out⟩
    case measure=>simp [intOf];omega
   ·
    dsimp only at h h1;subst h;have hsz:(xs0.size:Int)=32:=by omega
    have hsn:((xs0.size:Int)==32)=true:=by simp [hsz]
    have HK1:Hid (((xs.take k).flatMap encR).length+xs0.size≤140737488355328):=by show _≤_;have:=HLK.out;omega
    have HBX:Hid (∀o,Below wr.heap.size wr (wr.alloc o)):=fun o=>br.alloc nl o
    have HS7:Hid (∀o,w.heap.size≤(wr.alloc o).heap.size):=fun o=>Nat.le_trans HB.out.size (HBX.out o).size
    have HO6:Hid (∀o,Own fB 5 (wr.alloc o) w.heap.size _ _):=fun o=>HO.out.alloc o
    go_wp2_with (at_builtin;refine ybK (o:=⟨some 67,_,_,_,_,_⟩) rfl (.tmp 64) (.tmp 66) 40 9 rfl 5 i0 Tryz.underlying40 Tryz.underlying9 HI.out HZ0.out HZ1.out HZ2.out _ ((xs.take k).flatMap encR) w.heap.size (by rfl) (HO6.out _) xs0 (by rfl) HK1.out (HS7.out _) ?_;intro v1 w1 HO1 HG1 HV1)
    go_roundw
    case rel=>exact ⟨k+1,by omega,by go_num,by show Own _ _ _ _ _ _;rw [HTK.out];exact HO1.out,(HO6.out _).below (HB.out.trans ((HBX.out _).mono HB.out.size)) nl (HS7.out _) HG1.out⟩
    case measure=>simp [intOf];omega
   ·
    dsimp only at h h1 h2;subst h;obtain ⟨z,rfl⟩:∃z:Nat,xn=z:=⟨xn.toNat,by omega⟩
    have hnn:¬(z:Int) < 0:=by omega
    have hnd:decide ((z:Int) < 0)=false:=decide_eq_false hnn;have hzw:(z:Int) % 18446744073709551616=z:=by omega
    have HK1:Hid ((((xs.take k).flatMap encR).length+(enc z).length)*1≤140737488355328):=by show _≤_;have:=HLK.out;have:=ya1 z;omega
    have HK2:Hid (((xs.take k).flatMap encR).length+(enc z).length≤maxLen):=by show _≤_;have:=HLK.out;have:=ya1 z;unfold maxLen;omega
    go_wp2_with fail
    refine (yb2 z _ om).mono ?_;rintro e w6 ⟨v6,rfl,ho6,b6⟩;obtain ⟨A6,c6,rfl,_,hs6,_⟩:=ho6.shape;have HS6:Hid (Sl fB w6 w6.heap.size A6 (enc z).length (enc z)):=⟨rfl,hs6⟩;have HB6:Hid (Below wr.heap.size wr w6):=Below.trans yaw (b6.mono sI);have HO6:=lh (HO.out.on HB6.out);have HS7:Hid (w.heap.size≤w6.heap.size):=Nat.le_trans HB.out.size HB6.out.size;clear hs6 ho6
    go_wp2_with (at_builtin;refine ya8 (o:=⟨some 78,_,_,_,_,_⟩) rfl (.tmp 73) (.tmp 77) 40 rfl 5 i0 (.int .u8 0) 1 Tryz.underlying40 HI.out HZ0.out HZ1.out HZ2.out rfl _ ((xs.take k).flatMap encR) w.heap.size (by rfl) HO6.out A6 (enc z).length c6 w6.heap.size (enc z) (by rfl) HS6.out fB1 HK1.out HK2.out HS7.out ?_;intro v1 w1 HO1 HG1 HV1)
    go_roundw
    case rel=>exact ⟨k+1,by omega,by go_num,by show Own _ _ _ _ _ _;rw [HTK.out];exact HO1.out,HO6.out.below (HB.out.trans (HB6.out.mono HB.out.size)) nl HS7.out HG1.out⟩
    case measure=>simp [intOf];omega
  ·obtain rfl:k=n:=by omega
   have hxl:=HX.out.1;have HOF:=lh (show Own fB 5 wr w.heap.size _ (xs.flatMap encR) by have h9:=HO.out;rwa [List.take_of_length_le om] at h9);obtain ⟨A4,c4,hv4,_,_,_⟩:=HOF.out.shape;obtain ⟨N,hN⟩:∃N,(xs.flatMap encR).length=N:=⟨_,rfl⟩
   have hle:¬1048576 < (N:Int):=by have:=HL.out;omega
   have hld:decide (1048576 < (N:Int))=false:=decide_eq_false hle;rw [hN] at hv4;subst hv4;clear HO HO0 HB0 hN
   go_wp2_with fail
   go_ret2;exact ⟨_,rfl,HOF.out,HB.out⟩
theorem rnumber_any (n:Int) (w:World) (h0:0≤n) (h1:n≤9223372036854775807):
 Calls Tryz.prog 132 #[.int .i64 n] w fun e w'=>e= .returned (aVl (vN n))∧Below w.heap.size w w':=by
 have hw:n % 18446744073709551616=n:=by omega
 go_enter Tryz.func132,Tryz.ntmps132
 go_wp2_with (refine ya3 (o:=⟨none,.store 188 (.tmp 2) (.tmp 5),_,_,_,_⟩) rfl 188 (.tmp 2) (.tmp 5) rfl 188 _ (fVl (vN n)).toArray rfl rfl Tryz.sizeVl rfl (fVl_all _) ?_)
 exact bodyPost_ret (results_cell_row rfl _ _ _ _ (fVl (vN n)).toArray _ _ rfl (heap_alloc_new w _) Tryz.underlying188 rfl Tryz.sizeVl) rfl ⟨rfl,bl⟩
theorem rsumv_any (s:ByteArray) (w:World):
 Calls Tryz.prog 131 #[.string s] w fun e w'=>e= .returned (aVl (vS s))∧Below w.heap.size w w':=by
 go_enter Tryz.func131,Tryz.ntmps131
 go_wp2_with (refine ya3 (o:=⟨none,.store 188 (.tmp 2) (.tmp 4),_,_,_,_⟩) rfl 188 (.tmp 2) (.tmp 4) rfl 188 _ (fVl (vS s)).toArray rfl rfl Tryz.sizeVl rfl (fVl_all _) ?_)
 exact bodyPost_ret (results_cell_row rfl _ _ _ _ (fVl (vS s)).toArray _ _ rfl (heap_alloc_new w _) Tryz.underlying188 rfl Tryz.sizeVl) rfl ⟨rfl,bl⟩
theorem rbytes_any (A:Option Addr) (n c B:Nat) (xs:List Int) (w:World) (hx:Sl fB w B A n xs) (hB:B≤w.heap.size):
 Calls Tryz.prog 129 #[.slice A n c] w fun e w'=>e= .returned (aVl (vB (baOf xs)))∧Below w.heap.size w w':=by
 obtain ⟨s,hs⟩:∃s,s=baOf xs:=⟨_,rfl⟩
 have hcv:(convert 40 9 (.slice A n c)).run Tryz.prog (w.alloc (.cells #[.int .i64 0,.int .u64 0,.int .i64 0,.bool false,.string ⟨#[]⟩,.int .i64 0] 188))= .ok (.string s) (w.alloc (.cells #[.int .i64 0,.int .u64 0,.int .i64 0,.bool false,.string ⟨#[]⟩,.int .i64 0] 188)):=by
  rw [hs];exact ybG (P:=Tryz.prog) 40 5 9 Tryz.underlying40 Tryz.underlying5 Tryz.underlying9 _ B A n c xs (hx.up bl hB)
 rw [←hs];clear hs hx;go_enter Tryz.func129,Tryz.ntmps129
 go_wp2_with (refine ya3 (o:=⟨none,.store 188 (.tmp 2) (.tmp 5),_,_,_,_⟩) rfl 188 (.tmp 2) (.tmp 5) rfl 188 _ (fVl (vB s)).toArray rfl rfl Tryz.sizeVl rfl (fVl_all _) ?_)
 exact bodyPost_ret (results_cell_row rfl _ _ _ _ (fVl (vB s)).toArray _ _ rfl (heap_alloc_new w _) Tryz.underlying188 rfl Tryz.sizeVl) rfl ⟨rfl,bl⟩
abbrev tVl:TypeId:=188
theorem Tryz.infoVl:(Tryz.prog.info? 188).map (fun i=>(i.zero,i.size,i.bytes))=some (some (.agg #[.int .i64 0,.int .u64 0,.int .i64 0,.bool false,.string ⟨#[]⟩,.int .i64 0]),6,56):=by kernel_rfl
theorem Tryz.zsVl:(Value.agg #[.int .i64 0,.int .u64 0,.int .i64 0,.bool false,.string ⟨#[]⟩,.int .i64 0]).cells.size=6:=by kernel_rfl
def VA (w W:World) (u:Value) (acc:List Vl):Prop:=OwnN fVl 6 tVl W w.heap.size u acc∧Below w.heap.size w W
section
variable {w W W':World} {u u':Value} {acc acc':List Vl}
theorem VA.on (h:VA w W u acc) (hb:Below W.heap.size W W'):VA w W' u acc:=⟨h.1.on hb,h.2.trans (hb.mono h.2.size)⟩
theorem VA.alloc (h:VA w W u acc) (o:Obj):VA w (W.alloc o) u acc:=h.on (br.alloc nl o)
theorem VA.drew (h:VA w W u acc):VA w W.drew u acc:=h.on br.drew
theorem VA.drewN (h:VA w W u acc) (n:Nat):VA w (W.drewN n) u acc:=h.on ⟨rfl,rfl,rfl,Nat.le_refl _,fun _ _=>rfl⟩
theorem VA.app (h:VA w W u acc) (ho:OwnN fVl 6 tVl W' w.heap.size u' acc') (hg:W.grownBy W' u.ownBlock):VA w W' u' acc':=
 ⟨ho,h.2.grown hg h.2.size fun k hk=>(World.ownsRow.lt h.1 k hk).1⟩
theorem VA.start (hb:Below w.heap.size w W) {cs:Array Value} {ys:List Vl} {m:Nat} (hc:cs.toList=ys.flatMap fVl) (hm:ys.length=m) (hm1:m≤100):
 VA w (W.alloc (.cells cs tVl)) (.slice (some ⟨W.heap.size,0,none⟩) m m) ys:=by
 have h1:cs.size=m*6:=by rw [←Array.length_toList,hc,ycB fVl_len,hm]
 have h2:=World.ownsRow_lit (base:=w.heap.size) (e:=tVl) W cs m hb.size yaS h1;have hbA:Below W.heap.size W (W.alloc (.cells cs tVl)):=bl;refine ⟨?_,hb.trans (hbA.mono hb.size)⟩;unfold OwnN;rw [hm,←hc];exact h2
theorem VA.row (h:VA w W u acc):∃A c,u= .slice A acc.length c∧acc.length≤c∧SlN fVl 6 W W.heap.size A acc.length acc:=by
 obtain ⟨A,c,h1,hc,h2,_⟩:=h.1.shape fVl_len;exact ⟨A,c,h1,hc,h2⟩
end
section
variable {w:World} {u:Value} {acc:List Vl}
theorem wp_vapp {W:World} {o:Oper} {a:Act} {K:Act→World→Prop} {Q:Exit→Act→World→Prop} (sl x:Operand)
 (ho:o.op= .call {callee:= .builtin .append,args:=#[sl,x],argTypes:=#[210,210]})
 (h:VA w W u acc) (hs:a.eval sl=u) (ys:List Vl) (hr:∃B A m c,a.eval x= .slice A m c∧SlN fVl 6 W B A m ys) (hl:acc.length+ys.length≤200000)
 (k:∀u' W',Hid (VA w W' u' (acc++ys))→K (a.put o.dst u') W'):o.wp Tryz.prog a W K Q:=by
 obtain ⟨i0,hi,hz0,hz1,hz2⟩:=info_parts Tryz.infoVl;obtain ⟨B,A,m,c,hx,hsl⟩:=hr;have hm:ys.length=m:=hsl.1
 exact wp_appN fVl_len om sl x 210 ho tVl i0 _ 56 Tryz.underlying210 hi hz0 hz1 hz2 Tryz.zsVl u acc w.heap.size hs h.1 A m c B ys hx hsl fVl_one om yaS h.2.size
  fun v' w' h2 h3 h4=>k _ _ (h.app h2 h3)
theorem yci {W:World} {ops:Array Oper} {rest:List Oper} {o:Oper} {a:Act} {Q:Exit→Act→World→Prop} (hgd:o.guard=none) (sl x:Operand)
 (ho:o.op= .call {callee:= .builtin .append,args:=#[sl,x],argTypes:=#[210,210]})
 (h:VA w W u acc) (hs:a.eval sl=u) (ys:List Vl) (hr:∃B A m c,a.eval x= .slice A m c∧SlN fVl 6 W B A m ys) (hl:acc.length+ys.length≤200000)
 (k:∀u' W',Hid (VA w W' u' (acc++ys))→wpList Tryz.prog ops Q rest (a.put o.dst u') W'):wpList Tryz.prog ops Q (o::rest) a W:=
 wpList_plain hgd fun _ hK=>wp_vapp sl x ho h hs ys hr hl fun u' W' hv=>hK _ _ (k u' W' hv)
theorem step_vapp {W:World} {ops:Array Oper} {o:Oper} {a:Act} {K:Act→World→Prop} {Q:Exit→Act→World→Prop} {E:Prop} (hgd:o.guard=none) (sl x:Operand)
 (ho:o.op= .call {callee:= .builtin .append,args:=#[sl,x],argTypes:=#[210,210]})
 (h:VA w W u acc) (hs:a.eval sl=u) (ys:List Vl) (hr:∃B A m c,a.eval x= .slice A m c∧SlN fVl 6 W B A m ys) (hl:acc.length+ys.length≤200000)
 (k:∀u' W',Hid (VA w W' u' (acc++ys))→K (a.put o.dst u') W'):if Region.wanted o (yielded ops a.tmps)=true then Oper.wp Tryz.prog o a W K Q else E:=by
 have hw:Region.wanted o (yielded ops a.tmps)=true:=by simp [Region.wanted,hgd]
 rw [if_pos hw];exact wp_vapp sl x ho h hs ys hr hl k
end
theorem ydK {U:World} {cs:Array Value} {ys:List Vl} {m:Nat} (hc:cs.toList=ys.flatMap fVl) (hm:ys.length=m):SlN fVl 6 (U.alloc (.cells cs tVl)) (U.heap.size+1) (some ⟨U.heap.size,0,none⟩) m ys:=
 SlN.of_rows fVl_len (heap_alloc_new U _) hc (Nat.lt_succ_self _) hm
