/- SHA-256 of the reference: Pad and Sum. SHA-256 of the reference: Sum. -/
import Derived.Test.YtpdledjgbgalcaaGreatDoorZ5
import Derived.Deep.RegionHeld3
namespace Go.Proofs.YtpdledjgbgalcaaGreatDoor
set_option maxRecDepth 100000
set_option maxHeartbeats 8000000
open Go.RowKit
set_option linter.unusedVariables false
set_option linter.unusedSimpArgs false
theorem run_slice_two {P:Program} (t e:Nat) (i:TypeInfo) (ht:P.underlying t=some (.slice e)) (hi:P.info? e=some i) (hs:i.size=1) (A:Option Addr) (n c:Nat) (kl kh:IntKind) (l h:Int) (m k:Nat) (hm:l=m) (hk:h=k) (h1:m≤k) (h2:k≤c) (w:World):
 (Instr.slice t (.slice A n c) (some (.int kl l)) (some (.int kh h)) none).run P w= .ok (.slice (if c=m then A else A.map (·.add m)) (k - m) (c - m)) w:=by
 subst hm hk;simp [Instr.slice,run_underlying ht,Instr.sliceBounds,run_sliceBound w kl (m:Int) k _ om om,run_sliceBound w kh (k:Int) c _ om om,sizeOf,typeInfo,hi,hs]
def OwB (w:World) (xs:List Int) (v:Value) (wr:World):Prop:=Hid (Own fB 5 wr w.heap.size v xs)∧Hid (Below w.heap.size w wr)
theorem rpad_any (A:Option Addr) (n c B:Nat) (xs:List Int) (w:World) (hx:Sl fB w B A n xs) (hB:B≤w.heap.size) (hl:n≤549755813888):
 Calls Tryz.prog 181 #[.slice A n c] w fun e w'=>∃v,e= .returned v∧OwB w (xs++padB xs.length) v w':=by
 obtain ⟨i0,hi,hz0,hz1,hz2⟩:=info_parts Tryz.infoB;have HI:=lh hi;have HZ0:=lh hz0;have HZ1:=lh hz1;have HZ2:=lh hz2;have HO0:Hid (Own fB 5 (w.alloc (.cells #[] 5)) w.heap.size (.slice (some ⟨w.heap.size,0,none⟩) 0 0) []):=World.ownsRow_lit w #[] 0 nl yaS rfl;have HB0:Hid (Below w.heap.size w (w.alloc (.cells #[] 5))):=bl;have HX0:Hid (Sl fB (w.alloc (.cells #[] 5)) B A n xs):=hx.up HB0.out hB;have HXN:Hid (xs.length=n):=hx.1;have HL1:Hid ((([]:List Int).length+xs.length)*1≤140737488355328):=by show _≤_;rw [hx.1];simp;omega
 have HL2:Hid (([]:List Int).length+xs.length≤maxLen):=by show _≤_;rw [hx.1];unfold maxLen;simp;omega
 have HSz:Hid (w.heap.size≤(w.alloc (.cells #[] 5)).heap.size):=by show _≤_;simp
 have HL3:Hid ((([]++xs:List Int).length+1)*1≤140737488355328):=by show _≤_;rw [List.nil_append,hx.1];omega
 have HL4:Hid (([]++xs:List Int).length+1≤maxLen):=by show _≤_;rw [List.nil_append,hx.1];unfold maxLen;omega
 clear hi hz0 hz1 hz2 hx;go_enter Tryz.func181,Tryz.ntmps181
 go_upto_region 2 with (first
  |(at_builtin;(with_reducible refine ya8 (o:=⟨some 8,_,_,_,_,_⟩) rfl (.tmp 6) (.tmp 7) 40 rfl 5 i0 (.int .u8 0) 1 Tryz.underlying40 HI.out HZ0.out HZ1.out HZ2.out rfl _ [] w.heap.size rfl HO0.out _ _ _ B xs rfl HX0.out fB1 HL1.out HL2.out HSz.out ?_);intro v1 w1 HO1 HG1 HV1
    have HB1:Hid (Below w.heap.size w w1):=HB0.out.trans (yaY HG1.out (fun j hj=>(World.ownsRow.lt HO0.out j hj).1) HSz.out)
    have HSz1:Hid (w.heap.size≤w1.heap.size):=HB1.out.size)
  |(at_builtin;(with_reducible refine ya4 (o:=⟨some 10,_,_,_,_,_⟩) rfl (.tmp 8) (.tmp 9) 40 rfl 5 i0 (.int .u8 0) 1 Tryz.underlying40 HI.out HZ0.out HZ1.out HZ2.out rfl _ ([]++xs) w.heap.size rfl HO1.out 128 1 rfl fB1 HL3.out HL4.out HSz1.out ?_);intro v2 w2 HO2 HG2 HV2
    have HB2:Hid (Below w.heap.size w w2):=HB1.out.trans (yaY HG2.out (fun j hj=>(World.ownsRow.lt HO1.out j hj).1) HSz1.out)))
 have HP0:Hid (OwB w (xs++128::List.replicate 0 0) v2 w2):=⟨HO2,HB2⟩;clear HO1 HG1 HV1 HB1 HSz1 HO2 HG2 HV2 HB2 HO0 HB0 HX0 HL1 HL2 HL3 HL4 HSz
 go_loopw [3] (fun v wr=>∃k,k≤zN n∧Hid (OwB w (xs++128::List.replicate k 0) v wr)) (fun v _=>n+zN n+1 - ycf v)
 case atStart=>exact ⟨0,by omega,HP0⟩
 case round=>
  obtain ⟨k,hkz,HP⟩:=hrel;have HO:=HP.out.1;have HB:=HP.out.2;have hzl:=zN_lt n;have hll:(xs++128::List.replicate k (0:Int)).length=n+1+k:=by rw [List.length_append,List.length_cons,List.length_replicate,HXN.out];omega
  obtain ⟨ys,hys⟩:∃ys,ys=xs++128::List.replicate k (0:Int):=⟨_,rfl⟩
  rw [←hys] at HO hll;obtain ⟨A1,c1,hv1,hc1,hs1,_⟩:=HO.out.shape;rw [hll] at hv1;obtain ⟨l1,hl1⟩:∃l,l=n+1+k:=⟨_,rfl⟩
  rw [←hl1] at hv1 hll;have HYL:=lh hll;have HYS:=lh hys;have HLE:=lh hl1;have HSz:Hid (w.heap.size≤wr.heap.size):=HB.out.size;have hlb:(l1:Int)≤549755813888+65:=by omega
  subst hv1
  by_cases hkz2:k=zN n
  ·
   have hrem:(l1:Int) % 64=56:=by have h0:zN n=(119 - n % 64) % 64:=rfl;omega
   have HPz:Hid (OwB w ((xs++128::List.replicate (zN n) 0)++(be8 (8*n)).take 0) (.slice A1 l1 c1) wr):=by show OwB ..;rw [List.take_zero,List.append_nil,←hkz2];exact HP.out
   clear hl1 hys hll hs1 hc1 HO HB HP HYL HYS HLE HSz hkz2
   go_upto_region 6 with fail
   clear hrem hlb
   go_loopw [3,5] (fun v i wr=>∃j:Nat,j≤8∧i= .int .i64 (7 - (j:Int))∧Hid (OwB w ((xs++128::List.replicate (zN n) 0)++(be8 (8*n)).take j) v wr)) (fun _ i _=>(intOf i+1).toNat)
   case atStart=>exact ⟨0,by omega,rfl,HPz⟩
   case round=>
    obtain ⟨j,hj,rfl,HP⟩:=hrel;have HO:=HP.out.1;have HB:=HP.out.2
    have hll:((xs++128::List.replicate (zN n) (0:Int))++(be8 (8*n)).take j).length=n+1+zN n+j:=by
     rw [List.length_append,List.length_append,List.length_cons,List.length_replicate,List.length_take,be8_len,HXN.out];omega
    obtain ⟨ys,hys⟩:∃ys,ys=(xs++128::List.replicate (zN n) (0:Int))++(be8 (8*n)).take j:=⟨_,rfl⟩
    rw [←hys] at HO hll;have HYL:=lh hll;have HYS:=lh hys;have HSz:Hid (w.heap.size≤wr.heap.size):=HB.out.size;clear hys hll
    by_cases hj8:j < 8
    ·obtain ⟨s,hs⟩:∃s:Nat,s=7 - j:=⟨_,rfl⟩
     have hsI:(7 - (j:Int))=(s:Int):=by omega
     obtain ⟨s8,hs8⟩:∃s8:Nat,s8=8*s:=⟨_,rfl⟩
     have hs8I:IntKind.i64.wrap (8*(s:Int))=(s8:Int):=by rw [IntWalk.i64_in _ om];omega
     have hs56:s8≤56:=by omega
     have hs7:s≤7:=by omega
     have HSS:=lh hs;have HS8:=lh hs8;rw [hsI];have HL1:Hid ((ys.length+1)*1≤140737488355328):=by show _≤_;rw [HYL.out];omega
     have HL2:Hid (ys.length+1≤maxLen):=by show _≤_;rw [HYL.out];unfold maxLen;omega
     have HT:Hid ((be8 (8*n)).take j++[(n:Int)*8 / 2 ^ s8 % 256]=(be8 (8*n)).take (j+1)):=by
      show _=_
      rw [be8_snoc _ hj8,hs8,hs,show 8*(7 - j)=56 - 8*j by omega]
      congr 2
      rw [Int.mul_comm];simp
     clear hs hsI hs8
     go_wp2_with (first
      |(at_builtin;(with_reducible refine ya4 (o:=⟨some 33,_,_,_,_,_⟩) rfl (.tmp 26) (.tmp 32) 40 rfl 5 i0 (.int .u8 0) 1 Tryz.underlying40 HI.out HZ0.out HZ1.out HZ2.out rfl _ ys w.heap.size rfl HO.out ((n:Int)*8 / 2 ^ s8 % 256) 1 rfl fB1 HL1.out HL2.out HSz.out ?_);intro v1 w1 HO1 HG1 HV1))
     go_roundw
     case rel=>
      refine ⟨j+1,by omega,?_,?_,?_⟩
      ·have:=HSS.out
       refine congrArg (Value.int .i64) ?_;omega
      ·have h:=HO1.out
       rw [HYS.out,List.append_assoc,HT.out] at h;exact h
      ·exact HB.out.trans (yaY HG1.out (fun j hj=>(World.ownsRow.lt HO.out j hj).1) HSz.out)
     case measure=>
      have:=HSS.out
      simp [intOf]
      try omega
    ·obtain rfl:j=8:=by omega
     go_wp2;go_ret;refine ⟨_,rfl,?_,HB⟩;have h:=HO.out;rw [HYS.out,List.take_of_length_le (by rw [be8_len];exact Nat.le_refl _),List.append_assoc] at h;rw [HXN.out];exact h
  ·
   have hrem:¬(l1:Int) % 64=56:=by have h0:zN n=(119 - n % 64) % 64:=rfl;omega
   have HL1:Hid ((ys.length+1)*1≤140737488355328):=by show _≤_;rw [HYL.out];omega
   have HL2:Hid (ys.length+1≤maxLen):=by show _≤_;rw [HYL.out];unfold maxLen;omega
   clear hl1 hys hll hs1 hc1
   go_wp2_with (first
    |(at_builtin;(with_reducible refine ya4 (o:=⟨some 17,_,_,_,_,_⟩) rfl (.tmp 15) (.tmp 16) 40 rfl 5 i0 (.int .u8 0) 1 Tryz.underlying40 HI.out HZ0.out HZ1.out HZ2.out rfl _ ys w.heap.size rfl HO.out 0 1 rfl fB1 HL1.out HL2.out HSz.out ?_);intro v1 w1 HO1 HG1 HV1))
   go_roundw
   case rel=>
    refine ⟨k+1,by omega,?_,?_⟩
    ·have h:=HO1.out
     rw [HYS.out,List.append_assoc,List.cons_append,←List.replicate_succ'] at h;exact h
    ·exact HB.out.trans (yaY HG1.out (fun j hj=>(World.ownsRow.lt HO.out j hj).1) HSz.out)
   case measure=>
    obtain ⟨A2,c2,hv2,_⟩:=HO1.out.shape;have h1:=HYL.out;have h2:=HLE.out;rw [hv2]
    show n+zN n+1 - (ys++[0]).length < n+zN n+1 - l1
    rw [List.length_append];simp only [List.length_cons,List.length_nil];omega
def hParts:Array (Nat × Operand):=(hTab.list.zipIdx.map fun (x,i)=>(i,Operand.const (U32 x))).toArray
theorem hBuilt (a:Act):Tryz.prog.built 251 (hParts.map fun (i,x)=>(i,a.eval x)).toList=some (vArr hTab):=by kernel_rfl
theorem vArr_sz2 (v u:W8):(vArr v).size=(vArr u).size:=rfl
theorem own_gt {w:World} {g base:Nat} {e:TypeId} {v:Value} {xs:List Int} (h:Own fB e w base v xs) (hg:g < base):some g≠v.ownBlock:=fun hv=>by
 have:=(World.ownsRow.lt h g hv.symm).1
 omega
theorem ybv {P:Program} {w:World} {α:Type} {f:α→Value} {ops:Array Oper} {o:Oper} {a:Act} {K:Act→World→Prop} {Q:Exit→Act→World→Prop} {E:Prop} (sl x:Operand) (t:TypeId)
 (ho:o.op= .call {callee:= .builtin .append,args:=#[sl,x],argTypes:=#[t,t]}) (hgd:o.guard=none)
 (e:TypeId) (i:TypeInfo) (z:Value) (bytes:Nat) (ht:P.underlying t=some (.slice e)) (hi:P.info? e=some i) (hz:i.zero=some z)
 (hsize:i.size=1) (hby:i.bytes=bytes) (hzs:z.cells.size=1) (xs:List α) (base:Nat) (hown:Own f e w base (a.eval sl) xs)
 (ys:List α) (hr:∃B A m c,a.eval x= .slice A m c∧Sl f w B A m ys) (h1:∀y,(f y).oneCell'=true) (hbytes:(xs.length+ys.length)*bytes≤140737488355328) (hmax:xs.length+ys.length≤maxLen) (hbase:base≤w.heap.size)
 (h:∀v' w',Hid (Own f e w' base v' (xs++ys))→Hid (w.grownBy w' (a.eval sl).ownBlock)→Hid (v'.ownBlock=(a.eval sl).ownBlock∨v'.ownBlock=some w.heap.size)→Hid (∀B0 w0,Below B0 w0 w→B0≤base→Below B0 w0 w')→K (a.put o.dst v') w'):
 if Region.wanted o (yielded ops a.tmps)=true then Oper.wp P o a w K Q else E:=by
 have hw:Region.wanted o (yielded ops a.tmps)=true:=by simp [Region.wanted,hgd]
 rw [if_pos hw];obtain ⟨B,A,m,c,hx,hr⟩:=hr;exact wp_app sl x t ho e i z bytes ht hi hz hsize hby hzs _ xs base rfl hown A m c B ys hx hr h1 hbytes hmax hbase fun v' w' h2 h3 h4=>h v' w' h2 h3 h4 fun B0 w0 hb hB=>hown.below hb hB (Nat.le_trans hB hbase) h3
theorem ya0 {B:Nat} {a w:World} (h:Below B a w) (n:Nat):Below B a (w.drewN n):=⟨h.os,h.tape,h.output,h.size,h.block⟩
def RhP (g:Nat) (ps:List Int) (w1:World) (i:Value) (wr:World):Prop:=
 ∃p:Nat,p % 64=0∧p≤ps.length∧i= .int .i64 p∧Hid (wr.heap[g]? =some (.cells (vArr (hashN ps (p / 64))) 251 (0,0)))∧Hid (But (fun k=>k=g) w1 wr)
theorem ycg (A:Option Addr) (n c B:Nat) (xs:List Int) (w:World) (hx:Sl fB w B A n xs) (hB:B≤w.heap.size) (hl:n≤549755813888) (hxb:Byt xs):
 Calls Tryz.prog 123 #[.slice A n c] w fun e w'=>e= .returned (.string (baOf (shaB xs)))∧Below w.heap.size w w':=by
 obtain ⟨i0,hi,hz0,hz1,hz2⟩:=info_parts Tryz.infoB;have HI:=lh hi;have HZ0:=lh hz0;have HZ1:=lh hz1;have HZ2:=lh hz2;have HXB:=lh hxb;have HXN:Hid (xs.length=n):=hx.1;have HX1:Hid (Sl fB (w.alloc (.cells (vArr hTab) 251)) B A n xs):=hx.up bl hB;have HC:=lh (rpad_any A n c B xs (w.alloc (.cells (vArr hTab) 251)) HX1.out (Nat.le_trans hB sI) hl);clear hi hz0 hz1 hz2 hx hxb;go_enter Tryz.func123,Tryz.ntmps123
 go_upto_region 4 with (first
  |(with_reducible refine ya6 (o:=⟨some 8,_,_,_,_,_⟩) rfl 251 hParts yaV (vArr hTab) (hBuilt _) ?_)
  |(with_reducible refine ya3 (o:=⟨none,_,_,_,_,_⟩) rfl 251 (.tmp 3) (.tmp 8) rfl 251 _ (vArr hTab) rfl rfl (ybX _) rfl (ydC _) ?_)
  |(go_at_call 181;(refine HC.out.mono ?_);rintro e w1 ⟨vp,rfl,hp⟩
    have HP:=lh hp
    clear hp))
 obtain ⟨ps,hps⟩:∃ps,ps=xs++padB xs.length:=⟨_,rfl⟩
 have hlp:ps.length % 64=0:=by rw [hps,List.length_append];exact padB_64 _
 have hl0:0 < ps.length:=by rw [hps,List.length_append,padB_len];omega
 have hlm:ps.length≤549755813888+72:=by rw [hps,List.length_append,padB_len,HXN.out];have:=zN_lt n;omega
 have HPB:Hid (Byt ps):=by rw [hps];exact HXB.out.app (padB_byt _)
 rw [←hps] at HP;have HPS:=lh hps;have HO:=HP.out.1;have HBp:=HP.out.2;have HG1:Hid (w1.heap[w.heap.size]? =some (.cells (vArr hTab) 251 (0,0))):=(HBp.out.block _ sI).trans (heap_alloc_new w _);have HBw:Hid (Below w.heap.size w w1):=bl.trans (HBp.out.mono sI);obtain ⟨A1,c1,hv1,hc1,hs1,_⟩:=HO.out.shape;obtain ⟨b,off,hA1,hb1,hAt⟩:=hs1 hl0;subst hA1
 have HNG:Hid (b≠w.heap.size):=by
  intro e;have h0:=HO.out;rw [hv1] at h0
  have:=(World.ownsRow.lt h0 b rfl).1
  simp at this;omega
 obtain ⟨lp,hlpe⟩:∃n,n=ps.length:=⟨_,rfl⟩
 rw [←hlpe] at hlp hl0 hlm hv1 hc1;subst hv1;have HAT:=lh hAt;have HB1:=lh hb1;have HLP:=lh hlpe;clear hps hlpe hAt hb1 HP
 go_loopw [5] (fun i wr=>RhP w.heap.size ps w1 i wr) (fun i _=>lp - (intOf i).toNat)
 case atStart=>exact ⟨0,rfl,by omega,rfl,HG1,But.refl _ _⟩
 case round=>
  obtain ⟨p,hp64,hpl,rfl,HG,HBt⟩:=hrel;rw [←HLP.out] at hpl;have HBr:Hid (Below w.heap.size w wr):=HBw.out.trans (HBt.out.below HBw.out.size (fun i hi=>by omega))
  by_cases hlt:p < lp
  ·
   obtain ⟨q,hq⟩:∃q,q=p+64:=⟨_,rfl⟩
   have hqI:IntKind.i64.wrap ((p:Int)+64)=(q:Int):=by rw [IntWalk.i64_in _ om];omega
   have hql:q≤lp:=by omega
   have hltI:(p:Int) < (lp:Int):=by omega
   obtain ⟨iB,hB0,_,hB1,_⟩:=info_parts Tryz.infoB
   have hsl:∀W,(Instr.slice 40 (.slice (some ⟨b,off,none⟩) lp c1) (some (.int .i64 (p:Int))) (some (.int .i64 (q:Int))) none).run Tryz.prog W= .ok (.slice (some ⟨b,off+p,none⟩) 64 (c1 - p)) W:=fun W=>by
    rw [run_slice_two (P:=Tryz.prog) 40 5 iB Tryz.underlying40 hB0 hB1 (some ⟨b,off,none⟩) lp c1 .i64 .i64 (p:Int) (q:Int) p q rfl rfl om om W,if_neg om,show q - p=64 by omega,Option.map_some,show (⟨b,off,none⟩:Addr).add p=⟨b,off+p,none⟩ by unfold Addr.add;split<;>simp_all]
   obtain ⟨V,hV⟩:∃V,V=hashN ps (p / 64):=⟨_,rfl⟩
   rw [←hV] at HG;have HVo:Hid (W8ok V):=by rw [hV];exact ydB _ _
   have HN:Hid (blk V ((ps.drop p).take 64)=hashN ps ((p+64) / 64)):=by
    show _=_
    rw [show (p+64) / 64=p / 64+1 by omega,hV]
    show _=blk _ _
    rw [show 64*(p / 64)=p by omega]
   have HSL:Hid (Sl fB wr wr.heap.size (some ⟨b,off+p,none⟩) 64 ((ps.drop p).take 64)):=by
    refine ⟨by rw [List.length_take,List.length_drop,←HLP.out];omega,fun _=>⟨b,off+p,rfl,Nat.lt_of_lt_of_le HB1.out HBt.out.size,fun k x hx=>?_⟩⟩;have hk:=List.getElem?_eq_some_iff.1 hx;have hk2:k < 64:=by have:=hk.1;rw [List.length_take] at this;omega
    have hx2:ps[p+k]? =some x:=by rw [List.getElem?_take_of_lt hk2,List.getElem?_drop] at hx;exact hx
    have:=HAT.out (p+k) x hx2
    rw [Nat.add_assoc];exact (World.cell?_of_block (w:=w1) (HBt.out.block b HB1.out HNG.out)).trans this
   have HC2:Hid (Calls Tryz.prog 182 #[.agg (vArr V),.slice (some ⟨b,off+p,none⟩) 64 (c1 - p)] wr.drew fun e w'=>e= .returned (.agg (vArr (blk V ((ps.drop p).take 64))))∧Below wr.heap.size wr w'):=
    (rblock_any V (some ⟨b,off+p,none⟩) (c1 - p) wr.heap.size ((ps.drop p).take 64) wr.drew HVo.out HSL.out nl ((HPB.out.drop p).take 64)).mono (fun e w' h=>⟨h.1,⟨h.2.os,h.2.tape,h.2.output,h.2.size,h.2.block⟩⟩)
   have HQ:=lh hq;have HP64:=lh hp64;have HLT:=lh hlt;clear hV hq;obtain ⟨va,vb,vc,vd,ve,vf,vg,vh⟩:=V;have v0:=ybh HG.out (i:=0) rfl;have v1:=ybh HG.out (i:=1) rfl;have v2:=ybh HG.out (i:=2) rfl;have v3:=ybh HG.out (i:=3) rfl;have v4:=ybh HG.out (i:=4) rfl;have v5:=ybh HG.out (i:=5) rfl;have v6:=ybh HG.out (i:=6) rfl;have v7:=ybh HG.out (i:=7) rfl
   go_upto_region 6 with fail
   go_still_tail 6,yaV
   repeat still_step
   try refine wpStill_nil ?_
   change wpList _ _ _ _ _ wr.drew
   go_upto_region 5 with (first
    |(go_at_call 182;(refine HC2.out.mono ?_);rintro e w6 ⟨rfl,hb6⟩
      have HB6:=lh hb6;have HG6:Hid (w6.heap[w.heap.size]? =some (.cells (vArr ⟨va,vb,vc,vd,ve,vf,vg,vh⟩) 251 (0,0))):=(hb6.block _ (lt_of_block HG.out)).trans HG.out
      clear hb6)
    |((with_reducible refine yaZ (o:=⟨none,_,_,_,_,_⟩) rfl 251 (.tmp 3) (.tmp 23) rfl w.heap.size 251 _ _ rfl rfl HG6.out (ybX _) (vArr_sz2 _ _) (ydC _) ?_);intro W7 HG7 HB7))
   go_wp
   try go_simp
   refine ⟨?rel,?measure⟩
   case rel=>
    have hp64:=HP64.out;have hq:=HQ.out;refine ⟨p+64,by omega,by rw [←HLP.out];omega,by rw [←hq],?_,(HBt.out.trans (But.of_below (p:=fun k=>k=w.heap.size) HB6.out) (fun i hi=> .inl hi)).trans HB7.out (fun i hi=> .inl hi)⟩
    show _=_
    rw [←HN.out];exact HG7.out
   case measure=>
    have hq:=HQ.out;have hlt:=HLT.out
    show lp - (q:Int).toNat < lp - (p:Int).toNat
    omega
  ·
   obtain rfl:p=lp:=by omega
   clear hlp hl0 hlm hpl hp64 hlt hc1;obtain ⟨V,hV⟩:∃V,V=hashN ps (p / 64):=⟨_,rfl⟩
   rw [←hV] at HG;have HV:Hid (V=hashN ps (ps.length / 64)):=by show _=_;rw [hV,HLP.out]
   clear hV;have HOe:Hid (Own fB 5 (wr.alloc (.cells #[] 5)) wr.heap.size (.slice (some ⟨wr.heap.size,0,none⟩) 0 0) []):=World.ownsRow_lit wr #[] 0 nl yaS rfl;have HBe:Hid (Below wr.heap.size wr (wr.alloc (.cells #[] 5))):=bl
   go_upto_region 9 with fail
   obtain ⟨W4,hW4⟩:∃W4,W4=wr:=⟨_,rfl⟩
   rw [←hW4] at HOe HBe;rw [←hW4] at HG HBr;rw [←hW4];have HGl:Hid (w.heap.size < W4.heap.size):=lt_of_block HG.out;clear hW4 HBt
   go_loopw [6,7] (fun v i wr=>∃j:Nat,j≤8∧i= .int .i64 j∧Hid (Own fB 5 wr W4.heap.size v (wB (V.list.take j)))∧Hid (Below W4.heap.size W4 wr)) (fun _ i _=>8 - (intOf i).toNat)
   case atStart=>exact ⟨0,by omega,rfl,HOe,HBe⟩
   case round=>
    obtain ⟨j,hj,rfl,HO,HB⟩:=hrel;obtain ⟨A5,c5,hv5,hc5,hs5,_⟩:=HO.out.shape;obtain ⟨zs,hzs⟩:∃zs,zs=wB (V.list.take j):=⟨_,rfl⟩
    rw [←hzs] at HO hv5 hs5;have hzl:zs.length=4*j:=by rw [hzs,wB_len,List.length_take];show 4*min j 8=_;omega
    rw [hzl] at hv5;subst hv5;have HZS:=lh hzs;have HZL:=lh hzl;have HS5:=lh hs5;have HGj:Hid (wr.heap[w.heap.size]? =some (.cells (vArr V) 251 (0,0))):=(HB.out.block _ HGl.out).trans HG.out;clear hzs hzl hs5 hc5
    by_cases hj8:j < 8
    ·obtain ⟨x,hx⟩:=ybn (xs:=V.list) (k:=j) hj8
     have hcx:=ybh HGj.out hx;have hjI:(j:Int) < 8:=by omega
     have HR4:Hid (Sl fB (wr.alloc (.cells #[.int .u8 (x / 16777216 % 256),.int .u8 (x / 65536 % 256),.int .u8 (x / 256 % 256),.int .u8 (x % 256)] 5)).drew (wr.heap.size+1) (some ⟨wr.heap.size,0,none⟩) 4 (w4 x)):=⟨rfl,SL.of_block (t:=5) (fr:=(0,0)) (heap_alloc_new wr _) (Nat.lt_succ_self _)⟩
     have HZ2':Hid (wB (V.list.take (j+1))=zs++w4 x):=by
      show _=_
      rw [yba hx,HZS.out];unfold wB;rw [List.flatMap_append];simp
     have HL1:Hid ((zs.length+(w4 x).length)*1≤140737488355328):=by show _≤_;rw [HZL.out];show (4*j+4)*1≤_;omega
     have HL2:Hid (zs.length+(w4 x).length≤maxLen):=by show _≤_;rw [HZL.out];show 4*j+4≤_;unfold maxLen;omega
     have HSz:Hid (W4.heap.size≤(wr.alloc (.cells #[.int .u8 (x / 16777216 % 256),.int .u8 (x / 65536 % 256),.int .u8 (x / 256 % 256),.int .u8 (x % 256)] 5)).drew.heap.size):=Nat.le_trans HB.out.size sI;have HO':Hid (Own fB 5 (wr.alloc (.cells #[.int .u8 (x / 16777216 % 256),.int .u8 (x / 65536 % 256),.int .u8 (x / 256 % 256),.int .u8 (x % 256)] 5)).drew W4.heap.size (.slice A5 (4*j) c5) zs):=(HO.out.alloc _).drewN 1;clear hx;have hne:=World.new_ne wr ⟨w.heap.size,j,none⟩ hcx;have HGne:Hid (w.heap.size < W4.heap.size):=HGl
     go_upto_region 11 with fail
     go_region_held3 (fun w'=>w'.cell? ⟨w.heap.size,j,none⟩=some (U32 x)) ((first |go_keep |exact HCK.out)) (first |(refine ybv (.tmp 29) (.tmp 49) 40 rfl rfl 5 i0 (.int .u8 0) 1 Tryz.underlying40 HI.out HZ0.out HZ1.out HZ2.out rfl zs W4.heap.size ?_ (w4 x) ?_ fB1 HL1.out HL2.out ?_ ?_;(first |exact HO.out.alloc _ |exact (HO.out.alloc _).drewN _ |exact (HO.out.drewN _).alloc _);(exact ⟨_,_,4,4,rfl,⟨rfl,SL.of_block (t:=5) (fr:=(0,0)) (heap_alloc_new _ _) (Nat.lt_succ_self _)⟩⟩);(exact Nat.le_trans HB.out.size sI);(intro v1 w1' HO1 HG1' HV1 HL1';(have HCK:Hid (w1'.cell? ⟨w.heap.size,j,none⟩=some (U32 x)):=(World.cell?_of_block (HG1'.out.block w.heap.size (Nat.lt_of_lt_of_le (lt_of_block HGj.out) sI) (own_gt HO.out HGl.out))).trans (by first |exact (Below.cell (Below.alloc br nl _) (lt_of_block HGj.out)).trans hcx |exact hcx)))) |fail)
     go_wp2
     go_roundw
     case rel=>
      refine ⟨j+1,by omega,by go_num,?_,?_⟩
      ·show Own ..
       rw [HZ2'.out];exact HO1.out
      ·exact (ya0 (HB.out.alloc HB.out.size _) _).trans (yaY HG1'.out (fun j hj=>(World.ownsRow.lt HO.out j hj).1) (Nat.le_trans HB.out.size sI))
     case measure=>simp [intOf];omega
    ·obtain rfl:j=8:=by omega
     have hcv:=ybG (P:=Tryz.prog) 40 5 9 Tryz.underlying40 Tryz.underlying5 Tryz.underlying9 wr wr.heap.size A5 (4*8) c5 zs ⟨HZL.out,HS5.out⟩;go_wp2;go_ret;refine ⟨?_,HBr.out.trans (HB.out.mono HBr.out.size)⟩
     have he:shaB xs=zs:=by
      rw [HZS.out];unfold shaB;rw [←List.length_append,←HPS.out,←HV.out]
      rfl
     rw [he]
     rfl
