import Derived.Test.YtpdledjgbgalcaaGreatDoorPb
import Derived.Maps.OwnIn
import Derived.WideKeyEntry
import Derived.Test.YtpdledjgbgalcaaGreatDoorRows
import Derived.ProofKit
import Derived.LaidMore
import Derived.OpenShut
import Derived.Stop.Joined
namespace Go.Proofs.YtpdledjgbgalcaaGreatDoor
set_option maxRecDepth 100000
set_option maxHeartbeats 8000000
open Go.RowKit Go.Proofs.Tryz
set_option linter.unusedVariables false
set_option linter.unusedSimpArgs false
theorem run_slice_two {P:Program} (t e:Nat) (i:TypeInfo) (ht:P.underlying t=some (.slice e)) (hi:P.info? e=some i) (hs:i.size=1) (A:Option Addr) (n c:Nat) (H G:IntKind) (l h:Int) (m k:Nat) (J:l=m) (K:h=k) (h1:m<=k) (h2:k<=c) (w:World):
 (Instr.slice t (.slice A n c) (some (.int H l)) (some (.int G h)) none).run P w= .ok (.slice (if c=m then A else A.map (·.add m)) (k - m) (c - m)) w:=by
 subst J K;simp [Instr.slice,run_underlying ht,Instr.sliceBounds,run_sliceBound w H (m:Int) k _ om om,run_sliceBound w G (k:Int) c _ om om,sizeOf,typeInfo,hi,hs]
def OwB (w:World) (xs:List Int) (v:Value) (wr:World):Prop:=Hid (Own fB 5 wr w.heap.size v xs)/\Hid (Below w.heap.size w wr)
theorem rpad_any (A:Option Addr) (n c B:Nat) (xs:List Int) (w:World) (Y:Sl fB w B A n xs) (hB:B<=w.heap.size) (hl:n<=549755813888):
 Calls prog 181 #[.slice A n c] w fun e w'=>∃v,e= .returned v/\OwB w (xs++padB xs.length) v w':=by
 obtain ⟨i0,hi,am,ar,ax⟩:=info_parts Tryz.infoB;have HI:=lh hi;have z:=lh am;have aa:=lh ar;have Z:=lh ax;have aj:Hid (Own fB 5 (w.alloc (.cells #[] 5)) w.heap.size (.slice (some ⟨w.heap.size,0,none⟩) 0 0) []):=World.ownsRow_lit w #[] 0 nl ybd rfl;have ag:Hid (Below w.heap.size w (w.alloc (.cells #[] 5))):=bl;have ao:Hid (Sl fB (w.alloc (.cells #[] 5)) B A n xs):=Y.up ag.out hB;have HXN:Hid (xs.length=n):=Y.1;have O:Hid ((([]:List Int).length+xs.length)*1<=140737488355328):=by show _<=_;rw [Y.1];simp;omega
 have N:Hid (([]:List Int).length+xs.length<=maxLen):=by show _<=_;rw [Y.1];unfold maxLen;simp;omega
 have H:Hid (w.heap.size<=(w.alloc (.cells #[] 5)).heap.size):=by show _<=_;simp
 have al:Hid ((([]++xs:List Int).length+1)*1<=140737488355328):=by show _<=_;rw [List.nil_append,Y.1];omega
 have aB:Hid (([]++xs:List Int).length+1<=maxLen):=by show _<=_;rw [List.nil_append,Y.1];unfold maxLen;omega
 clear hi am ar ax Y;go_enter func181,ntmps181
 go_upto_region 2 with (first
  |(at_builtin;(with_reducible refine ybE (o:=⟨some 8,_,_,_,_,_⟩) rfl (.tmp 6) (.tmp 7) 40 rfl 5 i0 (.int .u8 0) 1 underlying40 HI.out z.out aa.out Z.out rfl _ [] w.heap.size rfl aj.out _ _ _ B xs rfl ao.out fB1 O.out N.out H.out ?_);intro v1 w1 K T af
    have HB1:Hid (Below w.heap.size w w1):=ag.out.trans (ybm T.out (fun j hj=>(ol aj.out j hj).1) H.out)
    have W:Hid (w.heap.size<=w1.heap.size):=HB1.out.size)
  |(at_builtin;(with_reducible refine ybw (o:=⟨some 10,_,_,_,_,_⟩) rfl (.tmp 8) (.tmp 9) 40 rfl 5 i0 (.int .u8 0) 1 underlying40 HI.out z.out aa.out Z.out rfl _ ([]++xs) w.heap.size rfl K.out 128 1 rfl fB1 al.out aB.out W.out ?_);intro v2 w2 au ap aF
    have az:Hid (Below w.heap.size w w2):=HB1.out.trans (ybm ap.out (fun j hj=>(ol K.out j hj).1) W.out)))
 have aG:Hid (OwB w (xs++128::List.replicate 0 0) v2 w2):=⟨au,az⟩;clear K T af HB1 W au ap aF az aj ag ao O N al aB H
 go_loopw [3] (fun v wr=>∃k,k<=zN n/\Hid (OwB w (xs++128::List.replicate k 0) v wr)) (fun v _=>n+zN n+1 - ycu v)
 case atStart=>exact ⟨0,by omega,aG⟩
 case round=>
  obtain ⟨k,aN,HP⟩:=hrel;have M:=HP.out.1;have HB:=HP.out.2;have aM:=zN_lt n;have G:(xs++128::List.replicate k (0:Int)).length=n+1+k:=by rw [List.length_append,List.length_cons,List.length_replicate,HXN.out];omega
  obtain ⟨ys,J⟩:∃ys,ys=xs++128::List.replicate k (0:Int):=⟨_,rfl⟩
  rw [<-J] at M G;obtain ⟨A1,c1,ah,aC,ay,_⟩:=M.out.shape;rw [G] at ah;obtain ⟨l1,ac⟩:∃l,l=n+1+k:=⟨_,rfl⟩
  rw [<-ac] at ah G;have L:=lh G;have U:=lh J;have aq:=lh ac;have H:Hid (w.heap.size<=wr.heap.size):=HB.out.size;have aI:(l1:Int)<=549755813888+65:=by omega
  subst ah
  by_cases ae:k=zN n
  ·
   have ak:(l1:Int) % 64=56:=by have h0:zN n=(119 - n % 64) % 64:=rfl;omega
   have aH:Hid (OwB w ((xs++128::List.replicate (zN n) 0)++(be8 (8*n)).take 0) (.slice A1 l1 c1) wr):=by show OwB ..;rw [List.take_zero,List.append_nil,<-ae];exact HP.out
   clear ac J G ay aC M HB HP L U aq H ae;go_upto_region 6 with fail
   clear ak aI
   go_loopw [3,5] (fun v i wr=>∃j:Nat,j<=8/\i= .int .i64 (7 - (j:Int))/\Hid (OwB w ((xs++128::List.replicate (zN n) 0)++(be8 (8*n)).take j) v wr)) (fun _ i _=>(intOf i+1).toNat)
   case atStart=>exact ⟨0,by omega,rfl,aH⟩
   case round=>
    obtain ⟨j,hj,rfl,HP⟩:=hrel;have M:=HP.out.1;have HB:=HP.out.2
    have G:((xs++128::List.replicate (zN n) (0:Int))++(be8 (8*n)).take j).length=n+1+zN n+j:=by
     rw [List.length_append,List.length_append,List.length_cons,List.length_replicate,List.length_take,be8_len,HXN.out];omega
    obtain ⟨ys,J⟩:∃ys,ys=(xs++128::List.replicate (zN n) (0:Int))++(be8 (8*n)).take j:=⟨_,rfl⟩
    rw [<-J] at M G;have L:=lh G;have U:=lh J;have H:Hid (w.heap.size<=wr.heap.size):=HB.out.size;clear J G
    by_cases aD:j < 8
    ·obtain ⟨s,hs⟩:∃s:Nat,s=7 - j:=⟨_,rfl⟩
     have aA:(7 - (j:Int))=(s:Int):=by omega
     obtain ⟨s8,ai⟩:∃s8:Nat,s8=8*s:=⟨_,rfl⟩
     have aK:IntKind.i64.wrap (8*(s:Int))=(s8:Int):=by rw [IntWalk.i64_in _ om];omega
     have aJ:s8<=56:=by omega
     have aO:s<=7:=by omega
     have aw:=lh hs;have aL:=lh ai;rw [aA];have O:Hid ((ys.length+1)*1<=140737488355328):=by show _<=_;rw [L.out];omega
     have N:Hid (ys.length+1<=maxLen):=by show _<=_;rw [L.out];unfold maxLen;omega
     have HT:Hid ((be8 (8*n)).take j++[(n:Int)*8 / 2 ^ s8 % 256]=(be8 (8*n)).take (j+1)):=by
      show _=_;rw [be8_snoc _ aD,ai,hs,show 8*(7 - j)=56 - 8*j by omega]
      congr 2
      rw [Int.mul_comm];simp
     clear hs aA ai
     go_wp2_with (first
      |(at_builtin;(with_reducible refine ybw (o:=⟨some 33,_,_,_,_,_⟩) rfl (.tmp 26) (.tmp 32) 40 rfl 5 i0 (.int .u8 0) 1 underlying40 HI.out z.out aa.out Z.out rfl _ ys w.heap.size rfl M.out ((n:Int)*8 / 2 ^ s8 % 256) 1 rfl fB1 O.out N.out H.out ?_);intro v1 w1 K T af))
     go_roundw
     case rel=>
      refine ⟨j+1,by omega,?_,?_,?_⟩
      ·have:=aw.out;refine congrArg (Value.int .i64) ?_;omega
      ·have h:=K.out;rw [U.out,List.append_assoc,HT.out] at h;exact h
      ·exact HB.out.trans (ybm T.out (fun j hj=>(ol M.out j hj).1) H.out)
     case measure=>
      have:=aw.out;simp [intOf]
      try omega
    ·obtain rfl:j=8:=by omega
     go_wp2;go_ret;refine ⟨_,rfl,?_,HB⟩;have h:=M.out;rw [U.out,List.take_of_length_le (by rw [be8_len];exact Nat.le_refl _),List.append_assoc] at h;rw [HXN.out];exact h
  ·
   have ak:¬(l1:Int) % 64=56:=by have h0:zN n=(119 - n % 64) % 64:=rfl;omega
   have O:Hid ((ys.length+1)*1<=140737488355328):=by show _<=_;rw [L.out];omega
   have N:Hid (ys.length+1<=maxLen):=by show _<=_;rw [L.out];unfold maxLen;omega
   clear ac J G ay aC
   go_wp2_with (first
    |(at_builtin;(with_reducible refine ybw (o:=⟨some 17,_,_,_,_,_⟩) rfl (.tmp 15) (.tmp 16) 40 rfl 5 i0 (.int .u8 0) 1 underlying40 HI.out z.out aa.out Z.out rfl _ ys w.heap.size rfl M.out 0 1 rfl fB1 O.out N.out H.out ?_);intro v1 w1 K T af))
   go_roundw
   case rel=>
    refine ⟨k+1,by omega,?_,?_⟩
    ·have h:=K.out;rw [U.out,List.append_assoc,List.cons_append,<-List.replicate_succ'] at h;exact h
    ·exact HB.out.trans (ybm T.out (fun j hj=>(ol M.out j hj).1) H.out)
   case measure=>
    obtain ⟨A2,c2,aE,_⟩:=K.out.shape;have h1:=L.out;have h2:=aq.out;rw [aE];show n+zN n+1 - (ys++[0]).length < n+zN n+1 - l1;rw [List.length_append];simp only [List.length_cons,List.length_nil];omega
def hParts:Array (Nat × Operand):=(hTab.list.zipIdx.map fun (x,i)=>(i,Operand.const (U32 x))).toArray
theorem hBuilt (a:Act):prog.built 251 (hParts.map fun (i,x)=>(i,a.eval x)).toList=some (vArr hTab):=by kernel_rfl
theorem vArr_sz2 (v u:W8):(vArr v).size=(vArr u).size:=rfl
theorem own_gt {w:World} {g base:Nat} {e:TypeId} {v:Value} {xs:List Int} (h:Own fB e w base v xs) (hg:g < base):some g≠v.ownBlock:=fun hv=>by
 have:=(ol h g hv.symm).1;omega
theorem ycC {P:Program} {w:World} {α:Type} {f:α->Value} {ops:Array Oper} {o:Oper} {a:Act} {K:Act->World->Prop} {Q:Exit->Act->World->Prop} {E:Prop} (sl x:Operand) (t:TypeId)
 (T:o.op= .call {callee:= .builtin .append,args:=#[sl,x],argTypes:=#[t,t]}) (hgd:o.guard=none)
 (e:TypeId) (i:TypeInfo) (z:Value) (bytes:Nat) (ht:P.underlying t=some (.slice e)) (hi:P.info? e=some i) (hz:i.zero=some z)
 (hsize:i.size=1) (hby:i.bytes=bytes) (hzs:z.cells.size=1) (xs:List α) (base:Nat) (hown:Own f e w base (a.eval sl) xs)
 (ys:List α) (hr:∃B A m c,a.eval x= .slice A m c/\Sl f w B A m ys) (h1:∀y,(f y).oneCell'=true) (hbytes:(xs.length+ys.length)*bytes<=140737488355328) (hmax:xs.length+ys.length<=maxLen) (hbase:base<=w.heap.size)
 (h:∀H G,Hid (Own f e G base H (xs++ys))->Hid (w.grownBy G (a.eval sl).ownBlock)->Hid (H.ownBlock=(a.eval sl).ownBlock∨H.ownBlock=some w.heap.size)->Hid (∀J L,Below J L w->J<=base->Below J L G)->K (a.put o.dst H) G):
 if Region.wanted o (yielded ops a.tmps)=true then Oper.wp P o a w K Q else E:=by
 have O:Region.wanted o (yielded ops a.tmps)=true:=by simp [Region.wanted,hgd]
 rw [if_pos O];obtain ⟨B,A,m,c,Y,hr⟩:=hr;exact wp_app sl x t T e i z bytes ht hi hz hsize hby hzs _ xs base rfl hown A m c B ys Y hr h1 hbytes hmax hbase fun H G h2 N U=>h H G h2 N U fun J L W M=>hown.below W M (lT M hbase) N
theorem ybl {B:Nat} {a w:World} (h:Below B a w) (n:Nat):Below B a (w.drewN n):=⟨h.os,h.tape,h.output,h.size,h.block⟩
def RhP (g:Nat) (ps:List Int) (w1:World) (i:Value) (wr:World):Prop:=
 ∃p:Nat,p % 64=0/\p<=ps.length/\i= .int .i64 p/\Hid (wr.heap[g]? =some (.cells (vArr (hashN ps (p / 64))) 251 (0,0)))/\Hid (But (fun k=>k=g) w1 wr)
theorem ydA (A:Option Addr) (n c B:Nat) (xs:List Int) (w:World) (J:Sl fB w B A n xs) (hB:B<=w.heap.size) (hl:n<=549755813888) (aC:Byt xs):
 Calls prog 123 #[.slice A n c] w fun e w'=>e= .returned (.string (baOf (shaB xs)))/\Below w.heap.size w w':=by
 obtain ⟨i0,hi,ax,aD,aB⟩:=info_parts Tryz.infoB;have HI:=lh hi;have a9:=lh ax;have bb:=lh aD;have aV:=lh aB;have a8:=lh aC;have HXN:Hid (xs.length=n):=J.1;have aZ:Hid (Sl fB (w.alloc (.cells (vArr hTab) 251)) B A n xs):=J.up bl hB;have HC:=lh (rpad_any A n c B xs (w.alloc (.cells (vArr hTab) 251)) aZ.out (lT hB sI) hl);clear hi ax aD aB J aC;go_enter func123,ntmps123
 go_upto_region 4 with (first
  |(with_reducible refine ybq (o:=⟨some 8,_,_,_,_,_⟩) rfl 251 hParts ybi (vArr hTab) (hBuilt _) ?_)
  |(with_reducible refine ybr (o:=⟨none,_,_,_,_,_⟩) rfl 251 (.tmp 3) (.tmp 8) rfl 251 _ (vArr hTab) rfl rfl (ycp _) rfl (yeh _) ?_)
  |(go_at_call 181;(refine HC.out.mono ?_);rintro e w1 ⟨vp,rfl,hp⟩
    have HP:=lh hp
    clear hp))
 obtain ⟨ps,L⟩:∃ps,ps=xs++padB xs.length:=⟨_,rfl⟩
 have aG:ps.length % 64=0:=by rw [L,List.length_append];exact padB_64 _
 have ae:0 < ps.length:=by rw [L,List.length_append,padB_len];omega
 have ay:ps.length<=549755813888+72:=by rw [L,List.length_append,padB_len,HXN.out];have:=zN_lt n;omega
 have a3:Hid (Byt ps):=by rw [L];exact a8.out.app (padB_byt _)
 rw [<-L] at HP;have a0:=lh L;have K:=HP.out.1;have ar:=HP.out.2;have be:Hid (w1.heap[w.heap.size]? =some (.cells (vArr hTab) 251 (0,0))):=(ar.out.block _ sI).trans (zy w _);have aA:Hid (Below w.heap.size w w1):=bl.trans (ar.out.mono sI);obtain ⟨A1,c1,ai,aH,a4,_⟩:=K.out.shape;obtain ⟨b,H,a1,aF,aw⟩:=a4 ae;subst a1
 have aW:Hid (b≠w.heap.size):=by
  intro e;have h0:=K.out;rw [ai] at h0;have:=(ol h0 b rfl).1;simp at this;omega
 obtain ⟨O,Z⟩:∃n,n=ps.length:=⟨_,rfl⟩
 rw [<-Z] at aG ae ay ai aH;subst ai;have aU:=lh aw;have HB1:=lh aF;have ac:=lh Z;clear L Z aw aF HP
 go_loopw [5] (fun i wr=>RhP w.heap.size ps w1 i wr) (fun i _=>O - (intOf i).toNat)
 case atStart=>exact ⟨0,rfl,by omega,rfl,be,But.refl _ _⟩
 case round=>
  obtain ⟨p,Y,az,rfl,G,U⟩:=hrel;rw [<-ac.out] at az;have HBr:Hid (Below w.heap.size w wr):=aA.out.trans (U.out.below aA.out.size (fun i hi=>by omega))
  by_cases hlt:p < O
  ·
   obtain ⟨q,hq⟩:∃q,q=p+64:=⟨_,rfl⟩
   have bp:IntKind.i64.wrap ((p:Int)+64)=(q:Int):=by rw [IntWalk.i64_in _ om];omega
   have bu:q<=O:=by omega
   have bh:(p:Int) < (O:Int):=by omega
   obtain ⟨iB,a5,_,aN,_⟩:=info_parts Tryz.infoB
   have bo:∀W,(Instr.slice 40 (.slice (some ⟨b,H,none⟩) O c1) (some (.int .i64 (p:Int))) (some (.int .i64 (q:Int))) none).run prog W= .ok (.slice (some ⟨b,H+p,none⟩) 64 (c1 - p)) W:=fun W=>by
    rw [run_slice_two (P:=prog) 40 5 iB underlying40 a5 aN (some ⟨b,H,none⟩) O c1 .i64 .i64 (p:Int) (q:Int) p q rfl rfl om om W,if_neg om,show q - p=64 by omega,Option.map_some,show (⟨b,H,none⟩:Addr).add p=⟨b,H+p,none⟩ by unfold Addr.add;split<;>simp_all]
   obtain ⟨V,T⟩:∃V,V=hashN ps (p / 64):=⟨_,rfl⟩
   rw [<-T] at G;have aO:Hid (W8ok V):=by rw [T];exact yeg _ _
   have HN:Hid (blk V ((ps.drop p).take 64)=hashN ps ((p+64) / 64)):=by
    show _=_;rw [show (p+64) / 64=p / 64+1 by omega,T];show _=blk _ _;rw [show 64*(p / 64)=p by omega]
   have a7:Hid (Sl fB wr wr.heap.size (some ⟨b,H+p,none⟩) 64 ((ps.drop p).take 64)):=by
    refine ⟨by rw [List.length_take,List.length_drop,<-ac.out];omega,fun _=>⟨b,H+p,rfl,Nat.lt_of_lt_of_le HB1.out U.out.size,fun k x J=>?_⟩⟩;have hk:=List.getElem?_eq_some_iff.1 J;have aS:k < 64:=by have:=hk.1;rw [List.length_take] at this;omega
    have aL:ps[p+k]? =some x:=by rw [List.getElem?_take_of_lt aS,List.getElem?_drop] at J;exact J
    have:=aU.out (p+k) x aL;rw [Nat.add_assoc];exact (cB (w:=w1) (U.out.block b HB1.out aW.out)).trans this
   have aX:Hid (Calls prog 182 #[.agg (vArr V),.slice (some ⟨b,H+p,none⟩) 64 (c1 - p)] wr.drew fun e w'=>e= .returned (.agg (vArr (blk V ((ps.drop p).take 64))))/\Below wr.heap.size wr w'):=
    (rblock_any V (some ⟨b,H+p,none⟩) (c1 - p) wr.heap.size ((ps.drop p).take 64) wr.drew aO.out a7.out nl ((a3.out.drop p).take 64)).mono (fun e w' h=>⟨h.1,⟨h.2.os,h.2.tape,h.2.output,h.2.size,h.2.block⟩⟩)
   have HQ:=lh hq;have aI:=lh Y;have aT:=lh hlt;clear T hq;obtain ⟨va,vb,vc,vd,ve,vf,vg,vh⟩:=V;have v0:=ybD G.out (i:=0) rfl;have v1:=ybD G.out (i:=1) rfl;have v2:=ybD G.out (i:=2) rfl;have v3:=ybD G.out (i:=3) rfl;have v4:=ybD G.out (i:=4) rfl;have v5:=ybD G.out (i:=5) rfl;have v6:=ybD G.out (i:=6) rfl;have v7:=ybD G.out (i:=7) rfl;go_upto_region 6 with fail
   go_still_tail 6,ybi
   repeat still_step
   try refine wpStill_nil ?_
   change wpList _ _ _ _ _ wr.drew
   go_upto_region 5 with (first
    |(go_at_call 182;(refine aX.out.mono ?_);rintro e w6 ⟨rfl,am⟩
      have HB6:=lh am;have aK:Hid (w6.heap[w.heap.size]? =some (.cells (vArr ⟨va,vb,vc,vd,ve,vf,vg,vh⟩) 251 (0,0))):=(am.block _ (lb G.out)).trans G.out
      clear am)
    |((with_reducible refine ybk (o:=⟨none,_,_,_,_,_⟩) rfl 251 (.tmp 3) (.tmp 23) rfl w.heap.size 251 _ _ rfl rfl aK.out (ycp _) (vArr_sz2 _ _) (yeh _) ?_);intro W7 HG7 HB7))
   go_wp
   try go_simp
   refine ⟨?rel,?measure⟩
   case rel=>
    have Y:=aI.out;have hq:=HQ.out;refine ⟨p+64,by omega,by rw [<-ac.out];omega,by rw [<-hq],?_,(U.out.trans (But.of_below (p:=fun k=>k=w.heap.size) HB6.out) (fun i hi=> .inl hi)).trans HB7.out (fun i hi=> .inl hi)⟩;show _=_;rw [<-HN.out];exact HG7.out
   case measure=>
    have hq:=HQ.out;have hlt:=aT.out;show O - (q:Int).toNat < O - (p:Int).toNat;omega
  ·
   obtain rfl:p=O:=by omega
   clear aG ae ay az Y hlt aH;obtain ⟨V,T⟩:∃V,V=hashN ps (p / 64):=⟨_,rfl⟩
   rw [<-T] at G;have HV:Hid (V=hashN ps (ps.length / 64)):=by show _=_;rw [T,ac.out]
   clear T;have au:Hid (Own fB 5 (wr.alloc (.cells #[] 5)) wr.heap.size (.slice (some ⟨wr.heap.size,0,none⟩) 0 0) []):=World.ownsRow_lit wr #[] 0 nl ybd rfl;have aq:Hid (Below wr.heap.size wr (wr.alloc (.cells #[] 5))):=bl;go_upto_region 9 with fail
   obtain ⟨M,aa⟩:∃M,M=wr:=⟨_,rfl⟩
   rw [<-aa] at au aq;rw [<-aa] at G HBr;rw [<-aa];have ao:Hid (w.heap.size < M.heap.size):=lb G.out;clear aa U
   go_loopw [6,7] (fun v i wr=>∃j:Nat,j<=8/\i= .int .i64 j/\Hid (Own fB 5 wr M.heap.size v (wB (V.list.take j)))/\Hid (Below M.heap.size M wr)) (fun _ i _=>8 - (intOf i).toNat)
   case atStart=>exact ⟨0,by omega,rfl,au,aq⟩
   case round=>
    obtain ⟨j,hj,rfl,K,HB⟩:=hrel;obtain ⟨A5,c5,al,a6,aj,_⟩:=K.out.shape;obtain ⟨N,z⟩:∃N,N=wB (V.list.take j):=⟨_,rfl⟩
    rw [<-z] at K al aj;have ag:N.length=4*j:=by rw [z,wB_len,List.length_take];show 4*min j 8=_;omega
    rw [ag] at al;subst al;have aE:=lh z;have ah:=lh ag;have HS5:=lh aj;have ap:Hid (wr.heap[w.heap.size]? =some (.cells (vArr V) 251 (0,0))):=(HB.out.block _ ao.out).trans G.out;clear z ag aj a6
    by_cases aM:j < 8
    ·obtain ⟨x,J⟩:=ybQ (xs:=V.list) (k:=j) aM;have af:=ybD ap.out J;have bj:(j:Int) < 8:=by omega
     have bm:Hid (Sl fB (wr.alloc (.cells #[.int .u8 (x / 16777216 % 256),.int .u8 (x / 65536 % 256),.int .u8 (x / 256 % 256),.int .u8 (x % 256)] 5)).drew (wr.heap.size+1) (some ⟨wr.heap.size,0,none⟩) 4 (w4 x)):=⟨rfl,SL.of_block (t:=5) (fr:=(0,0)) (zy wr _) (Nat.lt_succ_self _)⟩
     have aJ:Hid (wB (V.list.take (j+1))=N++w4 x):=by
      show _=_;rw [yby J,aE.out];unfold wB;rw [List.flatMap_append];simp
     have aY:Hid ((N.length+(w4 x).length)*1<=140737488355328):=by show _<=_;rw [ah.out];show (4*j+4)*1<=_;omega
     have a2:Hid (N.length+(w4 x).length<=maxLen):=by show _<=_;rw [ah.out];show 4*j+4<=_;unfold maxLen;omega
     have bk:Hid (M.heap.size<=(wr.alloc (.cells #[.int .u8 (x / 16777216 % 256),.int .u8 (x / 65536 % 256),.int .u8 (x / 256 % 256),.int .u8 (x % 256)] 5)).drew.heap.size):=lT HB.out.size sI;have br:Hid (Own fB 5 (wr.alloc (.cells #[.int .u8 (x / 16777216 % 256),.int .u8 (x / 65536 % 256),.int .u8 (x / 256 % 256),.int .u8 (x % 256)] 5)).drew M.heap.size (.slice A5 (4*j) c5) N):=(K.out.alloc _).drewN 1;clear J;have bi:=World.new_ne wr ⟨w.heap.size,j,none⟩ af;have bf:Hid (w.heap.size < M.heap.size):=ao;go_upto_region 11 with fail
     go_region_held3 (fun w'=>w'.cell? ⟨w.heap.size,j,none⟩=some (U32 x)) ((first |go_keep |exact aP.out)) (first |(refine ycC (.tmp 29) (.tmp 49) 40 rfl rfl 5 i0 (.int .u8 0) 1 underlying40 HI.out a9.out bb.out aV.out rfl N M.heap.size ?_ (w4 x) ?_ fB1 aY.out a2.out ?_ ?_;(first |exact K.out.alloc _ |exact (K.out.alloc _).drewN _ |exact (K.out.drewN _).alloc _);(exact ⟨_,_,4,4,rfl,⟨rfl,SL.of_block (t:=5) (fr:=(0,0)) (zy _ _) (Nat.lt_succ_self _)⟩⟩);(exact lT HB.out.size sI);(intro v1 aR aQ ak bv bg;(have aP:Hid (aR.cell? ⟨w.heap.size,j,none⟩=some (U32 x)):=(cB (ak.out.block w.heap.size (Nat.lt_of_lt_of_le (lb ap.out) sI) (own_gt K.out ao.out))).trans (by first |exact (Below.cell (Below.alloc bR nl _) (lb ap.out)).trans af |exact af)))) |fail)
     go_wp2;go_roundw
     case rel=>
      refine ⟨j+1,by omega,by go_num,?_,?_⟩
      ·show Own ..
       rw [aJ.out];exact aQ.out
      ·exact (ybl (HB.out.alloc HB.out.size _) _).trans (ybm ak.out (fun j hj=>(ol K.out j hj).1) (lT HB.out.size sI))
     case measure=>simp [intOf];omega
    ·obtain rfl:j=8:=by omega
     have bq:=yb1 (P:=prog) 40 5 9 underlying40 underlying5 underlying9 wr wr.heap.size A5 (4*8) c5 N ⟨ah.out,HS5.out⟩;go_wp2;go_ret;refine ⟨?_,bt HBr.out HB.out⟩
     have he:shaB xs=N:=by
      rw [aE.out];unfold shaB;rw [<-List.length_append,<-a0.out,<-HV.out];rfl
     rw [he];rfl
abbrev fT:ByteArray->Value:=Value.string
theorem fT1:∀y,(fT y).oneCell'=true:=fun _=>rfl
theorem Tryz.infoS:(prog.info? 9).map (fun i=>(i.zero,i.size,i.bytes))=some (some (.string ⟨#[]⟩),1,16):=by kernel_rfl
def Glob (w:World):Prop:=KTab w/\(∀(i:Nat) (x:Int),hTab.list[i]? =some x->w.cell? ⟨0,i,none⟩=some (U32 x))/\1 < w.heap.size
theorem Glob.up {w J:World} {B:Nat} (h:Glob w) (H:Below B w J) (K:1 < B):Glob J:=
 ⟨fun i x G=>(H.cell (p:=⟨1,i,none⟩) K).trans (h.1 i x G),fun i x G=>(H.cell (p:=⟨0,i,none⟩) (Nat.lt_trans Nat.zero_lt_one K)).trans (h.2.1 i x G),Nat.lt_of_lt_of_le h.2.2 H.size⟩
theorem Glob.on {w w':World} (h:Glob w) (hb:Below w.heap.size w w'):Glob w':=h.up hb h.2.2
def zeros64:List Int:=List.replicate 64 0
def newSt:Obj:= .cells (ycI hTab zeros64 0) 302
theorem newSt_St (w:World):St (w.alloc newSt) w.heap.size []:=⟨zeros64,rfl,fun x hx=>by rw [(List.mem_replicate.1 hx).2];omega,(fun x hx=>by cases hx),heap_alloc_new w _,rfl⟩
theorem newEq:ycI hTab zeros64 0=((((((((Tryz.zeroCells302.setIfInBounds 0 (U32 hTab.a)).setIfInBounds 1 (U32 hTab.b)).setIfInBounds 2 (U32 hTab.c)).setIfInBounds 3 (U32 hTab.d)).setIfInBounds 4 (U32 hTab.e)).setIfInBounds 5 (U32 hTab.f)).setIfInBounds 6 (U32 hTab.g)).setIfInBounds 7 (U32 hTab.h)):=by kernel_rfl
theorem stNew_any (w:World) (h:Glob w):Calls prog 198 #[] w fun e G=>e= .returned (.pointer (some ⟨w.heap.size,0,none⟩))/\w.alloc newSt=G:=by
 have c0:=h.2.1 0 _ rfl;have c1:=h.2.1 1 _ rfl;have c2:=h.2.1 2 _ rfl;have c3:=h.2.1 3 _ rfl;have c4:=h.2.1 4 _ rfl;have J:=h.2.1 5 _ rfl;have H:=h.2.1 6 _ rfl;have K:=h.2.1 7 _ rfl;clear h;go_enter func198,ntmps198;go_wp2;go_ret;exact ⟨rfl,congrArg (fun c=>w.alloc (.cells c 302)) newEq⟩
theorem ydB (A:Option Addr) (n c B:Nat) (xs:List Int) (w:World) (G:Glob w) (L:Sl fB w B A n xs) (hc:n<=c) (hB:B<=w.heap.size) (hl:n<=549755813887) (M:Byt xs) (Z:∀a,A=some a->a.block < w.heap.size):
 Calls prog 151 #[.slice A n c] w fun e K=>e= .returned (.string (baOf (shaB (0::xs))))/\Below w.heap.size w K:=by
 have ac:=lh (stNew_any w G);have af:=lh G;have HX:=lh L;have ag:=lh M;have HA:=lh Z
 have H1:Hid (Calls prog 199 #[.pointer (some ⟨w.heap.size,0,none⟩),.slice (some ⟨w.heap.size+1,0,none⟩) 1 1] ((w.alloc newSt).alloc (.cells #[.int .u8 0] 5)) fun e K=>e= .returned (.tuple #[])/\St K w.heap.size [0]/\But (fun k=>k=w.heap.size) ((w.alloc newSt).alloc (.cells #[.int .u8 0] 5)) K):=by
  have H:Below w.heap.size w ((w.alloc newSt).alloc (.cells #[.int .u8 0] 5)):=bl.alloc sI _;have hs:Sl fB ((w.alloc newSt).alloc (.cells #[.int .u8 0] 5)) (w.heap.size+2) (some ⟨w.heap.size+1,0,none⟩) 1 [0]:=⟨rfl,SL.of_block (t:=5) (fr:=(0,0)) (heap_alloc2_new w _ _) om⟩;exact ycV w.heap.size [] [0] _ 1 1 (w.heap.size+2) _ ((newSt_St w).but ((But.refl (fun _=>False) _).alloc _) (fun h=>h)) hs nl sI (fun x L=>by rw [List.mem_singleton.1 L];omega) (fun a ha=>by injection ha with ha;subst ha;exact Nat.succ_ne_self _) sI (G.on H).1 (G.on H).2.2 (Nat.ne_of_gt G.2.2)
 have H2:Hid (∀w1,St w1 w.heap.size [0]->Below w.heap.size w w1->Calls prog 199 #[.pointer (some ⟨w.heap.size,0,none⟩),.slice A n c] w1 fun e K=>e= .returned (.tuple #[])/\St K w.heap.size (0::xs)/\But (fun k=>k=w.heap.size) w1 K):=fun w1 h1 H=>
  ycV w.heap.size [0] xs A n c B w1 h1 (L.up H hB) hc (lT hB H.size) M (fun a ha=>Nat.ne_of_lt (Z a ha)) (by rw [L.1];simp;omega) (G.on H).1 (G.on H).2.2 (Nat.ne_of_gt G.2.2)
 have H3:Hid (∀J,St J w.heap.size (0::xs)->Below w.heap.size w J->Calls prog 200 #[.pointer (some ⟨w.heap.size,0,none⟩)] J fun e K=>e= .returned (.string (baOf (shaB (0::xs))))/\Below J.heap.size J K):=fun J h2 H=>
  sum_any w.heap.size (0::xs) J h2 (by rw [List.length_cons,L.1];omega) (G.on H).1 (G.on H).2.2
 clear G L M Z;go_enter func151,ntmps151
 go_wp2_with (first
  |(go_at_call 198;(with_reducible refine ac.out.mono ?_);rintro e w0 ⟨rfl,ae⟩;subst ae)
  |(go_at_call 199;(with_reducible refine H1.out.mono ?_);rintro e w1 ⟨rfl,N,W⟩
    have HS1:=lh N;have HB1:Hid (Below w.heap.size w w1):=((bR.alloc nl newSt).alloc sI (.cells #[.int .u8 0] 5)).trans (W.below ybh (fun i hi=>Nat.le_of_eq hi.symm))
    clear N W)
  |(go_at_call 199;(with_reducible refine (H2.out w1 HS1.out HB1.out).mono ?_);rintro e J ⟨rfl,O,U⟩
    have aa:=lh O;have T:Hid (Below w.heap.size w J):=HB1.out.trans (U.below HB1.out.size (fun i hi=>Nat.le_of_eq hi.symm))
    clear O U)
  |(go_at_call 200;(with_reducible refine (H3.out J aa.out T.out).mono ?_);rintro e w3 ⟨rfl,Y⟩
    have z:=lh Y
    clear Y))
 go_ret;exact ⟨rfl,bt T.out z.out⟩
theorem ydC (A:Option Addr) (n c B:Nat) (xs:List Int) (w:World) (G:Sl fB w B A n xs) (hB:B<=w.heap.size) (hl:n<=549755813887) (T:Byt xs):
 Calls prog 157 #[.slice A n c] w fun e w'=>e= .returned (.string (baOf (shaB (0::xs))))/\Below w.heap.size w w':=by
 obtain ⟨i0,hi,L,M,N⟩:=info_parts Tryz.infoB;have HI:=lh hi;have ah:=lh L;have ai:=lh M;have aa:=lh N;have U:Hid (Own fB 5 (w.alloc (.cells #[.int .u8 0] 5)) w.heap.size (.slice (some ⟨w.heap.size,0,none⟩) 1 1) [0]):=World.ownsRow_lit w #[.int .u8 0] 1 nl ybd rfl;have J:Hid (Below w.heap.size w (w.alloc (.cells #[.int .u8 0] 5))):=bl;have z:Hid (Sl fB (w.alloc (.cells #[.int .u8 0] 5)) B A n xs):=G.up J.out hB;have HXN:Hid (xs.length=n):=G.1;have af:Hid ((([0]:List Int).length+xs.length)*1<=140737488355328):=by show _<=_;rw [G.1];simp;omega
 have Z:Hid (([0]:List Int).length+xs.length<=maxLen):=by show _<=_;rw [G.1];unfold maxLen;simp;omega
 have Y:Hid (w.heap.size<=(w.alloc (.cells #[.int .u8 0] 5)).heap.size):=by show _<=_;simp
 have ag:=lh T;clear hi L M N G T;go_enter func157,ntmps157
 go_wp2_with (first
  |(at_builtin;(with_reducible refine ybE (o:=⟨some 5,_,_,_,_,_⟩) rfl (.tmp 3) (.tmp 4) 40 rfl 5 i0 (.int .u8 0) 1 underlying40 HI.out ah.out ai.out aa.out rfl _ [0] w.heap.size rfl U.out _ _ _ B xs rfl z.out fB1 af.out Z.out Y.out ?_);intro v1 w1 ac aj al
    have HB1:Hid (Below w.heap.size w w1):=J.out.trans (ybm aj.out (fun j hj=>(ol U.out j hj).1) Y.out);obtain ⟨A1,c1,K,ak,O,_⟩:=ac.out.shape;have H:([0]++xs:List Int).length=n+1:=by rw [List.length_append,HXN.out];exact Nat.add_comm ..
    rw [H] at K;subst K;have HC:=lh (ydA A1 (n+1) c1 w1.heap.size ([0]++xs) w1 ⟨H,O⟩ nl om (Byt.app (fun x G=>by rw [List.mem_singleton.1 G];omega) ag.out))
    clear O H ak)
  |(go_at_call 123;(refine HC.out.mono ?_);rintro e w2 ⟨rfl,W⟩
    have ae:=lh W
    clear W))
 go_ret;exact ⟨rfl,bt HB1.out ae.out⟩
theorem Pid.laid:laidOutB prog=true:=by kernel_rfl
theorem Pid.law:Maps.Keyed prog 31:=Maps.Keyed.of_law (deep_law_laid Pid.laid (m:=2) om (of_decide_eq_true ybi) ybi ybi)
theorem Pid.size:prog.types.size=prog.types.size - 2+1+1:=by
 have h:2<=prog.types.size:=of_decide_eq_true ybi;omega
theorem Pid.keyT:prog.keyType 31=true:=by kernel_rfl
theorem Pid.cells:prog.cellsOf 31=2:=by kernel_rfl
theorem Pid.icells:prog.cellsOf 3=1:=by kernel_rfl
theorem Pid.scells:prog.cellsOf 9=1:=by kernel_rfl
def pP (s:ByteArray) (y:Int):Value:= .agg #[.string s,.int .i64 y]
noncomputable def kP (s:ByteArray) (y:Int):Lit:= .string (keyBytes [.string s.data.toList,.int .i64 y])
def int64 (x:Int):Prop:= -9223372036854775808<=x/\x<=9223372036854775807
theorem int64.wf {x:Int} (h:int64 x):(Lit.int .i64 x).wf=true:=WalkArith.wf_i64 h
def okP (s:ByteArray) (y:Int):Prop:=s.size<=maxLen/\int64 y
theorem kP_of {s:ByteArray} {y:Int} (h:okP s y):keyOf prog 31 (pP s y)=some (kP s y):=by
 have G:=h.2.wf;have hs:=h.1;have hf:(pP s y).formed prog 31=true:=by simp [pP,Value.formed,underlying31,Pid.cells]
 unfold keyOf;simp only [underlying31];rw [if_pos (by simp [Pid.keyT,hf]),Pid.size];unfold Program.keyLits;simp only [underlying31,Value.cells,pP];rw [if_pos (by simp [Pid.cells])];unfold Program.keyLits;simp [underlying3,underlying9,Pid.icells,Pid.scells,G,hs,kP]
theorem kP_inj {x x':ByteArray} {y y':Int} (h:okP x y) (h':okP x' y') (e:kP x y=kP x' y'):x=x'/\y=y':=by
 have h1:=Pid.law.inj (kP_of h) (e▸kP_of h');simp [pP] at h1;exact h1
theorem kP_key {x:ByteArray} {y:Int} (h:okP x y):WideAt.IsKeyLit (kP x y):=Pid.law.key (kP_of h)
theorem Pid.zero (w:World):(zeroValue 4).run prog w= .ok (.bool false) w:=by kernel_rfl
open Classical in
noncomputable def pinB (L:List (ByteArray × Int)) (p:ByteArray × Int):Bool:=decide (p∈L)
theorem yei {L:List (ByteArray × Int)} {p:ByteArray × Int} (h:p∈L):pinB L p=true:=by unfold pinB;simp [h]
theorem pinB_no {L:List (ByteArray × Int)} {p:ByteArray × Int} (h:p∉L):pinB L p=false:=by unfold pinB;simp [h]
def MapP (w:World) (b n:Nat) (L:List (ByteArray × Int)):Prop:=
 ∃D:DataW Unit,w.ownsMap prog 31 (plainElem prog 4) b n D/\∀x y,okP x y->D.atKey (kP x y) (.lit (.bool false))= .lit (.bool (pinB L (x,y)))
theorem MapP.made (w:World):MapP (w.alloc (.map #[] 0)) w.heap.size 0 []:=⟨_,World.ownsMap_made w prog _ _,fun x y _=>by rw [pinB_no sI];simp [DataW.atKey]⟩
section
variable {w w':World} {b n:Nat} {L:List (ByteArray × Int)}
theorem MapP.kept {row:Option Nat} (h:MapP w b n L) (hg:w.grownBy w' row) (hne:some b≠row):MapP w' b n L:=by
 obtain ⟨D,h1,h2⟩:=h;exact ⟨D,h1.kept hg hne,h2⟩
theorem MapP.block (h:MapP w b n L) (hb:w'.heap[b]? =w.heap[b]?):MapP w' b n L:=by
 obtain ⟨D,⟨es,ck,h1,h2⟩,h3⟩:=h;exact ⟨D,⟨es,ck,hb.trans h1,h2⟩,h3⟩
theorem MapP.lt (h:MapP w b n L):b < w.heap.size:=by
 obtain ⟨D,h1,_⟩:=h;exact h1.lt
theorem elem_bool_inv {H:Type} {P:Program} {e:TypeId} (G:P.underlying e=some .bool) {v:Value} {r:DataW H × List MemPlace} (h:plainElem P e v=some r):∃x,v= .bool x/\r=(.lit (.bool x),[]):=by
 unfold plainElem at h;rw [G] at h;cases v<;>simp at h
 exact ⟨_,rfl,h.symm⟩
theorem look_gen {P:Program} {H J N:TypeId} {D:DataW Unit} (h1:w.ownsMap P H (plainElem P J) b n D) (law:Maps.Keyed P H) (ht:P.underlying N=some (.map H J)) (M:P.underlying J=some .bool)
 (U:(zeroValue J).run P w= .ok (.bool false) w) {K:Value} {l:Lit} (O:keyOf P H K=some l) {x:Bool} (h2:D.atKey l (.lit (.bool false))= .lit (.bool x)):(Instr.lookup N (.map (some b)) K false).run P w= .ok (.bool x) w:=by
 obtain ⟨v,ps,L,T⟩:=h1.lookup law ht U (plainElem_bool M false) O;obtain ⟨c,rfl,G⟩:=elem_bool_inv M T;rw [h2] at G;injection G with G _;injection G with G;injection G with G;rw [L,<-G]
theorem MapP.look (h:MapP w b n L) (x:ByteArray) (y:Int) (G:okP x y):(Instr.lookup 150 (.map (some b)) (pP x y) false).run prog w= .ok (.bool (pinB L (x,y))) w:=by
 obtain ⟨D,h1,h2⟩:=h;exact look_gen h1 Pid.law underlying150 underlying4 (Pid.zero w) (kP_of G) (h2 x y G)
theorem MapP.store (h:MapP w b n L) (hn:n < maxLen) (x:ByteArray) (y:Int) (M:okP x y):
 ∃G,(Instr.mapUpdate 150 (.map (some b)) (pP x y) (.bool true)).run prog w= .ok () G/\MapP G b (n+1) (L++[(x,y)])/\w.grownBy G (some b):=by
 obtain ⟨D,h1,h2⟩:=h;obtain ⟨G,r1,r2,r3⟩:=h1.update Pid.law underlying150 hn (kP_of M) (plainElem_bool underlying4 true);refine ⟨G,r1,⟨_,r2,fun u v K=>?_⟩,r3⟩;show _=DataW.lit (.bool (pinB (L++[(x,y)]) (u,v)))
 by_cases J:u=x/\v=y
 ·obtain ⟨rfl,rfl⟩:=J;rw [yei (show (u,v)∈L++[(u,v)] by simp)];exact Maps.atKey_put_same h1.isMap (kP_key K) _ _
 ·rw [show pinB (L++[(x,y)]) (u,v)=pinB L (u,v) by
   by_cases H:(u,v)∈L
   ·rw [yei H,yei (by simp [H])]
   ·rw [pinB_no H,pinB_no (by simp [H,J])],Maps.atKey_put_other (fun e=>J (kP_inj K M e))]
  exact h2 u v K
end
abbrev RV (v:Value):Option (DataW Value × List MemPlace):=some (.held v,[])
open Classical in
noncomputable def putM (m:Lit->Value) (l:Lit) (v:Value):Lit->Value:=fun x=>if x=l then v else m x
theorem ydD (m:Lit->Value) (l:Lit) (v:Value):putM m l v l=v:=by unfold putM;simp
theorem yda {m:Lit->Value} {l x:Lit} {v:Value} (h:x≠l):putM m l v x=m x:=by unfold putM;simp [h]
def MapV (w:World) (kt:TypeId) (b n:Nat) (z:Value) (m:Lit->Value):Prop:=
 ∃D:DataW Value,w.ownsMap prog kt RV b n D/\∀l,WideAt.IsKeyLit l->D.atKey l (.held z)= .held (m l)
theorem MapV.made (w:World) (kt:TypeId) (z:Value):MapV (w.alloc (.map #[] 0)) kt w.heap.size 0 z (fun _=>z):=⟨_,World.ownsMap_made w prog _ _,fun _ _=>by simp [DataW.atKey]⟩
section
variable {w w':World} {kt et mt:TypeId} {b n:Nat} {z:Value} {m:Lit->Value}
theorem MapV.kept {row:Option Nat} (h:MapV w kt b n z m) (hg:w.grownBy w' row) (hne:some b≠row):MapV w' kt b n z m:=by
 obtain ⟨D,h1,h2⟩:=h;exact ⟨D,h1.kept hg hne,h2⟩
theorem MapV.block (h:MapV w kt b n z m) (hb:w'.heap[b]? =w.heap[b]?):MapV w' kt b n z m:=by
 obtain ⟨D,⟨es,ck,h1,h2⟩,h3⟩:=h;exact ⟨D,⟨es,ck,hb.trans h1,h2⟩,h3⟩
theorem MapV.lt (h:MapV w kt b n z m):b < w.heap.size:=by
 obtain ⟨D,h1,_⟩:=h;exact h1.lt
theorem MapV.mono {n':Nat} (h:MapV w kt b n z m) (hn:n<=n'):MapV w kt b n' z m:=by
 obtain ⟨D,h1,h2⟩:=h;exact ⟨D,h1.mono hn,h2⟩
theorem MapV.look (h:MapV w kt b n z m) (K:Maps.Keyed prog kt) (ht:prog.underlying mt=some (.map kt et)) (N:(zeroValue et).run prog w= .ok z w) {key:Value} {l:Lit} (H:keyOf prog kt key=some l):
 (Instr.lookup mt (.map (some b)) key false).run prog w= .ok (m l) w:=by
 obtain ⟨D,h1,h2⟩:=h;obtain ⟨v,ps,G,L⟩:=h1.lookup K ht N (show RV z=some (.held z,[]) from rfl) H;have J:DataW.held v=D.atKey l (.held z):=congrArg Prod.fst (Option.some.inj L);have M:DataW.held v=DataW.held (m l):=J.trans (h2 l (K.key H));rw [G,DataW.held.inj M]
theorem MapV.put_of {D:DataW Value} (h1:w.ownsMap prog kt RV b n D) (h2:∀l,WideAt.IsKeyLit l->D.atKey l (.held z)= .held (m l)) {w1:World} {l:Lit} (hl:WideAt.IsKeyLit l) (v:Value) (J:w1.ownsMap prog kt RV b (n+1) (D.put l (.held v))):MapV w1 kt b (n+1) z (putM m l v):=by
 refine ⟨_,J,fun x H=>?_⟩
 by_cases G:x=l
 ·rw [G,ydD];exact Maps.atKey_put_same h1.isMap hl _ _
 ·rw [yda G,Maps.atKey_put_other G];exact h2 x H
theorem MapV.store (h:MapV w kt b n z m) (K:Maps.Keyed prog kt) (ht:prog.underlying mt=some (.map kt et)) (hn:n < maxLen) {key:Value} {l:Lit} (H:keyOf prog kt key=some l) (v:Value):
 ∃G,(Instr.mapUpdate mt (.map (some b)) key v).run prog w= .ok () G/\MapV G kt b (n+1) z (putM m l v)/\w.grownBy G (some b):=by
 obtain ⟨D,h1,h2⟩:=h;obtain ⟨G,r1,r2,r3⟩:=h1.update K ht hn H (show RV v=some (.held v,[]) from rfl);exact ⟨G,r1,MapV.put_of h1 h2 (K.key H) v r2,r3⟩
theorem MapV.entry (h:MapV w kt b n z m) (K:WideMaps.KeyLaw prog kt) (ht:prog.underlying mt=some (.map kt et)) (hz:∀u:World,(zeroValue et).run prog u= .ok z u) (hn:n < maxLen) {key:Value} {l:Lit} (L:keyOf prog kt key=some l):
 ∃(st:Nat) (H:Array MapEntry) (J:Nat),(Instr.mapEntry mt (.map (some b)) key).run prog w= .ok (.tuple #[m l,goInt st]) (ChangeMaps.setBlock w b (.map H J))/\
  ∀(M:World) (v:Value),M.heap[b]? =some (.map H J)->∃w',(Instr.entryStore mt (.map (some b)) (goInt st) v).run prog M= .ok () w'/\MapV w' kt b (n+1) z (putM m l v)/\M.grownBy w' (some b):=by
 obtain ⟨D,h1,h2⟩:=h;have h0:=h1;obtain ⟨es,ck,hb,F,hs,rfl⟩:=h0;obtain ⟨v0,st,H,J,hE,hc,hS⟩:=WideElems.entry_then_store K ht hz hb F L
 have ac:v0=m l:=by
  have G:=h2 l ((Maps.Keyed.of_law K).key L);rcases hc with ⟨e1,aa,Z,rfl⟩ |⟨Y,rfl⟩
  ·rw [WideElems.atKey_some K F L aa Z (show RV e1.val=some (.held e1.val,[]) from rfl)] at G;exact DataW.held.inj G
  ·rw [WideElems.atKey_none K F L Y] at G;exact DataW.held.inj G
 subst ac;refine ⟨st,H,J,hE,fun M v N=>?_⟩;obtain ⟨T,U,r1,r2⟩:=hS M v N;obtain ⟨w3,O,q2,_⟩:=h1.update (Maps.Keyed.of_law K) ht hn L (show RV v=some (.held v,[]) from rfl);rw [r2] at O;injection O with _ O;subst O
 have W:(ChangeMaps.setBlock M b (.map T U)).heap[b]? =(ChangeMaps.setBlock w b (.map T U)).heap[b]? :=by
  rw [ChangeMaps.heap_setBlock_same N,ChangeMaps.heap_setBlock_same hb]
 exact ⟨_,r1,(MapV.put_of h1 h2 ((Maps.Keyed.of_law K).key L) v q2).block W,⟨rfl,rfl,rfl,by simp [ChangeMaps.setBlock],fun i _ hi=>ChangeMaps.heap_setBlock_other N _ (fun e=>hi (by rw [e]))⟩⟩
end
theorem Num.law:WideMaps.KeyLaw prog 171:=deep_law_laid Pid.laid (m:=2) om (of_decide_eq_true ybi) ybi ybi
theorem Rep.law:WideMaps.KeyLaw prog 173:=deep_law_laid Pid.laid (m:=3) om (of_decide_eq_true ybi) ybi ybi
theorem Rep.size:prog.types.size=prog.types.size - 3+1+1+1:=by
 have h:3<=prog.types.size:=of_decide_eq_true ybi;omega
theorem Num.keyT:prog.keyType 171=true:=by kernel_rfl
theorem Rep.keyT:prog.keyType 173=true:=by kernel_rfl
theorem Num.cells:prog.cellsOf 171=2:=by kernel_rfl
theorem Rep.cells:prog.cellsOf 173=3:=by kernel_rfl
def pN (d s:Int):Value:= .agg #[.int .i64 d,.int .i64 s]
def pR (d s y:Int):Value:= .agg #[.int .i64 d,.int .i64 s,.int .i64 y]
noncomputable def kN (d s:Int):Lit:= .string (keyBytes [.int .i64 d,.int .i64 s])
noncomputable def kR (d s y:Int):Lit:= .string (keyBytes [.int .i64 d,.int .i64 s,.int .i64 y])
theorem kN_of {d s:Int} (hd:int64 d) (hs:int64 s):keyOf prog 171 (pN d s)=some (kN d s):=by
 have h1:=hd.wf;have h2:=hs.wf;have hf:(pN d s).formed prog 171=true:=by simp [pN,Value.formed,underlying171,Num.cells]
 unfold keyOf;simp only [underlying171];rw [if_pos (by simp [Num.keyT,hf]),Pid.size];unfold Program.keyLits;simp only [underlying171,Value.cells,pN];rw [if_pos (by simp [Num.cells])];unfold Program.keyLits;simp [underlying3,Pid.icells,h1,h2,kN]
theorem kR_of {d s y:Int} (hd:int64 d) (hs:int64 s) (G:int64 y):keyOf prog 173 (pR d s y)=some (kR d s y):=by
 have h1:=hd.wf;have h2:=hs.wf;have H:=G.wf;have hf:(pR d s y).formed prog 173=true:=by simp [pR,Value.formed,underlying173,Rep.cells]
 unfold keyOf;simp only [underlying173];rw [if_pos (by simp [Rep.keyT,hf]),Rep.size];generalize prog.types.size - 3=n;unfold Program.keyLits;simp only [underlying173,Value.cells,pR];rw [if_pos (by simp [Rep.cells])];unfold Program.keyLits;simp [Program.keyLits,underlying3,underlying171,Num.cells,Pid.icells,h1,h2,H,kR]
 rw [if_pos (by
  intro i hi;have:i=0∨i=1:=by omega
  rcases this with rfl |rfl<;>simp)]
 simp
theorem kN_inj {d s H G:Int} (h1:int64 d) (h2:int64 s) (K:int64 H) (J:int64 G) (e:kN d s=kN H G):d=H/\s=G:=by
 have h:=(Maps.Keyed.of_law Num.law).inj (kN_of h1 h2) (e▸kN_of K J);simp [pN] at h;exact h
theorem kR_inj {d s y H G J:Int} (h1:int64 d) (h2:int64 s) (N:int64 y) (L:int64 H) (K:int64 G) (M:int64 J) (e:kR d s y=kR H G J):d=H/\s=G/\y=J:=by
 have h:=(Maps.Keyed.of_law Rep.law).inj (kR_of h1 h2 N) (e▸kR_of L K M);simp [pR] at h;exact h
theorem Num.zero (w:World):(zeroValue 4).run prog w= .ok (.bool false) w:=by kernel_rfl
theorem Rep.zero (w:World):(zeroValue 83).run prog w= .ok (.slice none 0 0) w:=by kernel_rfl
theorem Mee.zero (w:World):(zeroValue 174).run prog w= .ok (.slice none 0 0) w:=by kernel_rfl
inductive Rl where
 |dat
 |fix (i:Nat)
 |ent
 |sh (l:Lit)
 |mt (l:Lit)
def Lab (lab:Nat->Rl) (r:Rl) (v:Value):Prop:=∀k,v.ownBlock=some k->lab k=r
theorem Lab.nil (lab:Nat->Rl) (r:Rl):Lab lab r (.slice none 0 0):=fun k hk=>by cases hk
open Classical in
noncomputable def setL (lab:Nat->Rl) (v:Value) (r:Rl):Nat->Rl:=fun i=>if v.ownBlock=some i then r else lab i
theorem setL_same (lab:Nat->Rl) (v:Value) (r:Rl):Lab (setL lab v r) r v:=fun k hk=>by unfold setL;simp [hk]
theorem ycy {G:Nat->Rl} {v H:Value} {r:Rl} {n i:Nat} (h:H.ownBlock=v.ownBlock∨∃g,H.ownBlock=some g/\n<=g) (hl:Lab G r v) (hi:i < n):setL G H r i=G i:=by
 unfold setL
 split
 ·rename_i e
  rcases h with h |⟨g,h,J⟩
  ·exact (hl i (h▸e)).symm
  ·rw [h] at e;injection e with e;omega
 ·rfl
theorem setL_hi {lab:Nat->Rl} {v':Value} {r:Rl} {n i:Nat} (h:∀g,v'.ownBlock=some g->g < n) (hi:n<=i):setL lab v' r i=lab i:=by
 unfold setL
 split
 ·rename_i e
  have:=h i e;omega
 ·rfl
structure FrP (lab:Nat->Rl) (P:Rl->Prop) (w w':World):Prop where
 le:w.heap.size<=w'.heap.size
 same:∀k,k < w.heap.size->¬P (lab k)->w'.heap[k]? =w.heap[k]?
theorem FrP.grown {G:Nat->Rl} {r:Rl} {P:Rl->Prop} {w J:World} {v:Value} (h:w.grownBy J v.ownBlock) (hl:Lab G r v) (L:P r):FrP G P w J:=
 ⟨h.size,fun k K H=>h.block k K fun e=>H (by rw [hl k e.symm];exact L)⟩
theorem FrP.blk {G:Nat->Rl} {P:Rl->Prop} {w J:World} {b:Nat} (h:w.grownBy J (some b)) (L:P (G b)):FrP G P w J:=
 ⟨h.size,fun k K H=>h.block k K fun e=>H (by injection e with e;rw [e];exact L)⟩
theorem FrP.below {lab:Nat->Rl} {P:Rl->Prop} {w w':World} (h:Below w.heap.size w w'):FrP lab P w w':=⟨h.size,fun k hk _=>h.block k hk⟩
theorem FrP.refl (lab:Nat->Rl) (P:Rl->Prop) (w:World):FrP lab P w w:=⟨Nat.le_refl _,fun _ _ _=>rfl⟩
theorem FrP.trans {G:Nat->Rl} {P:Rl->Prop} {w L M:World} (h:FrP G P w L) (K:FrP G P L M):FrP G P w M:=
 ⟨lT h.le K.le,fun k J H=>(K.same k (Nat.lt_of_lt_of_le J h.le) H).trans (h.same k J H)⟩
theorem FrP.mono {lab:Nat->Rl} {P Q:Rl->Prop} {w w':World} (h:FrP lab P w w') (hPQ:∀r,P r->Q r):FrP lab Q w w':=⟨h.le,fun k hk hne=>h.same k hk fun hp=>hne (hPQ _ hp)⟩
theorem FrP.set {G:Nat->Rl} {P:Rl->Prop} {w L:World} {v J:Value} {r:Rl} (h:FrP G P w L) (M:J.ownBlock=v.ownBlock∨∃g,J.ownBlock=some g/\w.heap.size<=g) (hl:Lab G r v):FrP (setL G J r) P w L:=
 ⟨h.le,fun k K H=>h.same k K (by rw [ycy M hl K] at H;exact H)⟩
section
variable {lab:Nat->Rl} {P:Rl->Prop} {w w':World}
theorem OwnN.fr {α:Type} {f:α->List Value} {s:Nat} {e:TypeId} {base:Nat} {v:Value} {xs:List α} {K:Rl} (h:OwnN f s e w base v xs) (hl:Lab lab K v) (hf:FrP lab P w w') (M:¬P K):OwnN f s e w' base v xs:=by
 refine ⟨h.1,?_⟩;rcases h.2 with hn |⟨g,cap,J,rfl,L,G,H⟩
 ·exact .inl hn
 ·exact .inr ⟨g,cap,J,rfl,L,(hf.same g (Array.getElem?_eq_some_iff.1 G).1 (by rw [hl g rfl];exact M)).trans G,H⟩
theorem MapV.fr {kt:TypeId} {b n:Nat} {z:Value} {m:Lit->Value} (h:MapV w kt b n z m) (hf:FrP lab P w w') (hne:¬P (lab b)):MapV w' kt b n z m:=h.block (hf.same b h.lt hne)
def DatB (lab:Nat->Rl) (A:Option Addr) (n:Nat):Prop:=0 < n->∀a,A=some a->lab a.block= .dat
theorem Sl.fr {α:Type} {f:α->Value} {n:Nat} {A:Option Addr} {xs:List α} (h:Sl f w w.heap.size A n xs) (hd:DatB lab A n) (hf:FrP lab P w w') (hr:¬P .dat):Sl f w' w'.heap.size A n xs:=by
 refine ⟨h.1,fun hn=>?_⟩;obtain ⟨b,G,e,H,J⟩:=h.2 hn;have hs:=hf.same b H (by rw [hd (h.1▸hn) _ e];exact hr);exact ⟨b,G,e,Nat.lt_of_lt_of_le H hf.le,fun k x K=>(cB hs).trans (J k x K)⟩
theorem DatB.set {α:Type} {f:α->Value} {n m:Nat} {A:Option Addr} {xs:List α} {v G:Value} {r:Rl} (h:DatB lab A n) (hs:Sl f w m A n xs) (K:G.ownBlock=v.ownBlock∨∃g,G.ownBlock=some g/\m<=g) (hl:Lab lab r v):DatB (setL lab G r) A n:=fun hn a e=>by
 obtain ⟨b,L,H,J,_⟩:=hs.2 (hs.1▸hn);rw [H] at e;injection e with e;subst e;rw [ycy K hl J];exact h hn _ H
theorem Lab.set {v G u:Value} {r J:Rl} {n:Nat} (h:Lab lab J u) (K:∀k,u.ownBlock=some k->k < n) (L:G.ownBlock=v.ownBlock∨∃g,G.ownBlock=some g/\n<=g) (hl:Lab lab r v):Lab (setL lab G r) J u:=fun k H=>by
 rw [ycy L hl (K k H)];exact h k H
end
open Go.ChangeShapes Go.WideShapes Go.ChangeAt Go.WideMaps Go.WideElems Go.RowKit
theorem gInit:prog.globalNamed "kinkeep/sha256.initial" =some 0:=by kernel_rfl
theorem gCons:prog.globalNamed "kinkeep/sha256.constants" =some 1:=by kernel_rfl
theorem tInit:(prog.globals[0]?).map (·.type)=some 251:=by kernel_rfl
theorem tCons:(prog.globals[1]?).map (·.type)=some 293:=by kernel_rfl
abbrev laidTs {H:Type}:List (String × DataW H):=[("kinkeep/sha256.initial",Rows.laid_kinkeep_sha256_initial),("kinkeep/sha256.constants",Rows.laid_kinkeep_sha256_constants)]
theorem door_met (os:Os) (args:Array Value):laidMetH prog laidTs ((World.doorLaid prog 400 os).forCall (fun _ _=>0) ⟨#[],args,[]⟩).memory:=
 laidMetH_of_parts3 (fuel:=8) (laidMet_of_run' 8 ybi ybi) ybi ybi
theorem c32:prog.cellsOf 250=1:=by kernel_rfl
theorem cells_tab {W:World} {m:Nat} {cs:List Value} {xs:List (DataW Unit × List MemPlace)} {tab:List Int} {n:Nat} {D:DataW Unit} (O:D= .agg (tab.map fun x=> .lit (.int .u32 x))) {p:List MemPlace} (L:(D,p)=(DataW.agg (xs.map fun x=>x.fst),xs.flatMap fun x=>x.snd)) (hn:xs.length=n)
 (J:∀i,i < n->DataW.trod (fun _=>()) prog W 0 (fun _=>true) false m 250 ((cs.drop (i*prog.cellsOf 250)).take (prog.cellsOf 250))=xs[i]?) (i:Nat) (x:Int) (hi:tab[i]? =some x):cs[i]? =some (U32 x):=by
 simp only [Prod.mk.injEq] at L;have h1:=L.1;rw [O] at h1;injection h1 with h1;have h2:=congrArg (fun l=>l[i]?) h1;simp only [List.getElem?_map,hi,Option.map_some] at h2
 cases hd:xs[i]? with
 |none=>rw [hd] at h2;cases h2
 |some d=>
  rw [hd] at h2;simp only [Option.map_some,Option.some.injEq] at h2;have G:i < n:=by rw [<-hn];exact (List.getElem?_eq_some_iff.1 hd).1
  have K:=J i G;rw [hd,c32,Nat.mul_one] at K;obtain ⟨k,M,N,_⟩:=DataW.trod_int underlying250 K;rw [N] at h2;injection h2 with h2;injection h2 with _ h2;subst h2;have H:=congrArg List.head? M;rw [List.head?_take] at H;simpa using H
theorem glob_of_laid {W:World} (h:laidMetH prog laidTs W):Glob W:=by
 rw [MakeChecks.laidMetH_plain _ _ _ ybi] at h;obtain ⟨ps,⟨N,t0,ah,f0,p0,q0,H,aa,U,ac,⟨g1,t1,aj,f1,p1,q1,G,Y,L,T,_,_⟩,_⟩,_,_⟩:=h;obtain rfl:=Option.some.inj (gInit.symm.trans H);obtain rfl:=Option.some.inj (gCons.symm.trans G);obtain rfl:=Option.some.inj (tInit.symm.trans aa);obtain rfl:=Option.some.inj (tCons.symm.trans Y);obtain ⟨ai,m0,rfl,Z,af,z,J⟩:=DataW.trod_array underlying251 ac;obtain ⟨ag,m1,rfl,O,ae,M,K⟩:=DataW.trod_array underlying293 T;have N:=cells_tab (tab:=hTab.list) (by rfl) Z z J;have g1:=cells_tab (tab:=kTab) (by rfl) O M K
 have c0:∀(i:Nat) (x:Int),hTab.list[i]? =some x->W.cell? ⟨0,i,none⟩=some (U32 x):=fun i x hi=>by
  have h1:=World.var?_cell H U i;rw [h1];have:=N i x hi;simpa using this
 have c1:∀(i:Nat) (x:Int),kTab[i]? =some x->W.cell? ⟨1,i,none⟩=some (U32 x):=fun i x hi=>by
  have h1:=World.var?_cell G L i;rw [h1];have:=g1 i x hi;simpa using this
 refine ⟨c1,c0,?_⟩;have h:=c1 0 _ rfl;rcases Nat.lt_or_ge 1 W.heap.size with h1 |h1
 ·exact h1
 ·exfalso;unfold World.cell? at h;rw [Array.getElem?_eq_none h1] at h;cases h
