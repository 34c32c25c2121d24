/- SHA-256 of the program: the state's Sum. -/
import Derived.Test.YtpdledjgbgalcaaGreatDoorZ3
import Derived.Test.YtpdledjgbgalcaaGreatDoorMa
namespace Go.Proofs.YtpdledjgbgalcaaGreatDoor
set_option maxRecDepth 100000
set_option maxHeartbeats 8000000
open Go.RowKit
set_option linter.unusedVariables false
set_option linter.unusedSimpArgs false
def zN (L:Nat):Nat:=(119 - L % 64) % 64
def be8 (n:Nat):List Int:=(List.range 8).map fun i=>((n / 2 ^ (56 - 8*i) % 256:Nat):Int)
def padB (L:Nat):List Int:=(128::List.replicate (zN L) 0)++be8 (8*L)
theorem be8_len (n:Nat):(be8 n).length=8:=by simp [be8]
theorem padB_len (L:Nat):(padB L).length=zN L+9:=by simp [padB,be8_len]
theorem padB_64 (L:Nat):(L+(padB L).length) % 64=0:=by rw [padB_len];unfold zN;omega
theorem zN_lt (L:Nat):zN L < 64:=Nat.mod_lt _ om
theorem be8_byt (n:Nat):Byt (be8 n):=fun x hx=>by
 obtain ⟨i,_,rfl⟩:=List.mem_map.1 hx;omega
theorem padB_byt (L:Nat):Byt (padB L):=by
 refine Byt.app ?_ (be8_byt _);intro x hx;rcases List.mem_cons.1 hx with rfl |h
 ·omega
 ·rw [(List.mem_replicate.1 h).2];omega
def w4 (x:Int):List Int:=[x / 16777216 % 256,x / 65536 % 256,x / 256 % 256,x % 256]
def wB (l:List Int):List Int:=l.flatMap w4
theorem wB_byt (l:List Int):Byt (wB l):=fun y hy=>by
 obtain ⟨x,_,h⟩:=List.mem_flatMap.1 hy;simp only [w4,List.mem_cons,List.not_mem_nil,or_false] at h;rcases h with rfl |rfl |rfl |rfl<;>omega
theorem wB_len:∀l:List Int,(wB l).length=4*l.length
 | []=>rfl
 |x::l=>by
  have:=wB_len l
  unfold wB at this ⊢;rw [List.flatMap_cons,List.length_append,this];simp [w4];omega
def shaB (bs:List Int):List Int:=wB (hashN (bs++padB bs.length) ((bs.length+(padB bs.length).length) / 64)).list
theorem ybN (bs:List Int):Byt (shaB bs):=wB_byt _
theorem ybA (bs:List Int):(shaB bs).length=32:=by unfold shaB;rw [wB_len];rfl
theorem ydq {v:W8} {buf:List Int} {n:Int} (h:buf.length=64):(yce v buf n).size=73:=by
 show ((v.list.map U32++(buf.map fB++[Value.int .i64 n])).toArray).size=73
 simp [W8.list,h]
theorem stCells_one {v:W8} {buf:List Int} {n:Int}:(yce v buf n).all (·.oneCell')=true:=by
 rw [Array.all_eq_true'];intro x hx;have hx':x∈v.list.map U32++(buf.map fB++[Value.int .i64 n]):=by simpa [yce] using hx
 rcases List.mem_append.1 hx' with h |h
 ·obtain ⟨y,_,rfl⟩:=List.mem_map.1 h;rfl
 ·rcases List.mem_append.1 h with h |h
  ·obtain ⟨y,_,rfl⟩:=List.mem_map.1 h;rfl
  ·rw [List.mem_singleton.1 h];rfl
theorem St.grown {w w':World} {g:Nat} {bs:List Int} {row:Option Nat} (h:St w g bs) (hg:w.grownBy w' row) (hr:row≠some g):St w' g bs:=by
 obtain ⟨buf,h1,h2,h3,h4,h5⟩:=h;exact ⟨buf,h1,h2,h3,(hg.block g (lt_of_block h4) (fun e=>hr e.symm)).trans h4,h5⟩
theorem Tryz.sizeSt:(Tryz.prog.info? 302).map (·.size)=some 73:=by kernel_rfl
theorem be8_snoc (n:Nat) {j:Nat} (hj:j < 8):(be8 n).take (j+1)=(be8 n).take j++[((n / 2 ^ (56 - 8*j) % 256:Nat):Int)]:=
 yba (by rw [be8,List.getElem?_map,List.getElem?_range hj];rfl)
theorem own_far {w:World} {g:Nat} {e:TypeId} {A:Option Addr} {n c:Nat} {xs:List Int} (h:Own fB e w (g+1) (.slice A n c) xs) {a:Addr} (ha:A=some a):a.block≠g:=by
 subst ha
 have:=(World.ownsRow.lt h a.block rfl).1
 omega
theorem own_ne {w:World} {g:Nat} {e:TypeId} {v:Value} {xs:List Int} (h:Own fB e w (g+1) v xs):v.ownBlock≠some g:=fun hv=>by
 have:=(World.ownsRow.lt h g hv).1
 omega
def PadP (g:Nat) (w:World) (bs xs:List Int) (v:Value) (wr:World):Prop:=
 Hid (Own fB 5 wr (g+1) v xs)∧Hid (St wr g bs)∧Hid (Below w.heap.size w wr)
theorem sum_any (g:Nat) (bs:List Int) (w:World) (hS:St w g bs) (hl:bs.length≤549755813888) (hk:KTab w) (hk1:1 < w.heap.size):
 Calls Tryz.prog 200 #[.pointer (some ⟨g,0,none⟩)] w fun e w'=>e= .returned (.string (baOf (shaB bs)))∧Below w.heap.size w w':=by
 obtain ⟨buf,hbl,hbb,hbs,hg,htk⟩:=hS;obtain ⟨L,hL⟩:∃L,L=bs.length:=⟨_,rfl⟩
 have hcn:=st_n hg hbl;rw [←hL] at hcn;have hfn:=frozen_of_row w g 72 _ _ hg;obtain ⟨i0,hi,hz0,hz1,hz2⟩:=info_parts Tryz.infoB;have HI:=lh hi;have HZ0:=lh hz0;have HZ1:=lh hz1;have HZ2:=lh hz2;have HG:=lh hg;have HSZ:Hid ((Tryz.prog.info? 302).map (·.size)=some (yce (hashN bs (bs.length / 64)) buf bs.length).size):=by show _=_;rw [ydq hbl];exact Tryz.sizeSt
 have HS1:Hid ((yce (hashN bs (bs.length / 64)) buf bs.length).size=73):=ydq hbl;obtain ⟨CS,hCS⟩:∃CS,CS=yce (hashN bs (bs.length / 64)) buf bs.length:=⟨_,rfl⟩
 have HC1:Hid (CS.all (·.oneCell')=true):=by show _=_;rw [hCS];exact stCells_one
 have HG':Hid (w.heap[g]? =some (.cells CS 302 (0,0))):=by show _=_;rw [hCS];exact hg
 rw [←hCS] at HSZ HS1;have HSt:Hid (St (w.alloc (.cells CS 302)) w.heap.size bs):=⟨buf,hbl,hbb,hbs,by rw [hCS];exact heap_alloc_new w _,htk⟩;have HK:=lh hk;have HK1:=lh hk1;have HLe:Hid (L=bs.length):=hL;have HGL:=lh (lt_of_block hg);have hl2:L≤549755813888:=by rw [hL];exact hl
 clear hi hz0 hz1 hz2 hg hbl hbb hbs htk hCS hk hk1 hL hl HG;go_enter Tryz.func200,Tryz.ntmps200
 go_upto_region 3 with (first
  |(with_reducible refine wpList_load_row (o:=⟨some 12,_,_,_,_,_⟩) rfl 302 (.tmp 11) rfl g rfl 302 CS (0,0) _ HG'.out Tryz.underlying302 rfl HSZ.out ?_)
  |(with_reducible refine ya3 (o:=⟨none,_,_,_,_,_⟩) rfl 302 (.tmp 3) (.tmp 12) rfl 302 _ CS rfl rfl HSZ.out (HS1.out.symm▸rfl) HC1.out ?_))
 have HP0:Hid (PadP w.heap.size w bs (128::List.replicate 0 0) (.slice (some ⟨w.heap.size+1,0,none⟩) 1 1) ((w.alloc (.cells CS 302)).alloc (.cells #[.int .u8 128] 5))):=by
  refine ⟨?_,?_,?_⟩
  ·have h:=World.ownsRow_lit (base:=w.heap.size+1) (e:=5) (size:=1) (w.alloc (.cells CS 302)) #[.int .u8 128] 1 sI yaS rfl
   rw [World.size_alloc] at h;exact h
  ·exact HSt.out.but ((But.refl (fun _=>False) _).alloc _) (fun h=>h)
  ·exact bl.alloc sI _
 go_loopw [4] (fun v wr=>∃k,k≤zN L∧Hid (PadP w.heap.size w bs (128::List.replicate k 0) v wr)) (fun v _=>zN L+1 - ycf v)
 case atStart=>exact ⟨0,by omega,HP0⟩
 case round=>
  obtain ⟨k,hkz,HP⟩:=hrel;have HO:=HP.out.1;have HS:=HP.out.2.1;have HB:=HP.out.2.2;have hc72:wr.cell? ⟨g,72,none⟩=some (.int .i64 L):=(HB.out.cell (p:=⟨g,72,none⟩) HGL.out).trans hcn;have hzl:=zN_lt L;obtain ⟨A1,c1,hv1,hc1,hs1,_⟩:=HO.out.shape;obtain ⟨l1,hl1⟩:∃l,l=(128::List.replicate k (0:Int)).length:=⟨_,rfl⟩
  have hlk:l1=k+1:=by rw [hl1];simp
  rw [←hl1] at hv1;have HLK:=lh hlk;have HOL:=lh hl1;clear hl1 hs1 hc1 hlk;have HL1:Hid (((128::List.replicate k (0:Int)).length+1)*1≤140737488355328):=by show _≤_;simp;omega
  have HL2:Hid ((128::List.replicate k (0:Int)).length+1≤maxLen):=by show _≤_;unfold maxLen;simp;omega
  have HSz:Hid (w.heap.size+1≤wr.heap.size):=by
   show _≤_
   obtain ⟨_,_,_,_,h,_⟩:=HS.out;exact lt_of_block h
  by_cases hkz2:k=zN L
  ·
   have hrem:((L:Int)+(l1:Int)) % 64=56:=by have:=HLK.out;have h0:zN L=(119 - L % 64) % 64:=rfl;omega
   have hlb:(l1:Int)≤65:=by have:=HLK.out;omega
   subst hv1;have HP2:Hid (PadP w.heap.size w bs (128::List.replicate (zN L) 0) (.slice A1 l1 c1) wr):=by show PadP ..;rw [←hkz2];exact HP.out
   clear HP HO HS HL1 HL2 HOL HLK hkz2
   go_upto_region 7 with fail
   have HPz:Hid (PadP w.heap.size w bs ((128::List.replicate (zN L) 0)++(be8 (8*L)).take 0) (.slice A1 l1 c1) wr):=by show PadP ..;rw [List.take_zero,List.append_nil];exact HP2.out
   clear HB hc72 HSz hrem
   go_loopw [4,6] (fun v i wr=>∃j:Nat,j≤8∧i= .int .i64 (56 - 8*(j:Int))∧Hid (PadP w.heap.size w bs ((128::List.replicate (zN L) 0)++(be8 (8*L)).take j) v wr)) (fun _ i _=>(intOf i+8).toNat)
   case atStart=>exact ⟨0,by omega,rfl,HPz⟩
   case round=>
    obtain ⟨j,hj,rfl,HP⟩:=hrel;have HO:=HP.out.1;have HS:=HP.out.2.1;have HB:=HP.out.2.2;obtain ⟨A3,c3,hv3,hc3,hs3,_⟩:=HO.out.shape
    have hll:((128::List.replicate (zN L) (0:Int))++(be8 (8*L)).take j).length=zN L+1+j:=by
     rw [List.length_append,List.length_cons,List.length_replicate,List.length_take,be8_len];omega
    obtain ⟨ys,hys⟩:∃ys,ys=(128::List.replicate (zN L) (0:Int))++(be8 (8*L)).take j:=⟨_,rfl⟩
    rw [←hys] at HO hv3 hll hs3 hc3;rw [hll] at hv3 hc3;have HYL:=lh hll;have HYS:=lh hys;have HS3:=lh hs3
    have HSz:Hid (w.heap.size+1≤wr.heap.size):=by
     show _≤_
     obtain ⟨_,_,_,_,h,_⟩:=HS.out;exact lt_of_block h
    subst hv3;clear hs3 hys HPz HP2 hll
    by_cases hj8:j < 8
    ·
     obtain ⟨s,hs⟩:∃s:Nat,s=56 - 8*j:=⟨_,rfl⟩
     have hsI:(56 - 8*(j:Int))=(s:Int):=by omega
     have hs56:s≤56:=by omega
     have HSS:=lh hs;rw [hsI];have HL1:Hid ((ys.length+1)*1≤140737488355328):=by show _≤_;rw [HYL.out];omega
     have HL2:Hid (ys.length+1≤maxLen):=by show _≤_;rw [HYL.out];unfold maxLen;omega
     clear hs hsI
     have HT:Hid ((be8 (8*L)).take j++[(L:Int)*8 / 2 ^ s % 256]=(be8 (8*L)).take (j+1)):=by
      show _=_
      rw [be8_snoc _ hj8,HSS.out]
      congr 2
      rw [Int.mul_comm];simp
     go_wp2_with (first
      |(at_builtin;(with_reducible refine ya4 (o:=⟨some 42,_,_,_,_,_⟩) rfl (.tmp 36) (.tmp 41) 40 rfl 5 i0 (.int .u8 0) 1 Tryz.underlying40 HI.out HZ0.out HZ1.out HZ2.out rfl _ ys (w.heap.size+1) rfl HO.out ((L:Int)*8 / 2 ^ s % 256) 1 rfl fB1 HL1.out HL2.out HSz.out ?_);intro v1 w1 HO1 HG1 HV1))
     go_roundw
     case rel=>
      refine ⟨j+1,by omega,?_,?_,?_,?_⟩
      ·have:=HSS.out
       refine congrArg (Value.int .i64) ?_;omega
      ·have h:=HO1.out
       rw [HYS.out,List.append_assoc,HT.out] at h;exact h
      ·exact HS.out.grown HG1.out (own_ne HO.out)
      ·exact HB.out.trans (yaY HG1.out (fun j hj=>Nat.le_trans (Nat.le_succ _) (World.ownsRow.lt HO.out j hj).1) HB.out.size)
     case measure=>
      have:=HSS.out
      simp [intOf];omega
    ·
     obtain rfl:j=8:=by omega
     have HPD:Hid (ys=padB L):=by
      show _=_
      rw [HYS.out,List.take_of_length_le (by rw [be8_len];exact Nat.le_refl _)];rfl
     have HKw:Hid (KTab wr):=fun i x hx=>(HB.out.cell (p:=⟨1,i,none⟩) HK1.out).trans (HK.out i x hx)
     have HK1w:Hid (1 < wr.heap.size):=Nat.lt_of_lt_of_le HK1.out HB.out.size;have HC:=lh (yco w.heap.size bs ys A3 (zN L+1+8) c3 wr.heap.size wr HS.out ⟨HYL.out,HS3.out⟩ hc3 nl (by rw [HPD.out];exact padB_byt L) (fun a ha=>own_far HO.out ha) (by have:=zN_lt L;rw [HYL.out,←HLe.out];omega) HKw.out HK1w.out (Nat.ne_of_gt HK1.out));clear hc3 hj
     go_upto_region 13 with (first
      |(go_at_call 199
        go_loud (
        refine HC.out.mono ?_;rintro e W2 ⟨rfl,HS2,HB2⟩;have HS2':=lh HS2;have HBb:Hid (Below w.heap.size w W2):=HB.out.trans (HB2.below HB.out.size (fun i hi=>Nat.le_of_eq hi.symm));obtain ⟨buf2,_,_,_,hg2,_⟩:=HS2;obtain ⟨d0,d1,d2,d3,d4,d5,d6,d7⟩:=st_cells hg2;obtain ⟨V,hV⟩:∃V,V=hashN (bs++ys) ((bs++ys).length / 64):=⟨_,rfl⟩
        rw [←hV] at d0 d1 d2 d3 d4 d5 d6 d7;have HV:=lh hV;have HGl:Hid (w.heap.size < W2.heap.size):=lt_of_block hg2;obtain ⟨va,vb,vc,vd,ve,vf,vg,vh⟩:=V
        clear hg2 hV HB2))
      |(at_make
        go_loud (
        refine wpList_make_own W2 (o:=⟨some 45,_,_,_,_,_⟩) rfl _ _ 40 rfl W2.heap.size 5 i0 (.int .u8 0) 1 Tryz.underlying40 HI.out HZ0.out HZ1.out _ _ 32 32 rfl rfl rfl (by rw [HZ2.out];decide) yaS nl ?_;intro W3 hO3 hG3;have HO3:Hid (Own fB 5 W3 W2.heap.size (.slice (some ⟨W2.heap.size,0,none⟩) 0 32) []):=hO3;have HB3:Hid (Below W2.heap.size W2 W3):=yaY hG3 (fun k hk=>by cases hk) nl
        replace d0:=(HB3.out.cell (p:=⟨w.heap.size,0,none⟩) HGl.out).trans d0
        replace d1:=(HB3.out.cell (p:=⟨w.heap.size,1,none⟩) HGl.out).trans d1
        replace d2:=(HB3.out.cell (p:=⟨w.heap.size,2,none⟩) HGl.out).trans d2
        replace d3:=(HB3.out.cell (p:=⟨w.heap.size,3,none⟩) HGl.out).trans d3
        replace d4:=(HB3.out.cell (p:=⟨w.heap.size,4,none⟩) HGl.out).trans d4
        replace d5:=(HB3.out.cell (p:=⟨w.heap.size,5,none⟩) HGl.out).trans d5
        replace d6:=(HB3.out.cell (p:=⟨w.heap.size,6,none⟩) HGl.out).trans d6
        replace d7:=(HB3.out.cell (p:=⟨w.heap.size,7,none⟩) HGl.out).trans d7
        clear hO3 hG3)))
     clear hj8 d0 d1 d2 d3 d4 d5 d6 d7
     go_loopw [7,48] (fun v i wr=>∃j:Nat,j≤8∧i= .int .i64 j∧Hid (Own fB 5 wr W2.heap.size v (wB ([va,vb,vc,vd,ve,vf,vg,vh].take j)))∧Hid (Below W2.heap.size W2 wr)) (fun _ i _=>8 - (intOf i).toNat)
     case atStart=>exact ⟨0,by omega,rfl,HO3,HB3⟩
     case round=>
      obtain ⟨j,hj,rfl,HO,HB⟩:=hrel;obtain ⟨A5,c5,hv5,hc5,hs5,_⟩:=HO.out.shape;obtain ⟨zs,hzs⟩:∃zs,zs=wB ([va,vb,vc,vd,ve,vf,vg,vh].take j):=⟨_,rfl⟩
      rw [←hzs] at HO hv5 hs5;have hzl:zs.length=4*j:=by rw [hzs,wB_len,List.length_take];show 4*min j 8=_;omega
      rw [hzl] at hv5;subst hv5;have HZS:=lh hzs;have HZL:=lh hzl;have HS5:=lh hs5;clear hzs hzl hs5 hc5
      by_cases hj8:j < 8
      ·obtain ⟨x,hx⟩:=ybn (xs:=[va,vb,vc,vd,ve,vf,vg,vh]) (k:=j) hj8
       have hix:(#[U32 va,U32 vb,U32 vc,U32 vd,U32 ve,U32 vf,U32 vg,U32 vh]:Array Value)[j]? =some (U32 x):=by
        have:=congrArg (Option.map U32) hx
        rw [←List.getElem?_map] at this;rw [List.getElem?_toArray];exact this
       obtain ⟨iU,hU0,_,hU1,_⟩:=info_parts Tryz.infoU;have hiw:=fun W=>ycQ (P:=Tryz.prog) 251 250 8 iU _ Tryz.underlying251 Tryz.underlying250 rfl hU0 hU1 #[U32 va,U32 vb,U32 vc,U32 vd,U32 ve,U32 vf,U32 vg,U32 vh] .i64 j (U32 x) hj8 hix W
       have hjI:(j:Int) < 8:=by omega
       have HR4:Hid (Sl fB (wr.alloc (.cells #[.int .u8 (x / 16777216 % 256),.int .u8 (x / 65536 % 256),.int .u8 (x / 256 % 256),.int .u8 (x % 256)] 5)) (wr.heap.size+1) (some ⟨wr.heap.size,0,none⟩) 4 (w4 x)):=⟨rfl,SL.of_block (t:=5) (fr:=(0,0)) (heap_alloc_new wr _) (Nat.lt_succ_self _)⟩
       have HZ2':Hid (wB ([va,vb,vc,vd,ve,vf,vg,vh].take (j+1))=zs++w4 x):=by
        show _=_
        rw [yba hx,HZS.out];unfold wB;rw [List.flatMap_append];simp
       have HL1:Hid ((zs.length+(w4 x).length)*1≤140737488355328):=by show _≤_;rw [HZL.out];show (4*j+4)*1≤_;omega
       have HL2:Hid (zs.length+(w4 x).length≤maxLen):=by show _≤_;rw [HZL.out];show 4*j+4≤_;unfold maxLen;omega
       have HSz:Hid (W2.heap.size≤(wr.alloc (.cells #[.int .u8 (x / 16777216 % 256),.int .u8 (x / 65536 % 256),.int .u8 (x / 256 % 256),.int .u8 (x % 256)] 5)).heap.size):=Nat.le_trans HB.out.size sI;clear hix hx
       go_wp2_with (first
        |(at_builtin;(with_reducible refine ya8 (o:=⟨some 64,_,_,_,_,_⟩) rfl (.tmp 51) (.tmp 63) 40 rfl 5 i0 (.int .u8 0) 1 Tryz.underlying40 HI.out HZ0.out HZ1.out HZ2.out rfl _ zs W2.heap.size rfl (HO.out.alloc _) _ 4 4 (wr.heap.size+1) (w4 x) rfl HR4.out fB1 HL1.out HL2.out HSz.out ?_);intro v1 w1 HO1 HG1 HV1))
       go_roundw
       case rel=>
        refine ⟨j+1,by omega,by go_num,?_,?_⟩
        ·show Own ..
         rw [HZ2'.out];exact HO1.out
        ·exact (HB.out.alloc HB.out.size _).trans (yaY HG1.out (fun j hj=>(World.ownsRow.lt HO.out j hj).1) HSz.out)
       case measure=>simp [intOf];omega
      ·obtain rfl:j=8:=by omega
       have hcv:=ybG (P:=Tryz.prog) 40 5 9 Tryz.underlying40 Tryz.underlying5 Tryz.underlying9 wr wr.heap.size A5 (4*8) c5 zs ⟨HZL.out,HS5.out⟩;go_wp2;go_ret;refine ⟨?_,HBb.out.trans (HB.out.mono HBb.out.size)⟩
       have he:shaB bs=zs:=by
        rw [HZS.out];unfold shaB;rw [HPD.out] at HV;rw [←List.length_append,←HLe.out,←HV.out]
        rfl
       rw [he]
       rfl
  ·
   have hrem:¬((L:Int)+(l1:Int)) % 64=56:=by have:=HLK.out;have h0:zN L=(119 - L % 64) % 64:=rfl;omega
   have hlb:(l1:Int)≤65:=by have:=HLK.out;omega
   subst hv1
   go_wp2_with (first
    |(at_builtin;(with_reducible refine ya4 (o:=⟨some 25,_,_,_,_,_⟩) rfl (.tmp 23) (.tmp 24) 40 rfl 5 i0 (.int .u8 0) 1 Tryz.underlying40 HI.out HZ0.out HZ1.out HZ2.out rfl _ (128::List.replicate k 0) (w.heap.size+1) rfl HO.out (0) 1 rfl fB1 HL1.out HL2.out HSz.out ?_);intro v1 w1 HO1 HG1 HV1))
   go_roundw
   case rel=>
    refine ⟨k+1,by omega,?_,?_,?_⟩
    ·have h:=HO1.out
     rw [List.cons_append,←List.replicate_succ'] at h;exact h
    ·exact HS.out.grown HG1.out (own_ne HO.out)
    ·exact HB.out.trans (yaY HG1.out (fun j hj=>Nat.le_trans (Nat.le_succ _) (World.ownsRow.lt HO.out j hj).1) HB.out.size)
   case measure=>
    obtain ⟨A2,c2,hv2,_⟩:=HO1.out.shape;have hlk:=HLK.out;rw [hv2]
    show zN L+1 - ((128::List.replicate k (0:Int))++[0]).length < zN L+1 - l1
    rw [List.length_append,List.length_cons,List.length_replicate];simp only [List.length_cons,List.length_nil];omega
