/- SHA-256 of the program: a block. -/
import Derived.Test.YtpdledjgbgalcaaGreatDoorMa
import Derived.Test.YtpdledjgbgalcaaGreatDoorMz
namespace Go.Proofs.YtpdledjgbgalcaaGreatDoor
set_option maxRecDepth 100000
set_option maxHeartbeats 8000000
open Go.RowKit
set_option linter.unusedVariables false
set_option linter.unusedSimpArgs false
abbrev U32:=Value.int .u32
theorem setCell_blk {w:World} {g i:Nat} {u:Value} {cs:Array Value} {t:TypeId} {fr:Nat × Nat} (hg:w.heap[g]? =some (.cells cs t fr)):(w.setCell ⟨g,i,none⟩ u).heap[g]? =some (.cells (cs.setIfInBounds i u) t fr):=by
 obtain ⟨hl,he⟩:=Array.getElem?_eq_some_iff.1 hg
 simp [World.setCell,Array.getElem?_modify,hg]
section
variable {w:World} {b i:Nat} {l:List Int} {rest:List Value} {f:Int→Value} {t:TypeId} {fr:Nat × Nat} {x:Int}
theorem arr_cell (h:w.heap[b]? =some (.cells (l.map f++rest).toArray t fr)) (hx:l[i]? =some x):w.cell? ⟨b,i,none⟩=some (f x):=by
 rw [cell_of_row w b i _ _ _ h,List.getElem?_toArray,List.getElem?_append_left (by rw [List.length_map];exact (List.getElem?_eq_some_iff.1 hx).1),List.getElem?_map,hx];rfl
theorem arr_set (h:w.heap[b]? =some (.cells (l.map f++rest).toArray t (0,0))) (hi:i < l.length):(w.setCell ⟨b,i,none⟩ (f x)).heap[b]? =some (.cells ((l.set i x).map f++rest).toArray t (0,0)):=by
 rw [setCell_blk h]
 simp only [List.setIfInBounds_toArray]
 rw [List.set_append_left _ _ (by rw [List.length_map];exact hi),List.map_set]
end
def stCells (v:W8) (buf:List Int) (n:Int):Array Value:=(v.list.map U32++(buf.map fB++[Value.int .i64 n])).toArray
abbrev oSt (v:W8) (buf:List Int) (n:Int):Obj:= .cells (stCells v buf n) 302
def KTab (w:World):Prop:=∀(i:Nat) (x:Int),kTab[i]? =some x→w.cell? ⟨1,i,none⟩=some (U32 x)
def zw (bs:List Int) (t:Nat):List Int:=sch bs t++List.replicate (64 - t) 0
theorem zw_len {bs:List Int} {t:Nat} (h:t≤64):(zw bs t).length=64:=by unfold zw;rw [List.length_append,sch_len,List.length_replicate];omega
theorem zw_get {bs:List Int} {t i:Nat} (h:i < t):(zw bs t)[i]? =some ((sch bs t).getD i 0):=by
 unfold zw
 rw [List.getElem?_append_left (by rw [sch_len];exact h),List.getElem?_eq_getElem (by rw [sch_len];exact h)]
 simp [List.getD,List.getElem?_eq_getElem (show i < (sch bs t).length by rw [sch_len];exact h)]
theorem zw_set {bs:List Int} {t:Nat} (h:t < 64):(zw bs t).set t (if t < 16 then wordAt bs t else nextW (sch bs t) t)=zw bs (t+1):=by
 unfold zw
 obtain ⟨k,hk⟩:∃k,64 - t=k+1:=⟨64 - t - 1,by omega⟩
 rw [hk,show 64 - (t+1)=k by omega,List.replicate_succ,List.set_append_right _ _ (by rw [sch_len];exact Nat.le_refl _),sch_len,Nat.sub_self,List.set_cons_zero]
 simp [sch]
theorem run_index_arr {P:Program} (t e n:Nat) (i:TypeInfo) (d:TypeDesc) (ht:P.underlying t=some (.array n e)) (he:P.underlying e=some d) (hd:(match d with | .struct _ | .array _ _=>true |_=>false)=false) (hi:P.info? e=some i) (hs:i.size=1)
 (cs:Array Value) (k:IntKind) (j:Nat) (v:Value) (hj:j < n) (hv:cs[j]? =some v) (w:World):(Instr.index t (.agg cs) (.int k (j:Int))).run P w= .ok v w:=by
 have hagg:(isAgg e).run P w= .ok false w:=by
  unfold isAgg
  rw [Sem.run_bind,run_underlying he w]
  cases d<;>simp_all
 simp [Instr.index,asIntOf,run_underlying ht,part,Sem.run_bind,hagg,sizeOf,typeInfo,hi,hs,hj,hv,Result.andThen]
theorem Tryz.infoU:(Tryz.prog.info? 250).map (fun i=>(i.zero,i.size,i.bytes))=some (some (.int .u32 0),1,4):=by kernel_rfl
def RndP (ws:List Int) (v:W8) (W:World) (xa xb xc xd xe xf xg xh i:Value) (w2:World):Prop:=
 ∃(t:Nat) (r:W8) (nd:Nat),t≤64∧r=rnds ws v t∧xa=U32 r.a∧xb=U32 r.b∧xc=U32 r.c∧xd=U32 r.d∧xe=U32 r.e∧xf=U32 r.f∧xg=U32 r.g∧xh=U32 r.h∧i= .int .i64 t∧w2=W.drewN nd
def SumP (g gw gv:Nat) (v r:W8) (buf:List Int) (n:Int) (w:World) (i:Value) (w3:World):Prop:=
 ∃j:Nat,j≤8∧i= .int .i64 j∧w3.heap[g]? =some (.cells ((((addW v r).list.take j++v.list.drop j).map U32)++(buf.map fB++[Value.int .i64 n])).toArray 302 (0,0))∧w3.heap[gv]? =some (.cells (v.list.map U32++[]).toArray 251 (0,0))∧But (fun k=>k=g) w w3
theorem sum_set (v r:W8) {j:Nat} {x y:Int} (hj:j < 8) (hx:r.list[j]? =some x) (hy:v.list[j]? =some y):((addW v r).list.take j++v.list.drop j).set j ((y+x) % 4294967296)=(addW v r).list.take (j+1)++v.list.drop (j+1):=by
 obtain ⟨a,b,c,d,e,f,g,h⟩:=v
 obtain ⟨a',b',c',d',e',f',g',h'⟩:=r
 rcases j with _ |_ |_ |_ |_ |_ |_ |_ |j
 all_goals first
  |(injection hx with hx;injection hy with hy;subst hx hy;rfl)
  |omega
theorem st_cells {w:World} {g:Nat} {v:W8} {buf:List Int} {n:Int} (h:w.heap[g]? =some (oSt v buf n)):w.cell? ⟨g,0,none⟩=some (U32 v.a)∧w.cell? ⟨g,1,none⟩=some (U32 v.b)∧w.cell? ⟨g,2,none⟩=some (U32 v.c)∧w.cell? ⟨g,3,none⟩=some (U32 v.d)∧w.cell? ⟨g,4,none⟩=some (U32 v.e)∧w.cell? ⟨g,5,none⟩=some (U32 v.f)∧w.cell? ⟨g,6,none⟩=some (U32 v.g)∧w.cell? ⟨g,7,none⟩=some (U32 v.h):=
 ⟨arr_cell h rfl,arr_cell h rfl,arr_cell h rfl,arr_cell h rfl,arr_cell h rfl,arr_cell h rfl,arr_cell h rfl,arr_cell h rfl⟩
theorem process_any (g:Nat) (v:W8) (buf:List Int) (n:Int) (A:Option Addr) (c B:Nat) (bs:List Int) (w:World) (hg:w.heap[g]? =some (oSt v buf n)) (hb:Sl fB w B A 64 bs) (hB:B≤w.heap.size) (hr:∀x∈bs,0≤x∧x < 256) (hc:64≤c) (hk:KTab w) (hkl:1 < w.heap.size) (hg1:g≠1) (hv:W8ok v):
 Calls Tryz.prog 242 #[.pointer (some ⟨g,0,none⟩),.slice A 64 c] w fun e w'=>e= .returned (.tuple #[])∧w'.heap[g]? =some (oSt (blk v bs) buf n)∧But (fun k=>k=g) w w':=by
 obtain ⟨b,off,_,rfl,hbB,_,_⟩:=hb.2.at_ (k:=0) (by rw [hb.1];omega)
 have HG:=Lib.hid hg
 have HBS:=Lib.hid hb
 have HR:=Lib.hid hr
 have HK:=Lib.hid hk
 have HKL:=Lib.hid hkl
 have HGL:=Lib.hid (lt_of_block hg)
 have HBL:Hid (b < w.heap.size):=Nat.lt_of_lt_of_le hbB hB
 have HVO:=Lib.hid hv
 have HW0:Hid ((w.alloc (.cells (((zw bs 0).map U32)++[]).toArray 293)).heap[w.heap.size]? =some (.cells (((zw bs 0).map U32)++[]).toArray 293 (0,0))):=heap_alloc_new w _
 clear hg hb hr hk hkl hv
 go_enter Tryz.func242,Tryz.ntmps242
 go_wp2_with fail
 go_loopw [27] (fun i wr=>∃t:Nat,t≤64∧i= .int .i64 t∧Hid (wr.heap[w.heap.size]? =some (.cells ((zw bs t).map U32++[]).toArray 293 (0,0)))∧Hid (But (fun k=>k=w.heap.size) w wr)) (fun i _=>64 - (intOf i).toNat)
 case atStart=>exact ⟨0,by omega,rfl,HW0,(But.refl _ _).alloc _⟩
 case round=>
  obtain ⟨t,ht,rfl,HW,HBt⟩:=hrel
  by_cases hlt:t < 64
  ·by_cases h16:t < 16
   ·
    have h4:4*t+4 - 4*t=4:=by omega
    have hbx:∀k,k < 64→wr.cell? ⟨b,off+k,none⟩=some (fB (bs.getD k 0))∧0≤bs.getD k 0∧bs.getD k 0 < 256:=fun k hk=>by
     obtain ⟨x,hx⟩:=get_ex (xs:=bs) (k:=k) (by rw [HBS.out.1];exact hk)
     obtain ⟨b',off',e,_,hc'⟩:=HBS.out.2 (by rw [HBS.out.1];omega)
     cases e
     rw [getD_of hx]
     exact ⟨(World.cell?_of_block (w:=w) (HBt.out.block b HBL.out (Nat.ne_of_lt HBL.out))).trans (hc' k x hx),HR.out x (List.mem_of_getElem? hx)⟩
    have hx0:=hbx (4*t) (by omega)
    have hx1:=hbx (4*t+1) (by omega)
    have hx2:=hbx (4*t+2) (by omega)
    have hx3:=hbx (4*t+3) (by omega)
    have HT:Hid (∀y0 y1 y2 y3:Int,bs.getD (4*t) 0=y0→bs.getD (4*t+1) 0=y1→bs.getD (4*t+2) 0=y2→bs.getD (4*t+3) 0=y3→(zw bs t).set t (word4 y0 y1 y2 y3)=zw bs (t+1)):=by
     rintro y0 y1 y2 y3 rfl rfl rfl rfl
     have h9:=zw_set (bs:=bs) hlt
     rw [if_pos h16] at h9
     exact h9
    obtain ⟨y0,hy0⟩:∃y,bs.getD (4*t) 0=y:=⟨_,rfl⟩
    obtain ⟨y1,hy1⟩:∃y,bs.getD (4*t+1) 0=y:=⟨_,rfl⟩
    obtain ⟨y2,hy2⟩:∃y,bs.getD (4*t+2) 0=y:=⟨_,rfl⟩
    obtain ⟨y3,hy3⟩:∃y,bs.getD (4*t+3) 0=y:=⟨_,rfl⟩
    have HT2:=Lib.hid (HT.out y0 y1 y2 y3 hy0 hy1 hy2 hy3)
    rw [hy0] at hx0
    rw [hy1,←Nat.add_assoc] at hx1
    rw [hy2,←Nat.add_assoc] at hx2
    rw [hy3,←Nat.add_assoc] at hx3
    obtain ⟨c0,l0,u0⟩:=hx0
    obtain ⟨c1,l1,u1⟩:=hx1
    obtain ⟨c2,l2,u2⟩:=hx2
    obtain ⟨c3,l3,u3⟩:=hx3
    obtain ⟨z,hz⟩:=get_ex (xs:=zw bs t) (k:=t) (by rw [zw_len ht];exact hlt)
    have hcw:=arr_cell HW.out hz
    have hfw:=frozen_of_row wr w.heap.size t _ _ HW.out
    clear hbx hy0 hy1 hy2 hy3 hz HT
    go_wp2
    go_still_tail 24,(by kernel_rfl)
    repeat still_step
    try refine wpStill_nil ?_
    change wpList _ _ _ _ _ wr.drew
    go_wp2
    go_roundw
    case rel=>exact ⟨t+1,by omega,by go_num,by
     show _=_
     rw [←HT2.out]
     exact arr_set (w:=wr.drew) HW.out (by rw [zw_len ht];exact hlt),(HBt.out.drewN 1).setCell (.inl rfl) _⟩
    case measure=>simp [intOf];omega
   ·
    obtain ⟨p2,e2⟩:∃p,p=t - 2:=⟨_,rfl⟩
    obtain ⟨p7,e7⟩:∃p,p=t - 7:=⟨_,rfl⟩
    obtain ⟨p15,e15⟩:∃p,p=t - 15:=⟨_,rfl⟩
    obtain ⟨p16,e16⟩:∃p,p=t - 16:=⟨_,rfl⟩
    have hz14:=arr_cell HW.out (zw_get (bs:=bs) (t:=t) (i:=p2) (by omega))
    have hz9:=arr_cell HW.out (zw_get (bs:=bs) (t:=t) (i:=p7) (by omega))
    have hz1:=arr_cell HW.out (zw_get (bs:=bs) (t:=t) (i:=p15) (by omega))
    have hz0:=arr_cell HW.out (zw_get (bs:=bs) (t:=t) (i:=p16) (by omega))
    have HT:Hid (∀y14 y9 y1 y0:Int,(sch bs t).getD p2 0=y14→(sch bs t).getD p7 0=y9→(sch bs t).getD p15 0=y1→(sch bs t).getD p16 0=y0→(zw bs t).set t (ad (ad (ad (sgB y14) y9) (sgA y1)) y0)=zw bs (t+1)):=by
     rintro _ _ _ _ rfl rfl rfl rfl
     have h9:=zw_set (bs:=bs) hlt
     rw [if_neg h16] at h9
     subst e2 e7 e15 e16
     exact h9
    obtain ⟨l14,u14⟩:=sch_getD bs t p2
    obtain ⟨l9,u9⟩:=sch_getD bs t p7
    obtain ⟨l1,u1⟩:=sch_getD bs t p15
    obtain ⟨l0,u0⟩:=sch_getD bs t p16
    obtain ⟨x14,hx14⟩:∃x,(sch bs t).getD p2 0=x:=⟨_,rfl⟩
    obtain ⟨x9,hx9⟩:∃x,(sch bs t).getD p7 0=x:=⟨_,rfl⟩
    obtain ⟨x1,hx1⟩:∃x,(sch bs t).getD p15 0=x:=⟨_,rfl⟩
    obtain ⟨x0,hx0⟩:∃x,(sch bs t).getD p16 0=x:=⟨_,rfl⟩
    have HT2:=Lib.hid (HT.out x14 x9 x1 x0 hx14 hx9 hx1 hx0)
    rw [hx14] at hz14 l14 u14
    rw [hx9] at hz9 l9 u9
    rw [hx1] at hz1 l1 u1
    rw [hx0] at hz0 l0 u0
    have w2:IntKind.i64.wrap ((t:Int) - 2)=(p2:Int):=by rw [IntWalk.i64_in _ (by omega)];omega
    have w7:IntKind.i64.wrap ((t:Int) - 7)=(p7:Int):=by rw [IntWalk.i64_in _ (by omega)];omega
    have w15:IntKind.i64.wrap ((t:Int) - 15)=(p15:Int):=by rw [IntWalk.i64_in _ (by omega)];omega
    have w16:IntKind.i64.wrap ((t:Int) - 16)=(p16:Int):=by rw [IntWalk.i64_in _ (by omega)];omega
    have q2:(p2:Int) < 64:=by omega
    have q7:(p7:Int) < 64:=by omega
    have q15:(p15:Int) < 64:=by omega
    have q16:(p16:Int) < 64:=by omega
    clear e2 e7 e15 e16
    obtain ⟨z,hz⟩:=get_ex (xs:=zw bs t) (k:=t) (by rw [zw_len ht];exact hlt)
    have hcw:=arr_cell HW.out hz
    have hfw:=frozen_of_row wr w.heap.size t _ _ HW.out
    clear hx14 hx9 hx1 hx0 HT hz
    go_wp2
    go_quiet (fail)
    go_wp2_with (first
     |(go_at_call 262;(with_reducible (refine (rotl_any x14 17 (-17) _ rfl (by decide) (by decide) l14 u14).mono ?_));rintro e w6 ⟨rfl,rfl⟩)
     |(go_at_call 262;(with_reducible (refine (rotl_any x14 19 (-19) _ rfl (by decide) (by decide) l14 u14).mono ?_));rintro e w6 ⟨rfl,rfl⟩)
     |(go_at_call 262;(with_reducible (refine (rotl_any x1 7 (-7) _ rfl (by decide) (by decide) l1 u1).mono ?_));rintro e w6 ⟨rfl,rfl⟩)
     |(go_at_call 262;(with_reducible (refine (rotl_any x1 18 (-18) _ rfl (by decide) (by decide) l1 u1).mono ?_));rintro e w6 ⟨rfl,rfl⟩))
    generalize hW:World.drewN wr _=W
    replace hz9:W.cell? ⟨w.heap.size,p7,none⟩=some (U32 x9):=by rw [←hW];exact hz9
    replace hz0:W.cell? ⟨w.heap.size,p16,none⟩=some (U32 x0):=by rw [←hW];exact hz0
    replace hcw:W.cell? ⟨w.heap.size,t,none⟩=some (U32 z):=by rw [←hW];exact hcw
    replace HW:Hid (W.heap[w.heap.size]? =some (.cells ((zw bs t).map U32++[]).toArray 293 (0,0))):=by rw [←hW];exact HW
    replace hfw:=frozen_of_row W w.heap.size t _ _ HW.out
    replace HBt:Hid (But (fun k=>k=w.heap.size) w W):=by rw [←hW];exact HBt.out.drewN _
    clear hW hz14 hz1
    go_still_tail 15,(by kernel_rfl)
    repeat still_step
    try refine wpStill_nil ?_
    change wpList _ _ _ _ _ W.drew
    go_wp2
    go_roundw
    case rel=>exact ⟨t+1,by omega,by go_num,by
     show _=_
     rw [←HT2.out,show ad (ad (ad (sgB x14) x9) (sgA x1)) x0=(sgB x14+x9+sgA x1+x0) % 4294967296 by unfold ad;omega]
     exact arr_set (w:=W) (x:=(sgB x14+x9+sgA x1+x0) % 4294967296) HW.out (by rw [zw_len ht];exact hlt),(HBt.out.setCell (.inl rfl) _).drewN 1⟩
    case measure=>simp [intOf];omega
  ·
   obtain rfl:t=64:=by omega
   have HGr:Hid (wr.heap[g]? =some (oSt v buf n)):=(HBt.out.block g HGL.out (Nat.ne_of_lt HGL.out)).trans HG.out
   obtain ⟨c0,c1,c2,c3,c4,c5,c6,c7⟩:=st_cells HGr.out
   have HKr:Hid (KTab wr):=fun i x hx=>(World.cell?_of_block (w:=w) (HBt.out.block 1 HKL.out (Nat.ne_of_lt HKL.out))).trans (HK.out i x hx)
   go_wp2
   go_quiet (fail)
   generalize hW:World.drewN (wr.alloc _) _=W
   have HV:Hid (W.heap[wr.heap.size]? =some (.cells #[U32 v.a,U32 v.b,U32 v.c,U32 v.d,U32 v.e,U32 v.f,U32 v.g,U32 v.h] 251 (0,0))):=by
    show _=_
    rw [←hW];exact heap_alloc_new wr _
   have HBw:Hid (But (fun k=>k=w.heap.size) w W):=by
    show But _ _ _
    rw [←hW];exact (HBt.out.alloc _).drewN _
   have HSz:Hid (wr.heap.size < W.heap.size):=lt_of_block HV.out
   have HWw:Hid (W.heap[w.heap.size]? =some (.cells ((zw bs 64).map U32++[]).toArray 293 (0,0))):=by
    show _=_
    rw [←hW];exact (Below.heap_alloc wr _ _ (lt_of_block HW.out)).trans HW.out
   have HW1:Hid (W.heap[1]? =wr.heap[1]?):=by
    show _=_
    rw [←hW];exact Below.heap_alloc wr _ 1 (Nat.lt_of_lt_of_le HKL.out HBt.out.size)
   clear hW c0 c1 c2 c3 c4 c5 c6 c7
   go_wp2
   go_loopw [12,13,14,15,16,17,18,19,123] (fun xa xb xc xd xe xf xg xh i w2=>RndP (sch bs 64) v W xa xb xc xd xe xf xg xh i w2) (fun _ _ _ _ _ _ _ _ i _=>64 - (intOf i).toNat)
   case atStart=>exact ⟨0,v,0,by omega,rfl,rfl,rfl,rfl,rfl,rfl,rfl,rfl,rfl,rfl,rfl⟩
   case round=>
    obtain ⟨t,r,nd,ht,HRr,rfl,rfl,rfl,rfl,rfl,rfl,rfl,rfl,rfl,rfl⟩:=hrel
    by_cases hlt:t < 64
    ·
     have HOr:Hid (W8ok r):=by rw [HRr];exact HVO.out.rnds _ _
     have hre:=HOr.out.e
     have hra:=HOr.out.a
     obtain ⟨xk,hxk⟩:=get_ex (xs:=kTab) (k:=t) hlt
     obtain ⟨W2,hW2⟩:∃W2,W2=World.drewN W nd:=⟨_,rfl⟩
     have HKc:=HKr.out t xk hxk
     replace HKc:W2.cell? ⟨1,t,none⟩=some (U32 xk):=by rw [hW2];exact (World.cell?_of_block (w:=wr) (HW1.out)).trans HKc
     have HWc:=arr_cell HWw.out (zw_get (bs:=bs) (t:=64) (i:=t) (by omega))
     obtain ⟨xw,hxw⟩:∃x,(sch bs 64).getD t 0=x:=⟨_,rfl⟩
     rw [hxw] at HWc
     replace HWc:W2.cell? ⟨w.heap.size,t,none⟩=some (U32 xw):=by rw [hW2];exact HWc
     rw [←hW2]
     replace hW2:=Lib.hid hW2
     have HR1:Hid (rnds (sch bs 64) v (t+1)=rnd r xk xw):=by
      show _=_
      rw [rnds,←HRr,hxw,getD_of hxk]
     have HA:=Lib.hid (rnd_a r xk xw)
     have HE:=Lib.hid (rnd_e r xk xw)
     have HRr':=Lib.hid HRr
     clear HRr hxw hxk
     obtain ⟨ra,rb,rc,rd,re,rf,rg,rh⟩:=r
     have hq:(t:Int) < 64:=by omega
     go_wp2_with (first
      |(go_at_call 262;(with_reducible (refine (rotl_any re 6 (-6) _ rfl (by decide) (by decide) hre.1 hre.2).mono ?_));rintro e w6 ⟨rfl,rfl⟩)
      |(go_at_call 262;(with_reducible (refine (rotl_any re 11 (-11) _ rfl (by decide) (by decide) hre.1 hre.2).mono ?_));rintro e w6 ⟨rfl,rfl⟩)
      |(go_at_call 262;(with_reducible (refine (rotl_any re 25 (-25) _ rfl (by decide) (by decide) hre.1 hre.2).mono ?_));rintro e w6 ⟨rfl,rfl⟩)
      |(go_at_call 262;(with_reducible (refine (rotl_any ra 2 (-2) _ rfl (by decide) (by decide) hra.1 hra.2).mono ?_));rintro e w6 ⟨rfl,rfl⟩)
      |(go_at_call 262;(with_reducible (refine (rotl_any ra 13 (-13) _ rfl (by decide) (by decide) hra.1 hra.2).mono ?_));rintro e w6 ⟨rfl,rfl⟩)
      |(go_at_call 262;(with_reducible (refine (rotl_any ra 22 (-22) _ rfl (by decide) (by decide) hra.1 hra.2).mono ?_));rintro e w6 ⟨rfl,rfl⟩))
     go_quiet (fail)
     generalize hT:(HMod.hMod (HAdd.hAdd _ xw) 4294967296:Int)=t1
     generalize hS:(bits BinOp.xor IntKind.u32 (bits BinOp.xor IntKind.u32 (ror 2 ra) _) _)=s0
     generalize hS2:(bits BinOp.xor IntKind.u32 (bits BinOp.xor IntKind.u32 (ror 6 re) _) _)=s1
     generalize hW3:World.drewN W2 _=W3
     have HT:=Lib.hid hT
     have HS:=Lib.hid hS
     have HS2:=Lib.hid hS2
     have HW3:=Lib.hid hW3
     clear hT hS hS2 hW3
     go_wp
     refine ⟨⟨_,_,_,_,_,_,_,_,_,_,_,_,_,_,_,_,_,_,_,_,_,_,_,_,_,_,_,_,_,_,_,_,_,_,_,_,_,_,_,_,_,_,_,_,_,_,_,_,_,_,_,_,_,_,_,_,_,_,_,_,_,_,_,_,_,_,_,_,_,_,_,_,_,_,_,_,_,_,?rel,rfl⟩,?measure⟩
     case rel=>
      have e1:t1=(rh+sgC re+chX re rf rg+xk+xw) % 4294967296:=by rw [←HT.out];exact t1_fold ..
      refine ⟨t+1,rnds (sch bs 64) v (t+1),nd+_,by omega,rfl,?_,?_,?_,?_,?_,?_,?_,?_,by go_num,(HW3.out.symm.trans (by rw [hW2.out])).trans (World.drewN_drewN ..)⟩
      all_goals rw [HR1.out]
      ·rw [HA.out]
       refine congrArg U32 ?_
       show (t1+(s0+majX ra rb rc) % 4294967296) % 4294967296=_
       rw [e1,←HS.out]
       show ((rh+sgC re+chX re rf rg+xk+xw) % 4294967296+(sgD ra+majX ra rb rc) % 4294967296) % 4294967296=((rh+sgC re+chX re rf rg+xk+xw)+(sgD ra+majX ra rb rc)) % 4294967296
       omega
      ·rfl
      ·rfl
      ·rfl
      ·rw [HE.out]
       refine congrArg U32 ?_
       rw [e1]
       show (rd+(rh+sgC re+chX re rf rg+xk+xw) % 4294967296) % 4294967296=(rd+(rh+sgC re+chX re rf rg+xk+xw)) % 4294967296
       omega
      ·rfl
      ·rfl
      ·rfl
     case measure=>
      show 64 - ((t:Int)+1).toNat < 64 - (t:Int).toNat
      omega
    ·
     obtain rfl:t=64:=by omega
     have HBr:Hid (r=rnds (sch bs 64) v 64):=HRr
     clear HRr
     have HGW:Hid (W.heap[g]? =some (oSt v buf n)):=(HBw.out.block g HGL.out (Nat.ne_of_lt HGL.out)).trans HG.out
     obtain ⟨ra,rb,rc,rd,re,rf,rg,rh⟩:=r
     go_wp2
     go_loopw [197] (fun i w3=>SumP g w.heap.size wr.heap.size v ⟨ra,rb,rc,rd,re,rf,rg,rh⟩ buf n w i w3) (fun i _=>8 - (intOf i).toNat)
     case atStart=>exact ⟨0,by omega,rfl,HGW.out,HV.out,(HBw.out.drewN nd).mono fun k hk=> .inr (by rw [hk];exact Nat.le_refl _)⟩
     case round=>
      obtain ⟨j,hj,rfl,HG4,HV4,HB4⟩:=hrel
      replace HG4:=Lib.hid HG4
      replace HV4:=Lib.hid HV4
      replace HB4:=Lib.hid HB4
      by_cases hj8:j < 8
      ·obtain ⟨y,hy⟩:=get_ex (xs:=v.list) (k:=j) hj8
       obtain ⟨x,hx⟩:=get_ex (xs:=(W8.mk ra rb rc rd re rf rg rh).list) (k:=j) hj8
       have hcv:=arr_cell HV4.out hy
       have hix:(#[U32 ra,U32 rb,U32 rc,U32 rd,U32 re,U32 rf,U32 rg,U32 rh]:Array Value)[j]? =some (U32 x):=by
        have:=congrArg (Option.map U32) hx
        rw [←List.getElem?_map] at this
        rw [List.getElem?_toArray]
        exact this
       obtain ⟨iU,hU0,_,hU1,_⟩:=info_parts Tryz.infoU
       have hiw:=fun W=>run_index_arr (P:=Tryz.prog) 251 250 8 iU _ Tryz.underlying251 Tryz.underlying250 rfl hU0 hU1 #[U32 ra,U32 rb,U32 rc,U32 rd,U32 re,U32 rf,U32 rg,U32 rh] .i64 j (U32 x) hj8 hix W
       clear hix
       have hl4:j < (((addW v ⟨ra,rb,rc,rd,re,rf,rg,rh⟩).list.take j++v.list.drop j)).length:=by
        rw [List.length_append,List.length_take,List.length_drop];show j < min j 8+(8 - j);omega
       obtain ⟨z,hz⟩:=get_ex hl4
       have hcg:=arr_cell HG4.out hz
       have hfg:=frozen_of_row wr g j _ _ HG4.out
       have hj':(j:Int) < 8:=by omega
       have HST:=Lib.hid (sum_set v ⟨ra,rb,rc,rd,re,rf,rg,rh⟩ hj8 hx hy)
       clear hy hx hz
       go_wp2
       go_still_tail 10,(by kernel_rfl)
       repeat still_step
       try refine wpStill_nil ?_
       change wpList _ _ _ _ _ wr.drew
       go_wp2
       refine ⟨⟨_,_,_,_,_,_,_,_,_,_,_,_,_,_,_,_,_,?rel,rfl⟩,?measure⟩
       case rel=>
        refine ⟨j+1,by omega,by go_num,?_,?_,?_⟩
        ·rw [←HST.out]
         exact arr_set HG4.out hl4
        ·exact (Below.heap_setCell wr ⟨g,j,none⟩ (U32 ((y+x) % 4294967296)) _ (Nat.ne_of_gt (Nat.lt_of_lt_of_le HGL.out HBt.out.size))).trans HV4.out
        ·exact (HB4.out.setCell (.inl rfl) _).drewN 1
       case measure=>
        show 8 - ((j:Int)+1).toNat < 8 - (j:Int).toNat
        omega
      ·obtain rfl:j=8:=by omega
       go_wp2
       go_end0
       refine ⟨rfl,?_,HB4.out⟩
       have he:blk v bs=addW v ⟨ra,rb,rc,rd,re,rf,rg,rh⟩:=by unfold blk;rw [HBr.out]
       rw [he]
       exact HG4.out
