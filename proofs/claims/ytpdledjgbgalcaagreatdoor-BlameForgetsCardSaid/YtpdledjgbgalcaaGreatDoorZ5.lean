/- SHA-256 of the reference: a block. -/
import Derived.Test.YtpdledjgbgalcaaGreatDoorZ4
namespace Go.Proofs.YtpdledjgbgalcaaGreatDoor
set_option maxRecDepth 100000
set_option maxHeartbeats 8000000
open Go.RowKit
set_option linter.unusedVariables false
set_option linter.unusedSimpArgs false
theorem yaZ {P:Program} {w:World} {ops:Array Oper} {rest:List Oper} {o:Oper} {a:Act} {Q:Exit→Act→World→Prop} (hgd:o.guard=none) (ty:TypeId) (x y:Operand) (ho:o.op= .store ty x y)
 (g:Nat) (t:TypeId) (old cells:Array Value) (hx:a.eval x= .pointer (some ⟨g,0,none⟩)) (hy:a.eval y= .agg cells) (hg:w.heap[g]? =some (.cells old t (0,0))) (hi:(P.info? ty).map (·.size)=some cells.size)
 (hs:old.size=cells.size) (h1:cells.all (·.oneCell')=true)
 (h:∀w',Hid (w'.heap[g]? =some (.cells cells t (0,0)))→Hid (But (fun k=>k=g) w w')→wpList P ops Q rest (a.put o.dst undef) w'):wpList P ops Q (o::rest) a w:=by
 refine wpList_store_row hgd ty x y ho g cells hx hy t old hg hi hs h1 ?_;exact h _ (setRow_heap w g _ _ t _ hg) ⟨rfl,rfl,rfl,by simp [World.setRow],fun k _ hk=>setRow_other w g k cells hk⟩
theorem u32_one (l:List Int):((l.map U32).toArray).all (·.oneCell')=true:=by
 rw [Array.all_eq_true'];intro x hx;have hx':x∈l.map U32:=by simpa using hx
 obtain ⟨y,_,rfl⟩:=List.mem_map.1 hx';rfl
theorem Tryz.size8:(Tryz.prog.info? 251).map (·.size)=some 8:=by kernel_rfl
theorem ya6 {P:Program} {ops:Array Oper} {rest:List Oper} {o:Oper} {a:Act} {w:World} {Q:Exit→Act→World→Prop} (hg:o.guard=none) (t:TypeId) (parts:Array (Nat × Operand)) (ho:o.op= .build t parts) (cells:Array Value)
 (hf:P.built t (parts.map fun (i,x)=>(i,a.eval x)).toList=some cells)
 (h:wpList P ops Q rest (a.put o.dst (.agg cells)) w):wpList P ops Q (o::rest) a w:=
 wpList_build hg t parts ho (by rw [hf];rfl) (by rw [hf];exact h)
def kParts:Array (Nat × Operand):=(kTab.zipIdx.map fun (x,i)=>(i,Operand.const (U32 x))).toArray
def kArr:Array Value:=(kTab.map U32).toArray
theorem kBuilt (a:Act):Tryz.prog.built 293 (kParts.map fun (i,x)=>(i,a.eval x)).toList=some kArr:=by kernel_rfl
theorem kArr_size:(Tryz.prog.info? 293).map (·.size)=some kArr.size:=by kernel_rfl
theorem kArr_one:kArr.all (·.oneCell')=true:=u32_one _
theorem constants_any (w:World):Calls Tryz.prog 234 #[] w fun e w'=>e= .returned (.agg kArr)∧Below w.heap.size w w':=by
 go_enter Tryz.func234,Tryz.ntmps234
 go_wp2_with (first
  |(with_reducible refine ya6 (o:=⟨some 1,_,_,_,_,_⟩) rfl 293 kParts yaV kArr (kBuilt _) ?_)
  |(with_reducible refine ya3 (o:=⟨none,_,_,_,_,_⟩) rfl 293 (.tmp 0) (.tmp 1) rfl 293 _ kArr rfl rfl kArr_size yaV kArr_one ?_))
 exact bodyPost_ret (results_cell_row rfl _ _ _ _ _ _ _ rfl (heap_alloc_new w _) Tryz.underlying293 rfl kArr_size) rfl ⟨rfl,bl⟩
def vArr (v:W8):Array Value:=(v.list.map U32).toArray
theorem karr_cell {w:World} {g i:Nat} {t:TypeId} {fr:Nat × Nat} {x:Int} (h:w.heap[g]? =some (.cells kArr t fr)) (hx:kTab[i]? =some x):w.cell? ⟨g,i,none⟩=some (U32 x):=by
 rw [cell_of_row w g i _ _ _ h];unfold kArr;rw [List.getElem?_toArray,List.getElem?_map,hx];rfl
theorem ybh {w:World} {g i:Nat} {t:TypeId} {fr:Nat × Nat} {x:Int} {v:W8} (h:w.heap[g]? =some (.cells (vArr v) t fr)) (hx:v.list[i]? =some x):w.cell? ⟨g,i,none⟩=some (U32 x):=by
 rw [cell_of_row w g i _ _ _ h];unfold vArr;rw [List.getElem?_toArray,List.getElem?_map,hx];rfl
def RwP (g:Nat) (bs:List Int) (lo hi:Nat) (W:World) (i:Value) (wr:World):Prop:=
 ∃t:Nat,lo≤t∧t≤hi∧i= .int .i64 t∧Hid (wr.heap[g]? =some (.cells ((zw bs t).map U32++[]).toArray 293 (0,0)))∧Hid (But (fun k=>k=g) W wr)
def RrP (g:Nat) (bs:List Int) (v:W8) (W:World) (i:Value) (wr:World):Prop:=
 ∃(t:Nat) (r:W8),t≤64∧r=rnds (sch bs 64) v t∧i= .int .i64 t∧Hid (wr.heap[g]? =some (.cells (vArr r) 251 (0,0)))∧Hid (But (fun k=>k=g) W wr)
def RsP (g:Nat) (v r:W8) (W:World) (i:Value) (wr:World):Prop:=
 ∃j:Nat,j≤8∧i= .int .i64 j∧Hid (wr.heap[g]? =some (.cells (((addW v r).list.take j++r.list.drop j).map U32++[]).toArray 251 (0,0)))∧Hid (But (fun k=>k=g) W wr)
theorem ydC (v:W8):(vArr v).all (·.oneCell')=true:=u32_one _
theorem ybX (v:W8):(Tryz.prog.info? 251).map (·.size)=some (vArr v).size:=Tryz.size8
theorem arr8_one (a b c d e f g h:Int):(#[U32 a,U32 b,U32 c,U32 d,U32 e,U32 f,U32 g,U32 h]:Array Value).all (·.oneCell')=true:=u32_one [a,b,c,d,e,f,g,h]
theorem vArr_sz (v:W8) (a b c d e f g h:Int):(vArr v).size=(#[U32 a,U32 b,U32 c,U32 d,U32 e,U32 f,U32 g,U32 h]:Array Value).size:=rfl
theorem arr8_size (a b c d e f g h:Int):(Tryz.prog.info? 251).map (·.size)=some (#[U32 a,U32 b,U32 c,U32 d,U32 e,U32 f,U32 g,U32 h]:Array Value).size:=Tryz.size8
theorem sum_setr (v r:W8) {j:Nat} {x y:Int} (hj:j < 8) (hx:r.list[j]? =some x) (hy:v.list[j]? =some y):((addW v r).list.take j++r.list.drop j).set j ((x+y) % 4294967296)=(addW v r).list.take (j+1)++r.list.drop (j+1):=by
 rw [Int.add_comm];obtain ⟨a,b,c,d,e,f,g,h⟩:=v;obtain ⟨a',b',c',d',e',f',g',h'⟩:=r;rcases j with _ |_ |_ |_ |_ |_ |_ |_ |j
 all_goals first
  |(injection hx with hx;injection hy with hy;subst hx hy;rfl)
  |omega
def zParts:Array (Nat × Operand):=#[]
def zArr:Array Value:=((zw [] 0).map U32++[]).toArray
theorem zBuilt (a:Act):Tryz.prog.built 293 (zParts.map fun (i,x)=>(i,a.eval x)).toList=some zArr:=by kernel_rfl
theorem zArr_size:(Tryz.prog.info? 293).map (·.size)=some zArr.size:=by kernel_rfl
theorem zArr_one:zArr.all (·.oneCell')=true:=by kernel_rfl
theorem rblock_any (v:W8) (A:Option Addr) (c B:Nat) (bs:List Int) (w:World) (hv:W8ok v) (hb:Sl fB w B A 64 bs) (hB:B≤w.heap.size) (hr:Byt bs):
 Calls Tryz.prog 182 #[.agg (vArr v),.slice A 64 c] w fun e w'=>e= .returned (.agg (vArr (blk v bs)))∧Below w.heap.size w w':=by
 obtain ⟨b,off,_,rfl,hbB,_,_⟩:=hb.2.at_ (k:=0) (by rw [hb.1];omega);have HBS:=lh hb;have HR:=lh hr;have HBL:Hid (b < w.heap.size):=Nat.lt_of_lt_of_le hbB hB;have HVO:=lh hv;clear hb hr hv;go_enter Tryz.func182,Tryz.ntmps182
 go_upto_region 2 with (first
  |(go_at_call 234;(refine (constants_any _).mono ?_);rintro e w1 ⟨rfl,hb1⟩
    have HB1:=lh hb1
    clear hb1)
  |(with_reducible refine ya3 (o:=⟨none,_,_,_,_,_⟩) rfl 293 (.tmp 5) (.tmp 22) rfl 293 _ kArr rfl rfl kArr_size yaV kArr_one ?_))
 obtain ⟨gk,hgk⟩:∃n,n=w1.heap.size:=⟨_,rfl⟩
 have HGk:Hid (w.heap.size+1 < gk):=by
  show _ < _
  rw [hgk]
  have:=HB1.out.size
  simp at this;omega
 have HB1w:Hid (Below w.heap.size w w1):=(bl.alloc sI _).trans (HB1.out.mono yaW);have HHb:Hid (w1.heap[w.heap.size]? =some (.cells (vArr v) 251 (0,0))):=(HB1.out.block w.heap.size yaW).trans ((Below.heap_alloc _ _ _ sI).trans (heap_alloc_new w _));have HRb:Hid (w1.heap[w.heap.size+1]? =some (.cells #[U32 0,U32 0,U32 0,U32 0,U32 0,U32 0,U32 0,U32 0] 251 (0,0))):=(HB1.out.block (w.heap.size+1) sI).trans (heap_alloc2_new w _ _);generalize hW0:w1.alloc (.cells kArr 293)=W0;rw [←hgk];obtain ⟨gw,hgw⟩:∃n,n=W0.heap.size:=⟨_,rfl⟩
 have HGW1:Hid (gw=gk+1):=by show _=_;rw [hgw,←hW0,hgk];simp
 have HB0:Hid (Below gk w1 W0):=by show Below ..;rw [←hW0,hgk];exact bl
 have HKb:Hid (W0.heap[gk]? =some (.cells kArr 293 (0,0))):=by show _=_;rw [←hW0,hgk];exact heap_alloc_new w1 _
 have HgkE:=lh hgk;have HgwE:=lh hgw;clear hW0 hgk hgw
 go_upto_region 4 with (first
  |(with_reducible refine ya6 (o:=⟨some 23,_,_,_,_,_⟩) rfl 293 zParts yaV zArr (zBuilt _) ?_)
  |(with_reducible refine ya3 (o:=⟨none,_,_,_,_,_⟩) rfl 293 (.tmp 6) (.tmp 23) rfl 293 _ zArr rfl rfl zArr_size yaV zArr_one ?_))
 rw [←HgwE.out];generalize hW1:W0.alloc (.cells zArr 293)=W1;have HB2:Hid (Below gw W0 W1):=by show Below ..;rw [←hW1,HgwE.out];exact bl
 have HZ1:Hid (W1.heap[gw]? =some (.cells ((zw bs 0).map U32++[]).toArray 293 (0,0))):=by show _=_;rw [←hW1,HgwE.out];exact heap_alloc_new W0 _
 have HKb1:Hid (W1.heap[gk]? =some (.cells kArr 293 (0,0))):=(HB2.out.block gk (by have:=HGW1.out;omega)).trans HKb.out;have HGW:Hid (w.heap.size+2 < gw):=by have:=HGk.out;have:=HGW1.out;show _ < _;omega
 have HBW:Hid (Below w.heap.size w W1):=HB1w.out.trans ((HB0.out.mono (by have:=HGk.out;omega)).trans (HB2.out.mono (by have:=HGW.out;omega)));have HHb1:Hid (W1.heap[w.heap.size]? =some (.cells (vArr v) 251 (0,0))):=((HB2.out.block _ (by have:=HGW.out;omega)).trans (HB0.out.block _ (by have:=HGk.out;omega))).trans HHb.out;have HRb1:Hid (W1.heap[w.heap.size+1]? =some (.cells #[U32 0,U32 0,U32 0,U32 0,U32 0,U32 0,U32 0,U32 0] 251 (0,0))):=((HB2.out.block _ (by have:=HGW.out;omega)).trans (HB0.out.block _ (by have:=HGk.out;omega))).trans HRb.out;clear hW1 HHb HRb HKb
 go_loopw [7] (fun i wr=>RwP gw bs 0 16 W1 i wr) (fun i _=>16 - (intOf i).toNat)
 case atStart=>exact ⟨0,by omega,by omega,rfl,HZ1,But.refl _ _⟩
 case round=>
  obtain ⟨t,hlo,ht,rfl,HZ,HBt⟩:=hrel
  by_cases h16:t < 16
  ·
   have hbx:∀k,k < 64→wr.cell? ⟨b,off+k,none⟩=some (fB (bs.getD k 0))∧0≤bs.getD k 0∧bs.getD k 0 < 256:=fun k hk=>by
    obtain ⟨x,hx⟩:=ybn (xs:=bs) (k:=k) (by rw [HBS.out.1];exact hk);obtain ⟨b',off',e,_,hc'⟩:=HBS.out.2 (by rw [HBS.out.1];omega)
    cases e
    rw [ybg hx];exact ⟨(World.cell?_of_block (w:=w) ((HBt.out.block b (Nat.lt_of_lt_of_le HBL.out HBW.out.size) (fun e=>by have:=HBL.out;have:=HGW.out;omega)).trans (HBW.out.block b HBL.out))).trans (hc' k x hx),HR.out x (List.mem_of_getElem? hx)⟩
   have hx0:=hbx (4*t) om;have hx1:=hbx (4*t+1) om;have hx2:=hbx (4*t+2) om;have hx3:=hbx (4*t+3) om
   have HT:Hid (∀y0 y1 y2 y3:Int,bs.getD (4*t) 0=y0→bs.getD (4*t+1) 0=y1→bs.getD (4*t+2) 0=y2→bs.getD (4*t+3) 0=y3→(zw bs t).set t (word4 y0 y1 y2 y3)=zw bs (t+1)):=by
    rintro y0 y1 y2 y3 rfl rfl rfl rfl;have h9:=zw_set (bs:=bs) (t:=t) om;rw [if_pos h16] at h9;exact h9
   obtain ⟨y0,hy0⟩:∃y,bs.getD (4*t) 0=y:=⟨_,rfl⟩
   obtain ⟨y1,hy1⟩:∃y,bs.getD (4*t+1) 0=y:=⟨_,rfl⟩
   obtain ⟨y2,hy2⟩:∃y,bs.getD (4*t+2) 0=y:=⟨_,rfl⟩
   obtain ⟨y3,hy3⟩:∃y,bs.getD (4*t+3) 0=y:=⟨_,rfl⟩
   have HT2:=lh (HT.out y0 y1 y2 y3 hy0 hy1 hy2 hy3);rw [hy0] at hx0;rw [hy1] at hx1;rw [hy2] at hx2;rw [hy3] at hx3;obtain ⟨q0,hq0⟩:∃q,q=4*t:=⟨_,rfl⟩
   obtain ⟨q1,hq1⟩:∃q,q=4*t+1:=⟨_,rfl⟩
   obtain ⟨q2,hq2⟩:∃q,q=4*t+2:=⟨_,rfl⟩
   obtain ⟨q3,hq3⟩:∃q,q=4*t+3:=⟨_,rfl⟩
   rw [←hq0] at hx0;rw [←hq1] at hx1;rw [←hq2] at hx2;rw [←hq3] at hx3;obtain ⟨c0,l0,u0⟩:=hx0;obtain ⟨c1,l1,u1⟩:=hx1;obtain ⟨c2,l2,u2⟩:=hx2;obtain ⟨c3,l3,u3⟩:=hx3;have m0:IntKind.i64.wrap (4*(t:Int))=(q0:Int):=by rw [IntWalk.i64_in _ om];omega
   have m1:IntKind.i64.wrap ((q0:Int)+1)=(q1:Int):=by rw [IntWalk.i64_in _ om];omega
   have m2:IntKind.i64.wrap ((q0:Int)+2)=(q2:Int):=by rw [IntWalk.i64_in _ om];omega
   have m3:IntKind.i64.wrap ((q0:Int)+3)=(q3:Int):=by rw [IntWalk.i64_in _ om];omega
   have g0:(q0:Int) < 64:=by omega
   have g1:(q1:Int) < 64:=by omega
   have g2:(q2:Int) < 64:=by omega
   have g3:(q3:Int) < 64:=by omega
   have ht6:(t:Int) < 64:=by omega
   have ht7:(t:Int) < 16:=by omega
   obtain ⟨z,hz⟩:=ybn (xs:=zw bs t) (k:=t) (by rw [zw_len om];omega);have hcw:=ybb HZ.out hz;have hfw:=frozen_of_row wr gw t _ _ HZ.out;clear hbx hy0 hy1 hy2 hy3 hz HT hq0 hq1 hq2 hq3;go_wp2
   go_still_tail 35,yaV
   repeat still_step
   try refine wpStill_nil ?_
   change wpList _ _ _ _ _ wr.drew
   go_wp2;refine ⟨?rel,?measure⟩
   case rel=>exact ⟨t+1,by omega,by omega,by go_num,by
    show _=_
    rw [←HT2.out]
    exact ydd (w:=wr.drew) HZ.out (by rw [zw_len om];omega),(HBt.out.drewN 1).setCell (.inl rfl) _⟩
   case measure=>simp [intOf];omega
  ·
   obtain rfl:t=16:=by omega
   go_wp2
   go_loopw [8] (fun i wr=>RwP gw bs 16 64 W1 i wr) (fun i _=>64 - (intOf i).toNat)
   case atStart=>exact ⟨16,by omega,by omega,rfl,HZ,HBt⟩
   case round=>
    obtain ⟨t,hlo,ht,rfl,HZ,HBt⟩:=hrel
    by_cases hlt:t < 64
    ·
     have h16:¬t < 16:=by omega
     obtain ⟨p2,e2⟩:∃p,p=t - 2:=⟨_,rfl⟩
     obtain ⟨p7,e7⟩:∃p,p=t - 7:=⟨_,rfl⟩
     obtain ⟨p15,e15⟩:∃p,p=t - 15:=⟨_,rfl⟩
     obtain ⟨p16,e16⟩:∃p,p=t - 16:=⟨_,rfl⟩
     have hz14:=ybb HZ.out (ycG (bs:=bs) (t:=t) (i:=p2) om);have hz9:=ybb HZ.out (ycG (bs:=bs) (t:=t) (i:=p7) om);have hz1:=ybb HZ.out (ycG (bs:=bs) (t:=t) (i:=p15) om);have hz0:=ybb HZ.out (ycG (bs:=bs) (t:=t) (i:=p16) om)
     have HT:Hid (∀y14 y9 y1 y0:Int,(sch bs t).getD p2 0=y14→(sch bs t).getD p7 0=y9→(sch bs t).getD p15 0=y1→(sch bs t).getD p16 0=y0→(zw bs t).set t (ad (ad (ad (sgB y14) y9) (sgA y1)) y0)=zw bs (t+1)):=by
      rintro _ _ _ _ rfl rfl rfl rfl;have h9:=zw_set (bs:=bs) hlt;rw [if_neg h16] at h9;subst e2 e7 e15 e16;exact h9
     have l14:=ycC bs t p2;have l1:=ycC bs t p15;obtain ⟨x14,hx14⟩:∃x,(sch bs t).getD p2 0=x:=⟨_,rfl⟩
     obtain ⟨x9,hx9⟩:∃x,(sch bs t).getD p7 0=x:=⟨_,rfl⟩
     obtain ⟨x1,hx1⟩:∃x,(sch bs t).getD p15 0=x:=⟨_,rfl⟩
     obtain ⟨x0,hx0⟩:∃x,(sch bs t).getD p16 0=x:=⟨_,rfl⟩
     have HT2:=lh (HT.out x14 x9 x1 x0 hx14 hx9 hx1 hx0);rw [hx14] at hz14 l14;rw [hx9] at hz9;rw [hx1] at hz1 l1;rw [hx0] at hz0;have w2:IntKind.i64.wrap ((t:Int) - 2)=(p2:Int):=by rw [IntWalk.i64_in _ om];omega
     have w7:IntKind.i64.wrap ((t:Int) - 7)=(p7:Int):=by rw [IntWalk.i64_in _ om];omega
     have w15:IntKind.i64.wrap ((t:Int) - 15)=(p15:Int):=by rw [IntWalk.i64_in _ om];omega
     have w16:IntKind.i64.wrap ((t:Int) - 16)=(p16:Int):=by rw [IntWalk.i64_in _ om];omega
     have q2:(p2:Int) < 64:=by omega
     have q7:(p7:Int) < 64:=by omega
     have q15:(p15:Int) < 64:=by omega
     have q16:(p16:Int) < 64:=by omega
     have qt:(t:Int) < 64:=by omega
     clear e2 e7 e15 e16;obtain ⟨z,hz⟩:=ybn (xs:=zw bs t) (k:=t) yaQ;have hcw:=ybb HZ.out hz;clear hx14 hx9 hx1 hx0 HT hz
     go_upto_region 10 with fail
     go_quiet (first |(go_at_call 235;with_reducible exact Calls.quiet_of (ybM x1 7 7 _ rfl de de l1.1 l1.2)) |(go_at_call 235;with_reducible exact Calls.quiet_of (ybM x1 18 18 _ rfl de de l1.1 l1.2)))
     generalize hW:World.drewN wr _=W2
     replace hz14:W2.cell? ⟨gw,p2,none⟩=some (U32 x14):=by rw [←hW];exact hz14
     replace hz9:W2.cell? ⟨gw,p7,none⟩=some (U32 x9):=by rw [←hW];exact hz9
     replace hz1:W2.cell? ⟨gw,p15,none⟩=some (U32 x1):=by rw [←hW];exact hz1
     replace hz0:W2.cell? ⟨gw,p16,none⟩=some (U32 x0):=by rw [←hW];exact hz0
     replace hcw:W2.cell? ⟨gw,t,none⟩=some (U32 z):=by rw [←hW];exact hcw
     replace HZ:Hid (W2.heap[gw]? =some (.cells ((zw bs t).map U32++[]).toArray 293 (0,0))):=by show _=_;rw [←hW];exact HZ.out
     replace HBt:Hid (But (fun k=>k=gw) W1 W2):=by show But ..;rw [←hW];exact HBt.out.drewN _
     clear hW
     go_upto_region 11 with fail
     go_quiet (first |(go_at_call 235;with_reducible exact Calls.quiet_of (ybM x14 17 17 _ rfl de de l14.1 l14.2)) |(go_at_call 235;with_reducible exact Calls.quiet_of (ybM x14 19 19 _ rfl de de l14.1 l14.2)))
     generalize hW:World.drewN W2 _=W3
     replace hz14:W3.cell? ⟨gw,p2,none⟩=some (U32 x14):=by rw [←hW];exact hz14
     replace hz9:W3.cell? ⟨gw,p7,none⟩=some (U32 x9):=by rw [←hW];exact hz9
     replace hz1:W3.cell? ⟨gw,p15,none⟩=some (U32 x1):=by rw [←hW];exact hz1
     replace hz0:W3.cell? ⟨gw,p16,none⟩=some (U32 x0):=by rw [←hW];exact hz0
     replace hcw:W3.cell? ⟨gw,t,none⟩=some (U32 z):=by rw [←hW];exact hcw
     replace HZ:Hid (W3.heap[gw]? =some (.cells ((zw bs t).map U32++[]).toArray 293 (0,0))):=by show _=_;rw [←hW];exact HZ.out
     replace HBt:Hid (But (fun k=>k=gw) W1 W3):=by show But ..;rw [←hW];exact HBt.out.drewN _
     clear hW;have hfw:=frozen_of_row W3 gw t _ _ HZ.out
     go_upto_region 12 with fail
     go_still_tail 15,yaV
     repeat still_step
     try refine wpStill_nil ?_
     change wpList _ _ _ _ _ W3.drew
     go_wp2;refine ⟨⟨_,_,_,_,_,_,_,_,_,_,_,_,_,_,_,_,_,_,_,_,_,_,_,_,_,_,_,_,_,_,_,_,_,_,_,_,_,_,_,_,_,_,_,_,_,_,_,_,_,_,_,_,_,_,_,_,?rel,rfl⟩,?measure⟩
     case rel=>exact ⟨t+1,by omega,by omega,by go_num,by
      show _=_
      rw [←HT2.out,show ad (ad (ad (sgB x14) x9) (sgA x1)) x0=(sgB x14+x9+sgA x1+x0) % 4294967296 by unfold ad;omega]
      exact ydd (w:=W3) (x:=(sgB x14+x9+sgA x1+x0) % 4294967296) HZ.out yaQ,(HBt.out.setCell (.inl rfl) _).drewN 1⟩
     case measure=>
      show 64 - ((t:Int)+1).toNat < 64 - (t:Int).toNat
      omega
    ·
     obtain rfl:t=64:=by omega
     have HZr:=HZ;have HHr:Hid (wr.heap[w.heap.size]? =some (.cells (vArr v) 251 (0,0))):=(HBt.out.block _ (lt_of_block HHb1.out) (by have:=HGW.out;omega)).trans HHb1.out;have HRr:Hid (wr.heap[w.heap.size+1]? =some (.cells #[U32 0,U32 0,U32 0,U32 0,U32 0,U32 0,U32 0,U32 0] 251 (0,0))):=(HBt.out.block _ (lt_of_block HRb1.out) (by have:=HGW.out;omega)).trans HRb1.out;have HKr:Hid (wr.heap[gk]? =some (.cells kArr 293 (0,0))):=(HBt.out.block _ (lt_of_block HKb1.out) (by have:=HGW1.out;omega)).trans HKb1.out;have HBr:Hid (Below w.heap.size w wr):=HBW.out.trans (HBt.out.below HBW.out.size (fun i hi=>by have:=HGW.out;omega));obtain ⟨gv,hgv⟩:∃n,n=wr.heap.size:=⟨_,rfl⟩
     go_upto_region 14 with (first
      |(with_reducible refine wpList_load_row (o:=⟨some 116,_,_,_,_,_⟩) rfl 251 (.tmp 2) rfl w.heap.size rfl 251 (vArr v) (0,0) _ HHr.out Tryz.underlying251 rfl (ybX v) ?_)
      |(with_reducible refine ya3 (o:=⟨none,_,_,_,_,_⟩) rfl 251 (.tmp 11) (.tmp 116) rfl 251 _ (vArr v) rfl rfl (ybX v) rfl (ydC v) ?_))
     rw [←hgv];generalize hW2:wr.alloc (.cells (vArr v) 251)=W2;have HBa:Hid (Below gv wr W2):=by show Below ..;rw [←hW2,hgv];exact bl
     have HV2:Hid (W2.heap[gv]? =some (.cells (vArr v) 251 (0,0))):=by show _=_;rw [←hW2,hgv];exact heap_alloc_new wr _
     have HZ2:Hid (W2.heap[gw]? =some (.cells ((zw bs 64).map U32++[]).toArray 293 (0,0))):=(HBa.out.block gw (by rw [hgv];exact lt_of_block HZr.out)).trans HZr.out;have HK2:Hid (W2.heap[gk]? =some (.cells kArr 293 (0,0))):=(HBa.out.block gk (by rw [hgv];exact lt_of_block HKr.out)).trans HKr.out;have HH2:Hid (W2.heap[w.heap.size]? =some (.cells (vArr v) 251 (0,0))):=(HBa.out.block _ (by rw [hgv];exact lt_of_block HHr.out)).trans HHr.out;have HR2:Hid (W2.heap[w.heap.size+1]? =some (.cells #[U32 0,U32 0,U32 0,U32 0,U32 0,U32 0,U32 0,U32 0] 251 (0,0))):=(HBa.out.block _ (by rw [hgv];exact lt_of_block HRr.out)).trans HRr.out;have HGV:Hid (gw < gv):=by show _ < _;rw [hgv];exact lt_of_block HZr.out
     have HBw2:Hid (Below w.heap.size w W2):=HBr.out.trans (HBa.out.mono (by have:=HGV.out;have:=HGW.out;omega));have HgvE:=lh hgv;clear hW2 hgv HHr HRr HKr HZr HBa HHb1 HRb1 HKb1;go_wp2
     go_loopw [12] (fun i wr=>RrP gv bs v W2 i wr) (fun i _=>64 - (intOf i).toNat)
     case atStart=>exact ⟨0,v,by omega,rfl,rfl,HV2,But.refl _ _⟩
     case round=>
      obtain ⟨t,r,ht,HRr,rfl,HV,HBt⟩:=hrel
      by_cases hlt:t < 64
      ·
       have HOr:Hid (W8ok r):=by rw [HRr];exact HVO.out.rnds _ _
       have hre:=HOr.out.e;have hra:=HOr.out.a;obtain ⟨xk,hxk⟩:=ybn (xs:=kTab) (k:=t) hlt;obtain ⟨xw,hxw⟩:∃x,(sch bs 64).getD t 0=x:=⟨_,rfl⟩
       have HKc:=karr_cell ((HBt.out.block gk (lt_of_block HK2.out) (by have:=HGW1.out;have:=HGV.out;omega)).trans HK2.out) hxk;have HWc:=ybb ((HBt.out.block gw (lt_of_block HZ2.out) (by have:=HGV.out;omega)).trans HZ2.out) (ycG (bs:=bs) (t:=64) (i:=t) om);rw [hxw] at HWc
       have HR1:Hid (rnds (sch bs 64) v (t+1)=rnd r xk xw):=by
        show _=_
        rw [rnds,←HRr,hxw,ybg hxk]
       have HA:=lh (rnd_a r xk xw);have HE:=lh (rnd_e r xk xw);clear HRr hxw hxk;obtain ⟨ra,rb,rc,rd,re,rf,rg,rh⟩:=r;have v0:=ybh HV.out (i:=0) rfl;have v1:=ybh HV.out (i:=1) rfl;have v2:=ybh HV.out (i:=2) rfl;have v3:=ybh HV.out (i:=3) rfl;have v4:=ybh HV.out (i:=4) rfl;have v5:=ybh HV.out (i:=5) rfl;have v6:=ybh HV.out (i:=6) rfl;have v7:=ybh HV.out (i:=7) rfl;have hq:(t:Int) < 64:=by omega
       go_upto_region 17 with fail
       go_quiet (fail)
       generalize hW:World.drewN wr _=W3
       replace v0:W3.cell? ⟨gv,0,none⟩=some (U32 ra):=by rw [←hW];exact v0
       replace v1:W3.cell? ⟨gv,1,none⟩=some (U32 rb):=by rw [←hW];exact v1
       replace v2:W3.cell? ⟨gv,2,none⟩=some (U32 rc):=by rw [←hW];exact v2
       replace v3:W3.cell? ⟨gv,3,none⟩=some (U32 rd):=by rw [←hW];exact v3
       replace v4:W3.cell? ⟨gv,4,none⟩=some (U32 re):=by rw [←hW];exact v4
       replace v5:W3.cell? ⟨gv,5,none⟩=some (U32 rf):=by rw [←hW];exact v5
       replace v6:W3.cell? ⟨gv,6,none⟩=some (U32 rg):=by rw [←hW];exact v6
       replace v7:W3.cell? ⟨gv,7,none⟩=some (U32 rh):=by rw [←hW];exact v7
       replace HKc:W3.cell? ⟨gk,t,none⟩=some (U32 xk):=by rw [←hW];exact HKc
       replace HWc:W3.cell? ⟨gw,t,none⟩=some (U32 xw):=by rw [←hW];exact HWc
       replace HV:Hid (W3.heap[gv]? =some (.cells (vArr ⟨ra,rb,rc,rd,re,rf,rg,rh⟩) 251 (0,0))):=by show _=_;rw [←hW];exact HV.out
       replace HBt:Hid (But (fun k=>k=gv) W2 W3):=by show But ..;rw [←hW];exact HBt.out.drewN _
       clear hW
       go_upto_region 18 with fail
       go_quiet (first |(go_at_call 235;with_reducible exact Calls.quiet_of (ybM re 6 6 _ rfl de de hre.1 hre.2)) |(go_at_call 235;with_reducible exact Calls.quiet_of (ybM re 11 11 _ rfl de de hre.1 hre.2)) |(go_at_call 235;with_reducible exact Calls.quiet_of (ybM re 25 25 _ rfl de de hre.1 hre.2)))
       generalize hW:World.drewN W3 _=W4
       replace v0:W4.cell? ⟨gv,0,none⟩=some (U32 ra):=by rw [←hW];exact v0
       replace v1:W4.cell? ⟨gv,1,none⟩=some (U32 rb):=by rw [←hW];exact v1
       replace v2:W4.cell? ⟨gv,2,none⟩=some (U32 rc):=by rw [←hW];exact v2
       replace v3:W4.cell? ⟨gv,3,none⟩=some (U32 rd):=by rw [←hW];exact v3
       replace v4:W4.cell? ⟨gv,4,none⟩=some (U32 re):=by rw [←hW];exact v4
       replace v5:W4.cell? ⟨gv,5,none⟩=some (U32 rf):=by rw [←hW];exact v5
       replace v6:W4.cell? ⟨gv,6,none⟩=some (U32 rg):=by rw [←hW];exact v6
       replace v7:W4.cell? ⟨gv,7,none⟩=some (U32 rh):=by rw [←hW];exact v7
       replace HKc:W4.cell? ⟨gk,t,none⟩=some (U32 xk):=by rw [←hW];exact HKc
       replace HWc:W4.cell? ⟨gw,t,none⟩=some (U32 xw):=by rw [←hW];exact HWc
       replace HV:Hid (W4.heap[gv]? =some (.cells (vArr ⟨ra,rb,rc,rd,re,rf,rg,rh⟩) 251 (0,0))):=by show _=_;rw [←hW];exact HV.out
       replace HBt:Hid (But (fun k=>k=gv) W2 W4):=by show But ..;rw [←hW];exact HBt.out.drewN _
       clear hW
       go_upto_region 19 with fail
       go_upto_region 20 with (first
        |(go_at_call 235;(with_reducible (refine (ybM ra 2 2 _ rfl de de hra.1 hra.2).mono ?_));rintro e w6 ⟨rfl,n6,rfl⟩)
        |(go_at_call 235;(with_reducible (refine (ybM ra 13 13 _ rfl de de hra.1 hra.2).mono ?_));rintro e w6 ⟨rfl,n6,rfl⟩)
        |(go_at_call 235;(with_reducible (refine (ybM ra 22 22 _ rfl de de hra.1 hra.2).mono ?_));rintro e w6 ⟨rfl,n6,rfl⟩))
       generalize hT:(HMod.hMod (HAdd.hAdd _ xw) 4294967296:Int)=t1;generalize hS:(HMod.hMod (HAdd.hAdd (bits BinOp.xor IntKind.u32 (bits BinOp.xor IntKind.u32 (ror 2 ra) _) _) _) 4294967296:Int)=t2;generalize hW:World.drewN W4 _=W5;have HT:=lh hT;have HS:=lh hS;clear hT hS
       replace v3:W5.cell? ⟨gv,3,none⟩=some (U32 rd):=by rw [←hW];exact v3
       replace HV:Hid (W5.heap[gv]? =some (.cells (vArr ⟨ra,rb,rc,rd,re,rf,rg,rh⟩) 251 (0,0))):=by show _=_;rw [←hW];exact HV.out
       replace HBt:Hid (But (fun k=>k=gv) W2 W5):=by show But ..;rw [←hW];exact HBt.out.drewN _
       clear hW v0 v1 v2 v4 v5 v6 v7 HKc HWc
       go_upto_region 16 with (first
        |((with_reducible refine yaZ (o:=⟨none,_,_,_,_,_⟩) rfl 251 (.tmp 11) (.tmp 194) rfl gv 251 _ _ rfl rfl HV.out (arr8_size _ _ _ _ _ _ _ _) (vArr_sz _ _ _ _ _ _ _ _ _) (arr8_one _ _ _ _ _ _ _ _) ?_);intro W6 HV6 HB6))
       go_wp
       refine ⟨⟨t+1,rnds (sch bs 64) v (t+1),by omega,rfl,by go_num,?_,HBt.out.trans HB6.out (fun i hi=> .inl hi)⟩,by simp [intOf];omega⟩
       show _=_
       rw [HR1.out];have e0:IntKind.u32.max=(4294967295:Int):=by decide
       have ht1:=HT.out;rw [e0] at ht1;have e1:t1=(rh+sgC re+chX re rf rg+xk+xw) % 4294967296:=ht1.symm;have e2:t2=(sgD ra+majX ra rb rc) % 4294967296:=HS.out.symm
       have ea:(rnd ⟨ra,rb,rc,rd,re,rf,rg,rh⟩ xk xw).a=(t1+t2) % 4294967296:=by
        rw [HA.out,e1,e2]
        show ((rh+sgC re+chX re rf rg+xk+xw)+(sgD ra+majX ra rb rc)) % 4294967296=((rh+sgC re+chX re rf rg+xk+xw) % 4294967296+(sgD ra+majX ra rb rc) % 4294967296) % 4294967296
        omega
       have ee:(rnd ⟨ra,rb,rc,rd,re,rf,rg,rh⟩ xk xw).e=(rd+t1) % 4294967296:=by
        rw [HE.out,e1]
        show (rd+(rh+sgC re+chX re rf rg+xk+xw)) % 4294967296=(rd+(rh+sgC re+chX re rf rg+xk+xw) % 4294967296) % 4294967296
        omega
       have he:vArr (rnd ⟨ra,rb,rc,rd,re,rf,rg,rh⟩ xk xw)=#[U32 ((t1+t2) % 4294967296),U32 ra,U32 rb,U32 rc,U32 ((rd+t1) % 4294967296),U32 re,U32 rf,U32 rg]:=by
        show #[U32 (rnd ⟨ra,rb,rc,rd,re,rf,rg,rh⟩ xk xw).a,U32 ra,U32 rb,U32 rc,U32 (rnd ⟨ra,rb,rc,rd,re,rf,rg,rh⟩ xk xw).e,U32 re,U32 rf,U32 rg]=_
        rw [ea,ee]
       rw [he];exact HV6.out
      ·
       obtain rfl:t=64:=by omega
       have HRr':Hid (r=rnds (sch bs 64) v 64):=HRr;clear HRr;go_wp2
       go_loopw [21] (fun i wr=>RsP gv v r W2 i wr) (fun i _=>8 - (intOf i).toNat)
       case atStart=>exact ⟨0,by omega,rfl,HV.out,HBt⟩
       case round=>
        obtain ⟨j,hj,rfl,HVj,HBj⟩:=hrel;have HHj:Hid (wr.heap[w.heap.size]? =some (.cells (vArr v) 251 (0,0))):=(HBj.out.block _ (lt_of_block HH2.out) (by have:=HGW.out;have:=HGV.out;omega)).trans HH2.out;have HRj:Hid (wr.heap[w.heap.size+1]? =some (.cells #[U32 0,U32 0,U32 0,U32 0,U32 0,U32 0,U32 0,U32 0] 251 (0,0))):=(HBj.out.block _ (lt_of_block HR2.out) (by have:=HGW.out;have:=HGV.out;omega)).trans HR2.out
        by_cases hj8:j < 8
        ·
         obtain ⟨y,hy⟩:=ybn (xs:=v.list) (k:=j) hj8;obtain ⟨x,hx⟩:=ybn (xs:=r.list) (k:=j) hj8;have hcv:=ybh HHj.out hy
         have hl4:j < (((addW v r).list.take j++r.list.drop j)).length:=by
          rw [List.length_append,List.length_take,List.length_drop];show j < min j 8+(8 - j);omega
         have hcg:=ybb HVj.out (x:=x) (by rw [List.getElem?_append_right (by rw [List.length_take];show min j 8≤j;omega),List.length_take,List.getElem?_drop];show r.list[j+(j - min j 8)]? =_;rw [show j+(j - min j 8)=j by omega];exact hx);have hfg:=frozen_of_row wr gv j _ _ HVj.out;have hj':(j:Int) < 8:=by omega
         have HST:=lh (sum_setr v r hj8 hx hy);clear hy hx
         go_upto_region 24 with fail
         go_still_tail 8,yaV
         repeat still_step
         try refine wpStill_nil ?_
         change wpList _ _ _ _ _ wr.drew
         go_upto_region 23 with fail
         go_wp
         refine ⟨⟨_,_,_,_,_,_,_,_,_,_,_,_,_,⟨j+1,by omega,by go_num,?_,(HBj.out.setCell (.inl rfl) _).drewN 1⟩,rfl⟩,?_⟩
         ·show _=_
          rw [←HST.out];exact ydd (w:=wr) (x:=(x+y) % 4294967296) HVj.out hl4
         ·show 8 - ((j:Int)+1).toNat < 8 - (j:Int).toNat
          omega
        ·
         obtain rfl:j=8:=by omega
         have HVr:Hid (wr.heap[gv]? =some (.cells (vArr (addW v r)) 251 (0,0))):=HVj.out
         go_wp2_with (first
          |(with_reducible refine wpList_load_row (o:=⟨some 207,_,_,_,_,_⟩) rfl 251 (.tmp 11) rfl gv rfl 251 (vArr (addW v r)) (0,0) _ HVr.out Tryz.underlying251 rfl (ybX _) ?_)
          |((with_reducible refine yaZ (o:=⟨none,_,_,_,_,_⟩) rfl 251 (.tmp 4) (.tmp 207) rfl (w.heap.size+1) 251 _ (vArr (addW v r)) rfl rfl HRj.out (ybX _) (vArr_sz (addW v r) _ _ _ _ _ _ _ _).symm (ydC _) ?_);intro W7 HV7 HB7))
         have he:blk v bs=addW v r:=by unfold blk;rw [HRr'.out]
         refine bodyPost_ret (results_cell_row rfl _ _ _ _ _ _ _ rfl HV7.out Tryz.underlying251 rfl (ybX _)) rfl ⟨by rw [he],?_⟩;have hb1:=HBw2.out.trans (HBj.out.below HBw2.out.size (fun i hi=>by have:=HGV.out;have:=HGW.out;omega));exact hb1.trans (HB7.out.below hb1.size (fun i hi=>by omega))
