import Derived.Test.YtpdledjgbgalcaaGreatDoorPb
namespace Go.Proofs.YtpdledjgbgalcaaGreatDoor
set_option maxRecDepth 100000
set_option maxHeartbeats 8000000
open Go.RowKit Go.Proofs.Tryz
set_option linter.unusedVariables false
set_option linter.unusedSimpArgs false
theorem ybc {P:Program} {w:World} {ops:Array Oper} {G:List Oper} {o:Oper} {a:Act} {Q:Exit->Act->World->Prop} (K:o.guard=none) (J:TypeId) (x y:Operand) (T:o.op= .store J x y)
 (g:Nat) (t:TypeId) (H cells:Array Value) (M:a.eval x= .pointer (some ⟨g,0,none⟩)) (N:a.eval y= .agg cells) (L:w.heap[g]? =some (.cells H t (0,0))) (hi:(P.info? J).map (·.size)=some cells.size)
 (hs:H.size=cells.size) (h1:cells.all (·.oneCell')=true)
 (h:∀w',Hid (w'.heap[g]? =some (.cells cells t (0,0)))->Hid (But (fun k=>k=g) w w')->wpList P ops Q G (a.put o.dst undef) w'):wpList P ops Q (o::G) a w:=by
 refine wpList_store_row K J x y T g cells M N t H L hi hs h1 ?_;exact h _ (setRow_heap w g _ _ t _ L) ⟨rfl,rfl,rfl,by simp [World.setRow],fun k _ O=>setRow_other w g k cells O⟩
theorem u32_one (l:List Int):((l.map U32).toArray).all (·.oneCell')=true:=by
 rw [Array.all_eq_true'];intro x hx;have hx':x∈l.map U32:=by simpa using hx
 obtain ⟨y,_,rfl⟩:=List.mem_map.1 hx';rfl
theorem Tryz.size8:(prog.info? 251).map (·.size)=some 8:=by kernel_rfl
theorem ybi {P:Program} {ops:Array Oper} {H:List Oper} {o:Oper} {a:Act} {w:World} {Q:Exit->Act->World->Prop} (J:o.guard=none) (t:TypeId) (G:Array (Nat × Operand)) (K:o.op= .build t G) (cells:Array Value)
 (hf:P.built t (G.map fun (i,x)=>(i,a.eval x)).toList=some cells)
 (h:wpList P ops Q H (a.put o.dst (.agg cells)) w):wpList P ops Q (o::H) a w:=
 wpList_build J t G K (by rw [hf];rfl) (by rw [hf];exact h)
def kParts:Array (Nat × Operand):=(kTab.zipIdx.map fun (x,i)=>(i,Operand.const (U32 x))).toArray
def kArr:Array Value:=(kTab.map U32).toArray
theorem kBuilt (a:Act):prog.built 293 (kParts.map fun (i,x)=>(i,a.eval x)).toList=some kArr:=by kernel_rfl
theorem kArr_size:(prog.info? 293).map (·.size)=some kArr.size:=by kernel_rfl
theorem kArr_one:kArr.all (·.oneCell')=true:=u32_one _
theorem constants_any (w:World):Calls prog 234 #[] w fun e G=>e= .returned (.agg kArr)/\Below w.heap.size w G:=by
 go_enter func234,ntmps234
 go_wp2_with (first
  |(with_reducible refine ybi (o:=⟨some 1,_,_,_,_,_⟩) rfl 293 kParts ya9 kArr (kBuilt _) ?_)
  |(with_reducible refine ybl (o:=⟨none,_,_,_,_,_⟩) rfl 293 (.tmp 0) (.tmp 1) rfl 293 _ kArr rfl rfl kArr_size ya9 kArr_one ?_))
 exact bodyPost_ret (results_cell_row rfl _ _ _ _ _ _ _ rfl (zy w _) underlying293 rfl kArr_size) rfl ⟨rfl,bl⟩
def vArr (v:W8):Array Value:=(v.list.map U32).toArray
theorem karr_cell {w:World} {g i:Nat} {t:TypeId} {fr:Nat × Nat} {x:Int} (h:w.heap[g]? =some (.cells kArr t fr)) (G:kTab[i]? =some x):w.cell? ⟨g,i,none⟩=some (U32 x):=by
 rw [cell_of_row w g i _ _ _ h];unfold kArr;rw [List.getElem?_toArray,List.getElem?_map,G];rfl
theorem ybt {w:World} {g i:Nat} {t:TypeId} {fr:Nat × Nat} {x:Int} {v:W8} (h:w.heap[g]? =some (.cells (vArr v) t fr)) (G:v.list[i]? =some x):w.cell? ⟨g,i,none⟩=some (U32 x):=by
 rw [cell_of_row w g i _ _ _ h];unfold vArr;rw [List.getElem?_toArray,List.getElem?_map,G];rfl
def RwP (g:Nat) (bs:List Int) (lo hi:Nat) (W:World) (i:Value) (wr:World):Prop:=
 ∃t:Nat,lo<=t/\t<=hi/\i= .int .i64 t/\Hid (wr.heap[g]? =some (.cells ((zw bs t).map U32++[]).toArray 293 (0,0)))/\Hid (But (fun k=>k=g) W wr)
def RrP (g:Nat) (bs:List Int) (v:W8) (W:World) (i:Value) (wr:World):Prop:=
 ∃(t:Nat) (r:W8),t<=64/\r=rnds (sch bs 64) v t/\i= .int .i64 t/\Hid (wr.heap[g]? =some (.cells (vArr r) 251 (0,0)))/\Hid (But (fun k=>k=g) W wr)
def RsP (g:Nat) (v r:W8) (W:World) (i:Value) (wr:World):Prop:=
 ∃j:Nat,j<=8/\i= .int .i64 j/\Hid (wr.heap[g]? =some (.cells (((addW v r).list.take j++r.list.drop j).map U32++[]).toArray 251 (0,0)))/\Hid (But (fun k=>k=g) W wr)
theorem yd1 (v:W8):(vArr v).all (·.oneCell')=true:=u32_one _
theorem ycj (v:W8):(prog.info? 251).map (·.size)=some (vArr v).size:=Tryz.size8
theorem arr8_one (a b c d e f g h:Int):(#[U32 a,U32 b,U32 c,U32 d,U32 e,U32 f,U32 g,U32 h]:Array Value).all (·.oneCell')=true:=u32_one [a,b,c,d,e,f,g,h]
theorem vArr_sz (v:W8) (a b c d e f g h:Int):(vArr v).size=(#[U32 a,U32 b,U32 c,U32 d,U32 e,U32 f,U32 g,U32 h]:Array Value).size:=rfl
theorem arr8_size (a b c d e f g h:Int):(prog.info? 251).map (·.size)=some (#[U32 a,U32 b,U32 c,U32 d,U32 e,U32 f,U32 g,U32 h]:Array Value).size:=Tryz.size8
theorem sum_setr (v r:W8) {j:Nat} {x y:Int} (hj:j < 8) (G:r.list[j]? =some x) (H:v.list[j]? =some y):((addW v r).list.take j++r.list.drop j).set j ((x+y) % 4294967296)=(addW v r).list.take (j+1)++r.list.drop (j+1):=by
 rw [Int.add_comm];obtain ⟨a,b,c,d,e,f,g,h⟩:=v;obtain ⟨a',M,N,L,O,J,K,T⟩:=r;rcases j with _ |_ |_ |_ |_ |_ |_ |_ |j
 all_goals first
  |(injection G with G;injection H with H;subst G H;rfl)
  |omega
def zParts:Array (Nat × Operand):=#[]
def zArr:Array Value:=((zw [] 0).map U32++[]).toArray
theorem zBuilt (a:Act):prog.built 293 (zParts.map fun (i,x)=>(i,a.eval x)).toList=some zArr:=by kernel_rfl
theorem zArr_size:(prog.info? 293).map (·.size)=some zArr.size:=by kernel_rfl
theorem zArr_one:zArr.all (·.oneCell')=true:=by kernel_rfl
theorem rblock_any (v:W8) (A:Option Addr) (c B:Nat) (bs:List Int) (w:World) (hv:W8ok v) (hb:Sl fB w B A 64 bs) (hB:B<=w.heap.size) (hr:Byt bs):
 Calls prog 182 #[.agg (vArr v),.slice A 64 c] w fun e w'=>e= .returned (.agg (vArr (blk v bs)))/\Below w.heap.size w w':=by
 obtain ⟨b,bu,_,rfl,bA,_,_⟩:=hb.2.at_ (k:=0) (by rw [hb.1];omega);have a6:=lh hb;have HR:=lh hr;have aU:Hid (b < w.heap.size):=Nat.lt_of_lt_of_le bA hB;have bH:=lh hv;clear hb hr hv;go_enter func182,ntmps182
 go_upto_region 2 with (first
  |(go_at_call 234;(refine (constants_any _).mono ?_);rintro e w1 ⟨rfl,aB⟩
    have HB1:=lh aB
    clear aB)
  |(with_reducible refine ybl (o:=⟨none,_,_,_,_,_⟩) rfl 293 (.tmp 5) (.tmp 22) rfl 293 _ kArr rfl rfl kArr_size ya9 kArr_one ?_))
 obtain ⟨gk,af⟩:∃n,n=w1.heap.size:=⟨_,rfl⟩
 have aL:Hid (w.heap.size+1 < gk):=by
  show _ < _;rw [af];have:=HB1.out.size;simp at this;omega
 have br:Hid (Below w.heap.size w w1):=(bl.alloc sI _).trans (HB1.out.mono yba);have bn:Hid (w1.heap[w.heap.size]? =some (.cells (vArr v) 251 (0,0))):=(HB1.out.block w.heap.size yba).trans ((zx _ _ _ sI).trans (zy w _));have bf:Hid (w1.heap[w.heap.size+1]? =some (.cells #[U32 0,U32 0,U32 0,U32 0,U32 0,U32 0,U32 0,U32 0] 251 (0,0))):=(HB1.out.block (w.heap.size+1) sI).trans (heap_alloc2_new w _ _);generalize aO:w1.alloc (.cells kArr 293)=W0;rw [<-af];obtain ⟨J,aX⟩:∃n,n=W0.heap.size:=⟨_,rfl⟩
 have ar:Hid (J=gk+1):=by show _=_;rw [aX,<-aO,af];simp
 have aR:Hid (Below gk w1 W0):=by show Below ..;rw [<-aO,af];exact bl
 have bi:Hid (W0.heap[gk]? =some (.cells kArr 293 (0,0))):=by show _=_;rw [<-aO,af];exact zy w1 _
 have bL:=lh af;have aF:=lh aX;clear aO af aX
 go_upto_region 4 with (first
  |(with_reducible refine ybi (o:=⟨some 23,_,_,_,_,_⟩) rfl 293 zParts ya9 zArr (zBuilt _) ?_)
  |(with_reducible refine ybl (o:=⟨none,_,_,_,_,_⟩) rfl 293 (.tmp 6) (.tmp 23) rfl 293 _ zArr rfl rfl zArr_size ya9 zArr_one ?_))
 rw [<-aF.out];generalize aQ:W0.alloc (.cells zArr 293)=W1;have aJ:Hid (Below J W0 W1):=by show Below ..;rw [<-aQ,aF.out];exact bl
 have bD:Hid (W1.heap[J]? =some (.cells ((zw bs 0).map U32++[]).toArray 293 (0,0))):=by show _=_;rw [<-aQ,aF.out];exact zy W0 _
 have aH:Hid (W1.heap[gk]? =some (.cells kArr 293 (0,0))):=(aJ.out.block gk (by have:=ar.out;omega)).trans bi.out;have O:Hid (w.heap.size+2 < J):=by have:=aL.out;have:=ar.out;show _ < _;omega
 have HBW:Hid (Below w.heap.size w W1):=br.out.trans ((aR.out.mono (by have:=aL.out;omega)).trans (aJ.out.mono (by have:=O.out;omega)));have aG:Hid (W1.heap[w.heap.size]? =some (.cells (vArr v) 251 (0,0))):=((aJ.out.block _ (by have:=O.out;omega)).trans (aR.out.block _ (by have:=aL.out;omega))).trans bn.out;have aE:Hid (W1.heap[w.heap.size+1]? =some (.cells #[U32 0,U32 0,U32 0,U32 0,U32 0,U32 0,U32 0,U32 0] 251 (0,0))):=((aJ.out.block _ (by have:=O.out;omega)).trans (aR.out.block _ (by have:=aL.out;omega))).trans bf.out;clear aQ bn bf bi
 go_loopw [7] (fun i wr=>RwP J bs 0 16 W1 i wr) (fun i _=>16 - (intOf i).toNat)
 case atStart=>exact ⟨0,by omega,by omega,rfl,bD,But.refl _ _⟩
 case round=>
  obtain ⟨t,bB,ht,rfl,M,H⟩:=hrel
  by_cases aZ:t < 16
  ·
   have au:∀k,k < 64->wr.cell? ⟨b,bu+k,none⟩=some (fB (bs.getD k 0))/\0<=bs.getD k 0/\bs.getD k 0 < 256:=fun k hk=>by
    obtain ⟨x,hx⟩:=ybM (xs:=bs) (k:=k) (by rw [a6.out.1];exact hk);obtain ⟨b',bM,e,_,bK⟩:=a6.out.2 (by rw [a6.out.1];omega);cases e
    rw [ybw hx];exact ⟨(cB (w:=w) ((H.out.block b (Nat.lt_of_lt_of_le aU.out HBW.out.size) (fun e=>by have:=aU.out;have:=O.out;omega)).trans (HBW.out.block b aU.out))).trans (bK k x hx),HR.out x (List.mem_of_getElem? hx)⟩
   have ah:=au (4*t) om;have ai:=au (4*t+1) om;have a8:=au (4*t+2) om;have a5:=au (4*t+3) om
   have HT:Hid (∀y0 y1 y2 y3:Int,bs.getD (4*t) 0=y0->bs.getD (4*t+1) 0=y1->bs.getD (4*t+2) 0=y2->bs.getD (4*t+3) 0=y3->(zw bs t).set t (word4 y0 y1 y2 y3)=zw bs (t+1)):=by
    rintro y0 y1 y2 y3 rfl rfl rfl rfl;have h9:=zw_set (bs:=bs) (t:=t) om;rw [if_pos aZ] at h9;exact h9
   obtain ⟨y0,a0⟩:=gx (bs.getD (4*t) 0);obtain ⟨y1,aS⟩:=gx (bs.getD (4*t+1) 0);obtain ⟨y2,a2⟩:=gx (bs.getD (4*t+2) 0);obtain ⟨y3,a7⟩:=gx (bs.getD (4*t+3) 0);have a4:=lh (HT.out y0 y1 y2 y3 a0 aS a2 a7);rw [a0] at ah;rw [aS] at ai;rw [a2] at a8;rw [a7] at a5;obtain ⟨q0,a9⟩:∃q,q=4*t:=⟨_,rfl⟩
   obtain ⟨q1,bg⟩:∃q,q=4*t+1:=⟨_,rfl⟩
   obtain ⟨q2,bj⟩:∃q,q=4*t+2:=⟨_,rfl⟩
   obtain ⟨q3,ba⟩:∃q,q=4*t+3:=⟨_,rfl⟩
   rw [<-a9] at ah;rw [<-bg] at ai;rw [<-bj] at a8;rw [<-ba] at a5;obtain ⟨c0,l0,u0⟩:=ah;obtain ⟨c1,l1,u1⟩:=ai;obtain ⟨c2,l2,u2⟩:=a8;obtain ⟨c3,l3,u3⟩:=a5;have m0:IntKind.i64.wrap (4*(t:Int))=(q0:Int):=by rw [IntWalk.i64_in _ om];omega
   have m1:IntKind.i64.wrap ((q0:Int)+1)=(q1:Int):=by rw [IntWalk.i64_in _ om];omega
   have m2:IntKind.i64.wrap ((q0:Int)+2)=(q2:Int):=by rw [IntWalk.i64_in _ om];omega
   have m3:IntKind.i64.wrap ((q0:Int)+3)=(q3:Int):=by rw [IntWalk.i64_in _ om];omega
   have g0:(q0:Int) < 64:=by omega
   have g1:(q1:Int) < 64:=by omega
   have g2:(q2:Int) < 64:=by omega
   have g3:(q3:Int) < 64:=by omega
   have bU:(t:Int) < 64:=by omega
   have bX:(t:Int) < 16:=by omega
   obtain ⟨z,hz⟩:=ybM (xs:=zw bs t) (k:=t) (by rw [zw_len om];omega);have ax:=ybp M.out hz;have bF:=frozen_of_row wr J t _ _ M.out;clear au a0 aS a2 a7 hz HT a9 bg bj ba;go_wp2
   go_still_tail 35,ya9
   repeat still_step
   try refine wpStill_nil ?_
   change wpList _ _ _ _ _ wr.drew
   go_wp2;refine ⟨?rel,?measure⟩
   case rel=>exact ⟨t+1,by omega,by omega,by go_num,by
    show _=_;rw [<-a4.out]
    exact ydB (w:=wr.drew) M.out (by rw [zw_len om];omega),(H.out.drewN 1).setCell (.inl rfl) _⟩
   case measure=>simp [intOf];omega
  ·
   obtain rfl:t=16:=by omega
   go_wp2
   go_loopw [8] (fun i wr=>RwP J bs 16 64 W1 i wr) (fun i _=>64 - (intOf i).toNat)
   case atStart=>exact ⟨16,by omega,by omega,rfl,M,H⟩
   case round=>
    obtain ⟨t,bB,ht,rfl,M,H⟩:=hrel
    by_cases hlt:t < 64
    ·
     have aZ:¬t < 16:=by omega
     obtain ⟨p2,e2⟩:∃p,p=t - 2:=⟨_,rfl⟩
     obtain ⟨p7,e7⟩:∃p,p=t - 7:=⟨_,rfl⟩
     obtain ⟨ac,bc⟩:∃p,p=t - 15:=⟨_,rfl⟩
     obtain ⟨ag,bp⟩:∃p,p=t - 16:=⟨_,rfl⟩
     have aj:=ybp M.out (yc6 (bs:=bs) (t:=t) (i:=p2) om);have az:=ybp M.out (yc6 (bs:=bs) (t:=t) (i:=p7) om);have ay:=ybp M.out (yc6 (bs:=bs) (t:=t) (i:=ac) om);have aA:=ybp M.out (yc6 (bs:=bs) (t:=t) (i:=ag) om)
     have HT:Hid (∀y14 y9 y1 y0:Int,(sch bs t).getD p2 0=y14->(sch bs t).getD p7 0=y9->(sch bs t).getD ac 0=y1->(sch bs t).getD ag 0=y0->(zw bs t).set t (ad (ad (ad (sgB y14) y9) (sgA y1)) y0)=zw bs (t+1)):=by
      rintro _ _ _ _ rfl rfl rfl rfl;have h9:=zw_set (bs:=bs) hlt;rw [if_neg aZ] at h9;subst e2 e7 bc bp;exact h9
     have aC:=ycZ bs t p2;have l1:=ycZ bs t ac;obtain ⟨ae,aD⟩:=gx ((sch bs t).getD p2 0);obtain ⟨x9,aT⟩:=gx ((sch bs t).getD p7 0);obtain ⟨x1,ai⟩:=gx ((sch bs t).getD ac 0);obtain ⟨x0,ah⟩:=gx ((sch bs t).getD ag 0);have a4:=lh (HT.out ae x9 x1 x0 aD aT ai ah);rw [aD] at aj aC;rw [aT] at az;rw [ai] at ay l1;rw [ah] at aA;have w2:IntKind.i64.wrap ((t:Int) - 2)=(p2:Int):=by rw [IntWalk.i64_in _ om];omega
     have w7:IntKind.i64.wrap ((t:Int) - 7)=(p7:Int):=by rw [IntWalk.i64_in _ om];omega
     have bS:IntKind.i64.wrap ((t:Int) - 15)=(ac:Int):=by rw [IntWalk.i64_in _ om];omega
     have bO:IntKind.i64.wrap ((t:Int) - 16)=(ag:Int):=by rw [IntWalk.i64_in _ om];omega
     have q2:(p2:Int) < 64:=by omega
     have q7:(p7:Int) < 64:=by omega
     have bQ:(ac:Int) < 64:=by omega
     have bY:(ag:Int) < 64:=by omega
     have qt:(t:Int) < 64:=by omega
     clear e2 e7 bc bp;obtain ⟨z,hz⟩:=ybM (xs:=zw bs t) (k:=t) ya2;have ax:=ybp M.out hz;clear aD aT ai ah HT hz;go_upto_region 10 with fail
     go_quiet (first |(go_at_call 235;with_reducible exact Calls.quiet_of (yb8 x1 7 7 _ rfl de de l1.1 l1.2)) |(go_at_call 235;with_reducible exact Calls.quiet_of (yb8 x1 18 18 _ rfl de de l1.1 l1.2)))
     generalize G:World.drewN wr _=W2;replace aj:W2.cell? ⟨J,p2,none⟩=some (U32 ae):=by rw [<-G];exact aj
     replace az:W2.cell? ⟨J,p7,none⟩=some (U32 x9):=by rw [<-G];exact az
     replace ay:W2.cell? ⟨J,ac,none⟩=some (U32 x1):=by rw [<-G];exact ay
     replace aA:W2.cell? ⟨J,ag,none⟩=some (U32 x0):=by rw [<-G];exact aA
     replace ax:W2.cell? ⟨J,t,none⟩=some (U32 z):=by rw [<-G];exact ax
     replace M:Hid (W2.heap[J]? =some (.cells ((zw bs t).map U32++[]).toArray 293 (0,0))):=by show _=_;rw [<-G];exact M.out
     replace H:Hid (But (fun k=>k=J) W1 W2):=by show But ..;rw [<-G];exact H.out.drewN _
     clear G;go_upto_region 11 with fail
     go_quiet (first |(go_at_call 235;with_reducible exact Calls.quiet_of (yb8 ae 17 17 _ rfl de de aC.1 aC.2)) |(go_at_call 235;with_reducible exact Calls.quiet_of (yb8 ae 19 19 _ rfl de de aC.1 aC.2)))
     generalize G:World.drewN W2 _=W3;replace aj:W3.cell? ⟨J,p2,none⟩=some (U32 ae):=by rw [<-G];exact aj
     replace az:W3.cell? ⟨J,p7,none⟩=some (U32 x9):=by rw [<-G];exact az
     replace ay:W3.cell? ⟨J,ac,none⟩=some (U32 x1):=by rw [<-G];exact ay
     replace aA:W3.cell? ⟨J,ag,none⟩=some (U32 x0):=by rw [<-G];exact aA
     replace ax:W3.cell? ⟨J,t,none⟩=some (U32 z):=by rw [<-G];exact ax
     replace M:Hid (W3.heap[J]? =some (.cells ((zw bs t).map U32++[]).toArray 293 (0,0))):=by show _=_;rw [<-G];exact M.out
     replace H:Hid (But (fun k=>k=J) W1 W3):=by show But ..;rw [<-G];exact H.out.drewN _
     clear G;have bF:=frozen_of_row W3 J t _ _ M.out;go_upto_region 12 with fail
     go_still_tail 15,ya9
     repeat still_step
     try refine wpStill_nil ?_
     change wpList _ _ _ _ _ W3.drew
     go_wp2;refine ⟨⟨_,_,_,_,_,_,_,_,_,_,_,_,_,_,_,_,_,_,_,_,_,_,_,_,_,_,_,_,_,_,_,_,_,_,_,_,_,_,_,_,_,_,_,_,_,_,_,_,_,_,_,_,_,_,_,_,?rel,rfl⟩,?measure⟩
     case rel=>exact ⟨t+1,by omega,by omega,by go_num,by
      show _=_;rw [<-a4.out,show ad (ad (ad (sgB ae) x9) (sgA x1)) x0=(sgB ae+x9+sgA x1+x0) % 4294967296 by unfold ad;omega]
      exact ydB (w:=W3) (x:=(sgB ae+x9+sgA x1+x0) % 4294967296) M.out ya2,(H.out.setCell (.inl rfl) _).drewN 1⟩
     case measure=>
      show 64 - ((t:Int)+1).toNat < 64 - (t:Int).toNat;omega
    ·
     obtain rfl:t=64:=by omega
     have aN:=M;have aI:Hid (wr.heap[w.heap.size]? =some (.cells (vArr v) 251 (0,0))):=(H.out.block _ (lb aG.out) (by have:=O.out;omega)).trans aG.out;have aa:Hid (wr.heap[w.heap.size+1]? =some (.cells #[U32 0,U32 0,U32 0,U32 0,U32 0,U32 0,U32 0,U32 0] 251 (0,0))):=(H.out.block _ (lb aE.out) (by have:=O.out;omega)).trans aE.out;have a1:Hid (wr.heap[gk]? =some (.cells kArr 293 (0,0))):=(H.out.block _ (lb aH.out) (by have:=ar.out;omega)).trans aH.out;have HBr:Hid (Below w.heap.size w wr):=HBW.out.trans (H.out.below HBW.out.size (fun i hi=>by have:=O.out;omega));obtain ⟨gv,Y⟩:∃n,n=wr.heap.size:=⟨_,rfl⟩
     go_upto_region 14 with (first
      |(with_reducible refine wpList_load_row (o:=⟨some 116,_,_,_,_,_⟩) rfl 251 (.tmp 2) rfl w.heap.size rfl 251 (vArr v) (0,0) _ aI.out underlying251 rfl (ycj v) ?_)
      |(with_reducible refine ybl (o:=⟨none,_,_,_,_,_⟩) rfl 251 (.tmp 11) (.tmp 116) rfl 251 _ (vArr v) rfl rfl (ycj v) rfl (yd1 v) ?_))
     rw [<-Y];generalize aP:wr.alloc (.cells (vArr v) 251)=W2;have ap:Hid (Below gv wr W2):=by show Below ..;rw [<-aP,Y];exact bl
     have bI:Hid (W2.heap[gv]? =some (.cells (vArr v) 251 (0,0))):=by show _=_;rw [<-aP,Y];exact zy wr _
     have bh:Hid (W2.heap[J]? =some (.cells ((zw bs 64).map U32++[]).toArray 293 (0,0))):=(ap.out.block J (by rw [Y];exact lb aN.out)).trans aN.out;have bk:Hid (W2.heap[gk]? =some (.cells kArr 293 (0,0))):=(ap.out.block gk (by rw [Y];exact lb a1.out)).trans a1.out;have bm:Hid (W2.heap[w.heap.size]? =some (.cells (vArr v) 251 (0,0))):=(ap.out.block _ (by rw [Y];exact lb aI.out)).trans aI.out;have bb:Hid (W2.heap[w.heap.size+1]? =some (.cells #[U32 0,U32 0,U32 0,U32 0,U32 0,U32 0,U32 0,U32 0] 251 (0,0))):=(ap.out.block _ (by rw [Y];exact lb aa.out)).trans aa.out;have ao:Hid (J < gv):=by show _ < _;rw [Y];exact lb aN.out
     have a3:Hid (Below w.heap.size w W2):=HBr.out.trans (ap.out.mono (by have:=ao.out;have:=O.out;omega));have bN:=lh Y;clear aP Y aI aa a1 aN ap aG aE aH;go_wp2
     go_loopw [12] (fun i wr=>RrP gv bs v W2 i wr) (fun i _=>64 - (intOf i).toNat)
     case atStart=>exact ⟨0,v,by omega,rfl,rfl,bI,But.refl _ _⟩
     case round=>
      obtain ⟨t,r,ht,aa,rfl,U,H⟩:=hrel
      by_cases hlt:t < 64
      ·
       have be:Hid (W8ok r):=by rw [aa];exact bH.out.rnds _ _
       have aq:=be.out.e;have ak:=be.out.a;obtain ⟨xk,aY⟩:=ybM (xs:=kTab) (k:=t) hlt;obtain ⟨W,aV⟩:=gx ((sch bs 64).getD t 0);have aw:=karr_cell ((H.out.block gk (lb bk.out) (by have:=ar.out;have:=ao.out;omega)).trans bk.out) aY;have am:=ybp ((H.out.block J (lb bh.out) (by have:=ao.out;omega)).trans bh.out) (yc6 (bs:=bs) (t:=64) (i:=t) om);rw [aV] at am
       have bC:Hid (rnds (sch bs 64) v (t+1)=rnd r xk W):=by
        show _=_;rw [rnds,<-aa,aV,ybw aY]
       have HA:=lh (rnd_a r xk W);have HE:=lh (rnd_e r xk W);clear aa aV aY;obtain ⟨L,Z,rc,rd,K,T,N,rh⟩:=r;have v0:=ybt U.out (i:=0) rfl;have v1:=ybt U.out (i:=1) rfl;have v2:=ybt U.out (i:=2) rfl;have v3:=ybt U.out (i:=3) rfl;have v4:=ybt U.out (i:=4) rfl;have v5:=ybt U.out (i:=5) rfl;have v6:=ybt U.out (i:=6) rfl;have v7:=ybt U.out (i:=7) rfl;have hq:(t:Int) < 64:=by omega
       go_upto_region 17 with fail
       go_quiet (fail)
       generalize G:World.drewN wr _=W3;replace v0:W3.cell? ⟨gv,0,none⟩=some (U32 L):=by rw [<-G];exact v0
       replace v1:W3.cell? ⟨gv,1,none⟩=some (U32 Z):=by rw [<-G];exact v1
       replace v2:W3.cell? ⟨gv,2,none⟩=some (U32 rc):=by rw [<-G];exact v2
       replace v3:W3.cell? ⟨gv,3,none⟩=some (U32 rd):=by rw [<-G];exact v3
       replace v4:W3.cell? ⟨gv,4,none⟩=some (U32 K):=by rw [<-G];exact v4
       replace v5:W3.cell? ⟨gv,5,none⟩=some (U32 T):=by rw [<-G];exact v5
       replace v6:W3.cell? ⟨gv,6,none⟩=some (U32 N):=by rw [<-G];exact v6
       replace v7:W3.cell? ⟨gv,7,none⟩=some (U32 rh):=by rw [<-G];exact v7
       replace aw:W3.cell? ⟨gk,t,none⟩=some (U32 xk):=by rw [<-G];exact aw
       replace am:W3.cell? ⟨J,t,none⟩=some (U32 W):=by rw [<-G];exact am
       replace U:Hid (W3.heap[gv]? =some (.cells (vArr ⟨L,Z,rc,rd,K,T,N,rh⟩) 251 (0,0))):=by show _=_;rw [<-G];exact U.out
       replace H:Hid (But (fun k=>k=gv) W2 W3):=by show But ..;rw [<-G];exact H.out.drewN _
       clear G;go_upto_region 18 with fail
       go_quiet (first |(go_at_call 235;with_reducible exact Calls.quiet_of (yb8 K 6 6 _ rfl de de aq.1 aq.2)) |(go_at_call 235;with_reducible exact Calls.quiet_of (yb8 K 11 11 _ rfl de de aq.1 aq.2)) |(go_at_call 235;with_reducible exact Calls.quiet_of (yb8 K 25 25 _ rfl de de aq.1 aq.2)))
       generalize G:World.drewN W3 _=W4;replace v0:W4.cell? ⟨gv,0,none⟩=some (U32 L):=by rw [<-G];exact v0
       replace v1:W4.cell? ⟨gv,1,none⟩=some (U32 Z):=by rw [<-G];exact v1
       replace v2:W4.cell? ⟨gv,2,none⟩=some (U32 rc):=by rw [<-G];exact v2
       replace v3:W4.cell? ⟨gv,3,none⟩=some (U32 rd):=by rw [<-G];exact v3
       replace v4:W4.cell? ⟨gv,4,none⟩=some (U32 K):=by rw [<-G];exact v4
       replace v5:W4.cell? ⟨gv,5,none⟩=some (U32 T):=by rw [<-G];exact v5
       replace v6:W4.cell? ⟨gv,6,none⟩=some (U32 N):=by rw [<-G];exact v6
       replace v7:W4.cell? ⟨gv,7,none⟩=some (U32 rh):=by rw [<-G];exact v7
       replace aw:W4.cell? ⟨gk,t,none⟩=some (U32 xk):=by rw [<-G];exact aw
       replace am:W4.cell? ⟨J,t,none⟩=some (U32 W):=by rw [<-G];exact am
       replace U:Hid (W4.heap[gv]? =some (.cells (vArr ⟨L,Z,rc,rd,K,T,N,rh⟩) 251 (0,0))):=by show _=_;rw [<-G];exact U.out
       replace H:Hid (But (fun k=>k=gv) W2 W4):=by show But ..;rw [<-G];exact H.out.drewN _
       clear G;go_upto_region 19 with fail
       go_upto_region 20 with (first
        |(go_at_call 235;(with_reducible (refine (yb8 L 2 2 _ rfl de de ak.1 ak.2).mono ?_));rintro e w6 ⟨rfl,n6,rfl⟩)
        |(go_at_call 235;(with_reducible (refine (yb8 L 13 13 _ rfl de de ak.1 ak.2).mono ?_));rintro e w6 ⟨rfl,n6,rfl⟩)
        |(go_at_call 235;(with_reducible (refine (yb8 L 22 22 _ rfl de de ak.1 ak.2).mono ?_));rintro e w6 ⟨rfl,n6,rfl⟩))
       generalize hT:(HMod.hMod (HAdd.hAdd _ W) 4294967296:Int)=t1;generalize hS:(HMod.hMod (HAdd.hAdd (bits BinOp.xor IntKind.u32 (bits BinOp.xor IntKind.u32 (ror 2 L) _) _) _) 4294967296:Int)=t2;generalize G:World.drewN W4 _=W5;have HT:=lh hT;have HS:=lh hS;clear hT hS;replace v3:W5.cell? ⟨gv,3,none⟩=some (U32 rd):=by rw [<-G];exact v3
       replace U:Hid (W5.heap[gv]? =some (.cells (vArr ⟨L,Z,rc,rd,K,T,N,rh⟩) 251 (0,0))):=by show _=_;rw [<-G];exact U.out
       replace H:Hid (But (fun k=>k=gv) W2 W5):=by show But ..;rw [<-G];exact H.out.drewN _
       clear G v0 v1 v2 v4 v5 v6 v7 aw am
       go_upto_region 16 with (first
        |((with_reducible refine ybc (o:=⟨none,_,_,_,_,_⟩) rfl 251 (.tmp 11) (.tmp 194) rfl gv 251 _ _ rfl rfl U.out (arr8_size _ _ _ _ _ _ _ _) (vArr_sz _ _ _ _ _ _ _ _ _) (arr8_one _ _ _ _ _ _ _ _) ?_);intro W6 bx HB6))
       go_wp
       refine ⟨⟨t+1,rnds (sch bs 64) v (t+1),by omega,rfl,by go_num,?_,H.out.trans HB6.out (fun i hi=> .inl hi)⟩,by simp [intOf];omega⟩;show _=_;rw [bC.out];have e0:IntKind.u32.max=(4294967295:Int):=by decide
       have bo:=HT.out;rw [e0] at bo;have e1:t1=(rh+sgC K+chX K T N+xk+W) % 4294967296:=bo.symm;have e2:t2=(sgD L+majX L Z rc) % 4294967296:=HS.out.symm
       have ea:(rnd ⟨L,Z,rc,rd,K,T,N,rh⟩ xk W).a=(t1+t2) % 4294967296:=by
        rw [HA.out,e1,e2];show ((rh+sgC K+chX K T N+xk+W)+(sgD L+majX L Z rc)) % 4294967296=((rh+sgC K+chX K T N+xk+W) % 4294967296+(sgD L+majX L Z rc) % 4294967296) % 4294967296;omega
       have ee:(rnd ⟨L,Z,rc,rd,K,T,N,rh⟩ xk W).e=(rd+t1) % 4294967296:=by
        rw [HE.out,e1];show (rd+(rh+sgC K+chX K T N+xk+W)) % 4294967296=(rd+(rh+sgC K+chX K T N+xk+W) % 4294967296) % 4294967296;omega
       have he:vArr (rnd ⟨L,Z,rc,rd,K,T,N,rh⟩ xk W)=#[U32 ((t1+t2) % 4294967296),U32 L,U32 Z,U32 rc,U32 ((rd+t1) % 4294967296),U32 K,U32 T,U32 N]:=by
        show #[U32 (rnd ⟨L,Z,rc,rd,K,T,N,rh⟩ xk W).a,U32 L,U32 Z,U32 rc,U32 (rnd ⟨L,Z,rc,rd,K,T,N,rh⟩ xk W).e,U32 K,U32 T,U32 N]=_;rw [ea,ee]
       rw [he];exact bx.out
      ·
       obtain rfl:t=64:=by omega
       have bq:Hid (r=rnds (sch bs 64) v 64):=aa;clear aa;go_wp2
       go_loopw [21] (fun i wr=>RsP gv v r W2 i wr) (fun i _=>8 - (intOf i).toNat)
       case atStart=>exact ⟨0,by omega,rfl,U.out,H⟩
       case round=>
        obtain ⟨j,hj,rfl,aM,aK⟩:=hrel;have bw:Hid (wr.heap[w.heap.size]? =some (.cells (vArr v) 251 (0,0))):=(aK.out.block _ (lb bm.out) (by have:=O.out;have:=ao.out;omega)).trans bm.out;have bG:Hid (wr.heap[w.heap.size+1]? =some (.cells #[U32 0,U32 0,U32 0,U32 0,U32 0,U32 0,U32 0,U32 0] 251 (0,0))):=(aK.out.block _ (lb bb.out) (by have:=O.out;have:=ao.out;omega)).trans bb.out
        by_cases aW:j < 8
        ·
         obtain ⟨y,hy⟩:=ybM (xs:=v.list) (k:=j) aW;obtain ⟨x,hx⟩:=ybM (xs:=r.list) (k:=j) aW;have bP:=ybt bw.out hy
         have bv:j < (((addW v r).list.take j++r.list.drop j)).length:=by
          rw [List.length_append,List.length_take,List.length_drop];show j < min j 8+(8 - j);omega
         have bV:=ybp aM.out (x:=x) (by rw [List.getElem?_append_right (by rw [List.length_take];show min j 8<=j;omega),List.length_take,List.getElem?_drop];show r.list[j+(j - min j 8)]? =_;rw [show j+(j - min j 8)=j by omega];exact hx);have bT:=frozen_of_row wr gv j _ _ aM.out;have bW:(j:Int) < 8:=by omega
         have bz:=lh (sum_setr v r aW hx hy);clear hy hx;go_upto_region 24 with fail
         go_still_tail 8,ya9
         repeat still_step
         try refine wpStill_nil ?_
         change wpList _ _ _ _ _ wr.drew
         go_upto_region 23 with fail
         go_wp
         refine ⟨⟨_,_,_,_,_,_,_,_,_,_,_,_,_,⟨j+1,by omega,by go_num,?_,(aK.out.setCell (.inl rfl) _).drewN 1⟩,rfl⟩,?_⟩
         ·show _=_;rw [<-bz.out];exact ydB (w:=wr) (x:=(x+y) % 4294967296) aM.out bv
         ·show 8 - ((j:Int)+1).toNat < 8 - (j:Int).toNat;omega
        ·
         obtain rfl:j=8:=by omega
         have bJ:Hid (wr.heap[gv]? =some (.cells (vArr (addW v r)) 251 (0,0))):=aM.out
         go_wp2_with (first
          |(with_reducible refine wpList_load_row (o:=⟨some 207,_,_,_,_,_⟩) rfl 251 (.tmp 11) rfl gv rfl 251 (vArr (addW v r)) (0,0) _ bJ.out underlying251 rfl (ycj _) ?_)
          |((with_reducible refine ybc (o:=⟨none,_,_,_,_,_⟩) rfl 251 (.tmp 4) (.tmp 207) rfl (w.heap.size+1) 251 _ (vArr (addW v r)) rfl rfl bG.out (ycj _) (vArr_sz (addW v r) _ _ _ _ _ _ _ _).symm (yd1 _) ?_);intro W7 bE HB7))
         have he:blk v bs=addW v r:=by unfold blk;rw [bq.out]
         refine bodyPost_ret (results_cell_row rfl _ _ _ _ _ _ _ rfl bE.out underlying251 rfl (ycj _)) rfl ⟨by rw [he],?_⟩;have aB:=a3.out.trans (aK.out.below a3.out.size (fun i hi=>by have:=ao.out;have:=O.out;omega));exact aB.trans (HB7.out.below aB.size (fun i hi=>by omega))
theorem run_slice_two {P:Program} (t e:Nat) (i:TypeInfo) (ht:P.underlying t=some (.slice e)) (hi:P.info? e=some i) (hs:i.size=1) (A:Option Addr) (n c:Nat) (H G:IntKind) (l h:Int) (m k:Nat) (K:l=m) (J:h=k) (h1:m<=k) (h2:k<=c) (w:World):
 (Instr.slice t (.slice A n c) (some (.int H l)) (some (.int G h)) none).run P w= .ok (.slice (if c=m then A else A.map (·.add m)) (k - m) (c - m)) w:=by
 subst K J;simp [Instr.slice,run_underlying ht,Instr.sliceBounds,run_sliceBound w H (m:Int) k _ om om,run_sliceBound w G (k:Int) c _ om om,sizeOf,typeInfo,hi,hs]
def OwB (w:World) (xs:List Int) (v:Value) (wr:World):Prop:=Hid (Own fB 5 wr w.heap.size v xs)/\Hid (Below w.heap.size w wr)
theorem rpad_any (A:Option Addr) (n c B:Nat) (xs:List Int) (w:World) (Y:Sl fB w B A n xs) (hB:B<=w.heap.size) (hl:n<=549755813888):
 Calls prog 181 #[.slice A n c] w fun e w'=>∃v,e= .returned v/\OwB w (xs++padB xs.length) v w':=by
 obtain ⟨i0,hi,am,aA,aC⟩:=info_parts Tryz.infoB;have HI:=lh hi;have z:=lh am;have aa:=lh aA;have ac:=lh aC;have aj:Hid (Own fB 5 (w.alloc (.cells #[] 5)) w.heap.size (.slice (some ⟨w.heap.size,0,none⟩) 0 0) []):=World.ownsRow_lit w #[] 0 nl ya5 rfl;have ah:Hid (Below w.heap.size w (w.alloc (.cells #[] 5))):=bl;have aw:Hid (Sl fB (w.alloc (.cells #[] 5)) B A n xs):=Y.up ah.out hB;have HXN:Hid (xs.length=n):=Y.1;have N:Hid ((([]:List Int).length+xs.length)*1<=140737488355328):=by show _<=_;rw [Y.1];simp;omega
 have O:Hid (([]:List Int).length+xs.length<=maxLen):=by show _<=_;rw [Y.1];unfold maxLen;simp;omega
 have G:Hid (w.heap.size<=(w.alloc (.cells #[] 5)).heap.size):=by show _<=_;simp
 have ay:Hid ((([]++xs:List Int).length+1)*1<=140737488355328):=by show _<=_;rw [List.nil_append,Y.1];omega
 have aB:Hid (([]++xs:List Int).length+1<=maxLen):=by show _<=_;rw [List.nil_append,Y.1];unfold maxLen;omega
 clear hi am aA aC Y;go_enter func181,ntmps181
 go_upto_region 2 with (first
  |(at_builtin;(with_reducible refine ybD (o:=⟨some 8,_,_,_,_,_⟩) rfl (.tmp 6) (.tmp 7) 40 rfl 5 i0 (.int .u8 0) 1 underlying40 HI.out z.out aa.out ac.out rfl _ [] w.heap.size rfl aj.out _ _ _ B xs rfl aw.out fB1 N.out O.out G.out ?_);intro v1 w1 K T af
    have HB1:Hid (Below w.heap.size w w1):=ah.out.trans (ybe T.out (fun j hj=>(ol aj.out j hj).1) G.out)
    have W:Hid (w.heap.size<=w1.heap.size):=HB1.out.size)
  |(at_builtin;(with_reducible refine ybk (o:=⟨some 10,_,_,_,_,_⟩) rfl (.tmp 8) (.tmp 9) 40 rfl 5 i0 (.int .u8 0) 1 underlying40 HI.out z.out aa.out ac.out rfl _ ([]++xs) w.heap.size rfl K.out 128 1 rfl fB1 ay.out aB.out W.out ?_);intro v2 w2 au az aE
    have ao:Hid (Below w.heap.size w w2):=HB1.out.trans (ybe az.out (fun j hj=>(ol K.out j hj).1) W.out)))
 have aI:Hid (OwB w (xs++128::List.replicate 0 0) v2 w2):=⟨au,ao⟩;clear K T af HB1 W au az aE ao aj ah aw N O ay aB G
 go_loopw [3] (fun v wr=>∃k,k<=zN n/\Hid (OwB w (xs++128::List.replicate k 0) v wr)) (fun v _=>n+zN n+1 - ycp v)
 case atStart=>exact ⟨0,by omega,aI⟩
 case round=>
  obtain ⟨k,aO,HP⟩:=hrel;have M:=HP.out.1;have HB:=HP.out.2;have aM:=zN_lt n;have H:(xs++128::List.replicate k (0:Int)).length=n+1+k:=by rw [List.length_append,List.length_cons,List.length_replicate,HXN.out];omega
  obtain ⟨ys,J⟩:∃ys,ys=xs++128::List.replicate k (0:Int):=⟨_,rfl⟩
  rw [<-J] at M H;obtain ⟨A1,c1,ae,ax,ar,_⟩:=M.out.shape;rw [H] at ae;obtain ⟨l1,Z⟩:∃l,l=n+1+k:=⟨_,rfl⟩
  rw [<-Z] at ae H;have L:=lh H;have U:=lh J;have aq:=lh Z;have G:Hid (w.heap.size<=wr.heap.size):=HB.out.size;have aH:(l1:Int)<=549755813888+65:=by omega
  subst ae
  by_cases ag:k=zN n
  ·
   have ak:(l1:Int) % 64=56:=by have h0:zN n=(119 - n % 64) % 64:=rfl;omega
   have aG:Hid (OwB w ((xs++128::List.replicate (zN n) 0)++(be8 (8*n)).take 0) (.slice A1 l1 c1) wr):=by show OwB ..;rw [List.take_zero,List.append_nil,<-ag];exact HP.out
   clear Z J H ar ax M HB HP L U aq G ag;go_upto_region 6 with fail
   clear ak aH
   go_loopw [3,5] (fun v i wr=>∃j:Nat,j<=8/\i= .int .i64 (7 - (j:Int))/\Hid (OwB w ((xs++128::List.replicate (zN n) 0)++(be8 (8*n)).take j) v wr)) (fun _ i _=>(intOf i+1).toNat)
   case atStart=>exact ⟨0,by omega,rfl,aG⟩
   case round=>
    obtain ⟨j,hj,rfl,HP⟩:=hrel;have M:=HP.out.1;have HB:=HP.out.2
    have H:((xs++128::List.replicate (zN n) (0:Int))++(be8 (8*n)).take j).length=n+1+zN n+j:=by
     rw [List.length_append,List.length_append,List.length_cons,List.length_replicate,List.length_take,be8_len,HXN.out];omega
    obtain ⟨ys,J⟩:∃ys,ys=(xs++128::List.replicate (zN n) (0:Int))++(be8 (8*n)).take j:=⟨_,rfl⟩
    rw [<-J] at M H;have L:=lh H;have U:=lh J;have G:Hid (w.heap.size<=wr.heap.size):=HB.out.size;clear J H
    by_cases aF:j < 8
    ·obtain ⟨s,hs⟩:∃s:Nat,s=7 - j:=⟨_,rfl⟩
     have ap:(7 - (j:Int))=(s:Int):=by omega
     obtain ⟨s8,ai⟩:∃s8:Nat,s8=8*s:=⟨_,rfl⟩
     have aK:IntKind.i64.wrap (8*(s:Int))=(s8:Int):=by rw [IntWalk.i64_in _ om];omega
     have aL:s8<=56:=by omega
     have aN:s<=7:=by omega
     have aD:=lh hs;have aP:=lh ai;rw [ap];have N:Hid ((ys.length+1)*1<=140737488355328):=by show _<=_;rw [L.out];omega
     have O:Hid (ys.length+1<=maxLen):=by show _<=_;rw [L.out];unfold maxLen;omega
     have HT:Hid ((be8 (8*n)).take j++[(n:Int)*8 / 2 ^ s8 % 256]=(be8 (8*n)).take (j+1)):=by
      show _=_;rw [be8_snoc _ aF,ai,hs,show 8*(7 - j)=56 - 8*j by omega]
      congr 2
      rw [Int.mul_comm];simp
     clear hs ap ai
     go_wp2_with (first
      |(at_builtin;(with_reducible refine ybk (o:=⟨some 33,_,_,_,_,_⟩) rfl (.tmp 26) (.tmp 32) 40 rfl 5 i0 (.int .u8 0) 1 underlying40 HI.out z.out aa.out ac.out rfl _ ys w.heap.size rfl M.out ((n:Int)*8 / 2 ^ s8 % 256) 1 rfl fB1 N.out O.out G.out ?_);intro v1 w1 K T af))
     go_roundw
     case rel=>
      refine ⟨j+1,by omega,?_,?_,?_⟩
      ·have:=aD.out;refine congrArg (Value.int .i64) ?_;omega
      ·have h:=K.out;rw [U.out,List.append_assoc,HT.out] at h;exact h
      ·exact HB.out.trans (ybe T.out (fun j hj=>(ol M.out j hj).1) G.out)
     case measure=>
      have:=aD.out;simp [intOf]
      try omega
    ·obtain rfl:j=8:=by omega
     go_wp2;go_ret;refine ⟨_,rfl,?_,HB⟩;have h:=M.out;rw [U.out,List.take_of_length_le (by rw [be8_len];exact Nat.le_refl _),List.append_assoc] at h;rw [HXN.out];exact h
  ·
   have ak:¬(l1:Int) % 64=56:=by have h0:zN n=(119 - n % 64) % 64:=rfl;omega
   have N:Hid ((ys.length+1)*1<=140737488355328):=by show _<=_;rw [L.out];omega
   have O:Hid (ys.length+1<=maxLen):=by show _<=_;rw [L.out];unfold maxLen;omega
   clear Z J H ar ax
   go_wp2_with (first
    |(at_builtin;(with_reducible refine ybk (o:=⟨some 17,_,_,_,_,_⟩) rfl (.tmp 15) (.tmp 16) 40 rfl 5 i0 (.int .u8 0) 1 underlying40 HI.out z.out aa.out ac.out rfl _ ys w.heap.size rfl M.out 0 1 rfl fB1 N.out O.out G.out ?_);intro v1 w1 K T af))
   go_roundw
   case rel=>
    refine ⟨k+1,by omega,?_,?_⟩
    ·have h:=K.out;rw [U.out,List.append_assoc,List.cons_append,<-List.replicate_succ'] at h;exact h
    ·exact HB.out.trans (ybe T.out (fun j hj=>(ol M.out j hj).1) G.out)
   case measure=>
    obtain ⟨A2,c2,aJ,_⟩:=K.out.shape;have h1:=L.out;have h2:=aq.out;rw [aJ];show n+zN n+1 - (ys++[0]).length < n+zN n+1 - l1;rw [List.length_append];simp only [List.length_cons,List.length_nil];omega
def hParts:Array (Nat × Operand):=(hTab.list.zipIdx.map fun (x,i)=>(i,Operand.const (U32 x))).toArray
theorem hBuilt (a:Act):prog.built 251 (hParts.map fun (i,x)=>(i,a.eval x)).toList=some (vArr hTab):=by kernel_rfl
theorem vArr_sz2 (v u:W8):(vArr v).size=(vArr u).size:=rfl
theorem own_gt {w:World} {g base:Nat} {e:TypeId} {v:Value} {xs:List Int} (h:Own fB e w base v xs) (hg:g < base):some g≠v.ownBlock:=fun hv=>by
 have:=(ol h g hv.symm).1;omega
theorem ybT {P:Program} {w:World} {α:Type} {f:α->Value} {ops:Array Oper} {o:Oper} {a:Act} {K:Act->World->Prop} {Q:Exit->Act->World->Prop} {E:Prop} (sl x:Operand) (t:TypeId)
 (Y:o.op= .call {callee:= .builtin .append,args:=#[sl,x],argTypes:=#[t,t]}) (hgd:o.guard=none)
 (e:TypeId) (i:TypeInfo) (z:Value) (bytes:Nat) (ht:P.underlying t=some (.slice e)) (hi:P.info? e=some i) (hz:i.zero=some z)
 (hsize:i.size=1) (hby:i.bytes=bytes) (hzs:z.cells.size=1) (xs:List α) (base:Nat) (hown:Own f e w base (a.eval sl) xs)
 (ys:List α) (hr:∃B A m c,a.eval x= .slice A m c/\Sl f w B A m ys) (h1:∀y,(f y).oneCell'=true) (hbytes:(xs.length+ys.length)*bytes<=140737488355328) (hmax:xs.length+ys.length<=maxLen) (hbase:base<=w.heap.size)
 (h:∀H G,Hid (Own f e G base H (xs++ys))->Hid (w.grownBy G (a.eval sl).ownBlock)->Hid (H.ownBlock=(a.eval sl).ownBlock∨H.ownBlock=some w.heap.size)->Hid (∀J L,Below J L w->J<=base->Below J L G)->K (a.put o.dst H) G):
 if Region.wanted o (yielded ops a.tmps)=true then Oper.wp P o a w K Q else E:=by
 have T:Region.wanted o (yielded ops a.tmps)=true:=by simp [Region.wanted,hgd]
 rw [if_pos T];obtain ⟨B,A,m,c,O,hr⟩:=hr;exact wp_app sl x t Y e i z bytes ht hi hz hsize hby hzs _ xs base rfl hown A m c B ys O hr h1 hbytes hmax hbase fun H G h2 N U=>h H G h2 N U fun J L W M=>hown.below W M (lT M hbase) N
theorem ybd {B:Nat} {a w:World} (h:Below B a w) (n:Nat):Below B a (w.drewN n):=⟨h.os,h.tape,h.output,h.size,h.block⟩
def RhP (g:Nat) (ps:List Int) (w1:World) (i:Value) (wr:World):Prop:=
 ∃p:Nat,p % 64=0/\p<=ps.length/\i= .int .i64 p/\Hid (wr.heap[g]? =some (.cells (vArr (hashN ps (p / 64))) 251 (0,0)))/\Hid (But (fun k=>k=g) w1 wr)
theorem ydl (A:Option Addr) (n c B:Nat) (xs:List Int) (w:World) (K:Sl fB w B A n xs) (hB:B<=w.heap.size) (hl:n<=549755813888) (ar:Byt xs):
 Calls prog 123 #[.slice A n c] w fun e w'=>e= .returned (.string (baOf (shaB xs)))/\Below w.heap.size w w':=by
 obtain ⟨i0,hi,aC,aA,aB⟩:=info_parts Tryz.infoB;have HI:=lh hi;have aW:=lh aC;have aZ:=lh aA;have a0:=lh aB;have ba:=lh ar;have HXN:Hid (xs.length=n):=K.1;have aV:Hid (Sl fB (w.alloc (.cells (vArr hTab) 251)) B A n xs):=K.up bl hB;have HC:=lh (rpad_any A n c B xs (w.alloc (.cells (vArr hTab) 251)) aV.out (lT hB sI) hl);clear hi aC aA aB K ar;go_enter func123,ntmps123
 go_upto_region 4 with (first
  |(with_reducible refine ybi (o:=⟨some 8,_,_,_,_,_⟩) rfl 251 hParts ya9 (vArr hTab) (hBuilt _) ?_)
  |(with_reducible refine ybl (o:=⟨none,_,_,_,_,_⟩) rfl 251 (.tmp 3) (.tmp 8) rfl 251 _ (vArr hTab) rfl rfl (ycj _) rfl (yd1 _) ?_)
  |(go_at_call 181;(refine HC.out.mono ?_);rintro e w1 ⟨vp,rfl,hp⟩
    have HP:=lh hp
    clear hp))
 obtain ⟨ps,J⟩:∃ps,ps=xs++padB xs.length:=⟨_,rfl⟩
 have aw:ps.length % 64=0:=by rw [J,List.length_append];exact padB_64 _
 have ai:0 < ps.length:=by rw [J,List.length_append,padB_len];omega
 have aF:ps.length<=549755813888+72:=by rw [J,List.length_append,padB_len,HXN.out];have:=zN_lt n;omega
 have aQ:Hid (Byt ps):=by rw [J];exact ba.out.app (padB_byt _)
 rw [<-J] at HP;have a2:=lh J;have L:=HP.out.1;have ay:=HP.out.2;have aY:Hid (w1.heap[w.heap.size]? =some (.cells (vArr hTab) 251 (0,0))):=(ay.out.block _ sI).trans (zy w _);have az:Hid (Below w.heap.size w w1):=bl.trans (ay.out.mono sI);obtain ⟨A1,c1,ag,aD,a4,_⟩:=L.out.shape;obtain ⟨b,H,aT,aG,aE⟩:=a4 ai;subst aT
 have aN:Hid (b≠w.heap.size):=by
  intro e;have h0:=L.out;rw [ag] at h0;have:=(ol h0 b rfl).1;simp at this;omega
 obtain ⟨O,Y⟩:∃n,n=ps.length:=⟨_,rfl⟩
 rw [<-Y] at aw ai aF ag aD;subst ag;have a7:=lh aE;have HB1:=lh aG;have aa:=lh Y;clear J Y aE aG HP
 go_loopw [5] (fun i wr=>RhP w.heap.size ps w1 i wr) (fun i _=>O - (intOf i).toNat)
 case atStart=>exact ⟨0,rfl,by omega,rfl,aY,But.refl _ _⟩
 case round=>
  obtain ⟨p,Z,au,rfl,G,T⟩:=hrel;rw [<-aa.out] at au;have HBr:Hid (Below w.heap.size w wr):=az.out.trans (T.out.below az.out.size (fun i hi=>by omega))
  by_cases hlt:p < O
  ·
   obtain ⟨q,hq⟩:∃q,q=p+64:=⟨_,rfl⟩
   have bh:IntKind.i64.wrap ((p:Int)+64)=(q:Int):=by rw [IntWalk.i64_in _ om];omega
   have bm:q<=O:=by omega
   have bg:(p:Int) < (O:Int):=by omega
   obtain ⟨iB,a8,_,aX,_⟩:=info_parts Tryz.infoB
   have bp:∀W,(Instr.slice 40 (.slice (some ⟨b,H,none⟩) O c1) (some (.int .i64 (p:Int))) (some (.int .i64 (q:Int))) none).run prog W= .ok (.slice (some ⟨b,H+p,none⟩) 64 (c1 - p)) W:=fun W=>by
    rw [run_slice_two (P:=prog) 40 5 iB underlying40 a8 aX (some ⟨b,H,none⟩) O c1 .i64 .i64 (p:Int) (q:Int) p q rfl rfl om om W,if_neg om,show q - p=64 by omega,Option.map_some,show (⟨b,H,none⟩:Addr).add p=⟨b,H+p,none⟩ by unfold Addr.add;split<;>simp_all]
   obtain ⟨V,U⟩:∃V,V=hashN ps (p / 64):=⟨_,rfl⟩
   rw [<-U] at G;have aP:Hid (W8ok V):=by rw [U];exact yd0 _ _
   have HN:Hid (blk V ((ps.drop p).take 64)=hashN ps ((p+64) / 64)):=by
    show _=_;rw [show (p+64) / 64=p / 64+1 by omega,U];show _=blk _ _;rw [show 64*(p / 64)=p by omega]
   have aS:Hid (Sl fB wr wr.heap.size (some ⟨b,H+p,none⟩) 64 ((ps.drop p).take 64)):=by
    refine ⟨by rw [List.length_take,List.length_drop,<-aa.out];omega,fun _=>⟨b,H+p,rfl,Nat.lt_of_lt_of_le HB1.out T.out.size,fun k x K=>?_⟩⟩;have hk:=List.getElem?_eq_some_iff.1 K;have a6:k < 64:=by have:=hk.1;rw [List.length_take] at this;omega
    have a9:ps[p+k]? =some x:=by rw [List.getElem?_take_of_lt a6,List.getElem?_drop] at K;exact K
    have:=a7.out (p+k) x a9;rw [Nat.add_assoc];exact (cB (w:=w1) (T.out.block b HB1.out aN.out)).trans this
   have bb:Hid (Calls prog 182 #[.agg (vArr V),.slice (some ⟨b,H+p,none⟩) 64 (c1 - p)] wr.drew fun e w'=>e= .returned (.agg (vArr (blk V ((ps.drop p).take 64))))/\Below wr.heap.size wr w'):=
    (rblock_any V (some ⟨b,H+p,none⟩) (c1 - p) wr.heap.size ((ps.drop p).take 64) wr.drew aP.out aS.out nl ((aQ.out.drop p).take 64)).mono (fun e w' h=>⟨h.1,⟨h.2.os,h.2.tape,h.2.output,h.2.size,h.2.block⟩⟩)
   have HQ:=lh hq;have aJ:=lh Z;have bc:=lh hlt;clear U hq;obtain ⟨va,vb,vc,vd,ve,vf,vg,vh⟩:=V;have v0:=ybt G.out (i:=0) rfl;have v1:=ybt G.out (i:=1) rfl;have v2:=ybt G.out (i:=2) rfl;have v3:=ybt G.out (i:=3) rfl;have v4:=ybt G.out (i:=4) rfl;have v5:=ybt G.out (i:=5) rfl;have v6:=ybt G.out (i:=6) rfl;have v7:=ybt G.out (i:=7) rfl;go_upto_region 6 with fail
   go_still_tail 6,ya9
   repeat still_step
   try refine wpStill_nil ?_
   change wpList _ _ _ _ _ wr.drew
   go_upto_region 5 with (first
    |(go_at_call 182;(refine bb.out.mono ?_);rintro e w6 ⟨rfl,ap⟩
      have HB6:=lh ap;have aL:Hid (w6.heap[w.heap.size]? =some (.cells (vArr ⟨va,vb,vc,vd,ve,vf,vg,vh⟩) 251 (0,0))):=(ap.block _ (lb G.out)).trans G.out
      clear ap)
    |((with_reducible refine ybc (o:=⟨none,_,_,_,_,_⟩) rfl 251 (.tmp 3) (.tmp 23) rfl w.heap.size 251 _ _ rfl rfl aL.out (ycj _) (vArr_sz2 _ _) (yd1 _) ?_);intro W7 HG7 HB7))
   go_wp
   try go_simp
   refine ⟨?rel,?measure⟩
   case rel=>
    have Z:=aJ.out;have hq:=HQ.out;refine ⟨p+64,by omega,by rw [<-aa.out];omega,by rw [<-hq],?_,(T.out.trans (But.of_below (p:=fun k=>k=w.heap.size) HB6.out) (fun i hi=> .inl hi)).trans HB7.out (fun i hi=> .inl hi)⟩;show _=_;rw [<-HN.out];exact HG7.out
   case measure=>
    have hq:=HQ.out;have hlt:=bc.out;show O - (q:Int).toNat < O - (p:Int).toNat;omega
  ·
   obtain rfl:p=O:=by omega
   clear aw ai aF au Z hlt aD;obtain ⟨V,U⟩:∃V,V=hashN ps (p / 64):=⟨_,rfl⟩
   rw [<-U] at G;have HV:Hid (V=hashN ps (ps.length / 64)):=by show _=_;rw [U,aa.out]
   clear U;have ax:Hid (Own fB 5 (wr.alloc (.cells #[] 5)) wr.heap.size (.slice (some ⟨wr.heap.size,0,none⟩) 0 0) []):=World.ownsRow_lit wr #[] 0 nl ya5 rfl;have aI:Hid (Below wr.heap.size wr (wr.alloc (.cells #[] 5))):=bl;go_upto_region 9 with fail
   obtain ⟨M,ac⟩:∃M,M=wr:=⟨_,rfl⟩
   rw [<-ac] at ax aI;rw [<-ac] at G HBr;rw [<-ac];have aq:Hid (w.heap.size < M.heap.size):=lb G.out;clear ac T
   go_loopw [6,7] (fun v i wr=>∃j:Nat,j<=8/\i= .int .i64 j/\Hid (Own fB 5 wr M.heap.size v (wB (V.list.take j)))/\Hid (Below M.heap.size M wr)) (fun _ i _=>8 - (intOf i).toNat)
   case atStart=>exact ⟨0,by omega,rfl,ax,aI⟩
   case round=>
    obtain ⟨j,hj,rfl,L,HB⟩:=hrel;obtain ⟨A5,c5,aj,aR,ah,_⟩:=L.out.shape;obtain ⟨N,z⟩:∃N,N=wB (V.list.take j):=⟨_,rfl⟩
    rw [<-z] at L aj ah;have af:N.length=4*j:=by rw [z,wB_len,List.length_take];show 4*min j 8=_;omega
    rw [af] at aj;subst aj;have aH:=lh z;have am:=lh af;have HS5:=lh ah;have ak:Hid (wr.heap[w.heap.size]? =some (.cells (vArr V) 251 (0,0))):=(HB.out.block _ aq.out).trans G.out;clear z af ah aR
    by_cases aU:j < 8
    ·obtain ⟨x,K⟩:=ybM (xs:=V.list) (k:=j) aU;have ao:=ybt ak.out K;have bj:(j:Int) < 8:=by omega
     have br:Hid (Sl fB (wr.alloc (.cells #[.int .u8 (x / 16777216 % 256),.int .u8 (x / 65536 % 256),.int .u8 (x / 256 % 256),.int .u8 (x % 256)] 5)).drew (wr.heap.size+1) (some ⟨wr.heap.size,0,none⟩) 4 (w4 x)):=⟨rfl,SL.of_block (t:=5) (fr:=(0,0)) (zy wr _) (Nat.lt_succ_self _)⟩
     have aK:Hid (wB (V.list.take (j+1))=N++w4 x):=by
      show _=_;rw [ybq K,aH.out];unfold wB;rw [List.flatMap_append];simp
     have a1:Hid ((N.length+(w4 x).length)*1<=140737488355328):=by show _<=_;rw [am.out];show (4*j+4)*1<=_;omega
     have a5:Hid (N.length+(w4 x).length<=maxLen):=by show _<=_;rw [am.out];show 4*j+4<=_;unfold maxLen;omega
     have bi:Hid (M.heap.size<=(wr.alloc (.cells #[.int .u8 (x / 16777216 % 256),.int .u8 (x / 65536 % 256),.int .u8 (x / 256 % 256),.int .u8 (x % 256)] 5)).drew.heap.size):=lT HB.out.size sI;have bk:Hid (Own fB 5 (wr.alloc (.cells #[.int .u8 (x / 16777216 % 256),.int .u8 (x / 65536 % 256),.int .u8 (x / 256 % 256),.int .u8 (x % 256)] 5)).drew M.heap.size (.slice A5 (4*j) c5) N):=(L.out.alloc _).drewN 1;clear K;have bq:=World.new_ne wr ⟨w.heap.size,j,none⟩ ao;have bf:Hid (w.heap.size < M.heap.size):=aq;go_upto_region 11 with fail
     go_region_held3 (fun w'=>w'.cell? ⟨w.heap.size,j,none⟩=some (U32 x)) ((first |go_keep |exact aO.out)) (first |(refine ybT (.tmp 29) (.tmp 49) 40 rfl rfl 5 i0 (.int .u8 0) 1 underlying40 HI.out aW.out aZ.out a0.out rfl N M.heap.size ?_ (w4 x) ?_ fB1 a1.out a5.out ?_ ?_;(first |exact L.out.alloc _ |exact (L.out.alloc _).drewN _ |exact (L.out.drewN _).alloc _);(exact ⟨_,_,4,4,rfl,⟨rfl,SL.of_block (t:=5) (fr:=(0,0)) (zy _ _) (Nat.lt_succ_self _)⟩⟩);(exact lT HB.out.size sI);(intro v1 a3 aM ae bn be;(have aO:Hid (a3.cell? ⟨w.heap.size,j,none⟩=some (U32 x)):=(cB (ae.out.block w.heap.size (Nat.lt_of_lt_of_le (lb ak.out) sI) (own_gt L.out aq.out))).trans (by first |exact (Below.cell (Below.alloc bR nl _) (lb ak.out)).trans ao |exact ao)))) |fail)
     go_wp2;go_roundw
     case rel=>
      refine ⟨j+1,by omega,by go_num,?_,?_⟩
      ·show Own ..
       rw [aK.out];exact aM.out
      ·exact (ybd (HB.out.alloc HB.out.size _) _).trans (ybe ae.out (fun j hj=>(ol L.out j hj).1) (lT HB.out.size sI))
     case measure=>simp [intOf];omega
    ·obtain rfl:j=8:=by omega
     have bo:=ybU (P:=prog) 40 5 9 underlying40 underlying5 underlying9 wr wr.heap.size A5 (4*8) c5 N ⟨am.out,HS5.out⟩;go_wp2;go_ret;refine ⟨?_,bt HBr.out HB.out⟩
     have he:shaB xs=N:=by
      rw [aH.out];unfold shaB;rw [<-List.length_append,<-a2.out,<-HV.out];rfl
     rw [he];rfl
