import Derived.Shelf.SlIterI.Nil
import Derived.Test.YtpdledjgbgalcaaGreatDoorPu
namespace Go.Proofs.YtpdledjgbgalcaaGreatDoor
set_option maxHeartbeats 16000000
set_option maxRecDepth 100000
open Go.Shelf Go.Proofs.Tryz
def Tryz.keysA_ren:Go.Shelf.Ren:=⟨fun |7=>54 |10=>110 |n=>n,fun |23=>111 |26=>3 |3=>4 |28=>114 |0=>0 |27=>113 |33=>181 |4=>4 |n=>n,fun |n=>n⟩
theorem Tryz.keysA:Go.Proofs.SlLaysZI.n7 prog Tryz.keysA_ren:={
 mixed:=by kernel_rfl
 f7:=⟨f54.name,by decide,func54.trans (congrArg some ya9)⟩
 f10:=⟨f110.name,by decide,func110.trans (congrArg some ya9)⟩
 t0:=underlying0
 a0:=isAgg0
 z0:=sizeOf0
 v0:=zeroValue0
 t4:=underlying4
 a4:=isAgg4
 z4:=sizeOf4
 v4:=zeroValue4
 t23:=underlying111
 a23:=isAgg111
 z23:=sizeOf111
 v23:=zeroValue111
 t26:=underlying3
 a26:=isAgg3
 z26:=sizeOf3
 v26:=zeroValue3
 t27:=underlying113
 a27:=isAgg113
 z27:=sizeOf113
 v27:=zeroValue113
 t28:=underlying114
 a28:=isAgg114
 z28:=sizeOf114
 v28:=zeroValue114
 t33:=underlying181
 a33:=isAgg181
 z33:=sizeOf181
 v33:=zeroValue181}
def Tryz.sortedA_ren:Go.Shelf.Ren:=⟨fun |6=>53 |8=>108 |9=>109 |11=>175 |13=>177 |12=>176 |23=>229 |24=>230 |14=>220 |15=>221 |16=>222 |17=>223 |18=>224 |19=>225 |20=>226 |21=>227 |22=>228 |25=>254 |26=>255 |27=>256 |28=>257 |29=>258 |30=>259 |31=>269 |n=>n,fun |26=>3 |28=>114 |24=>27 |0=>0 |3=>3 |37=>247 |48=>250 |50=>93 |4=>4 |40=>284 |39=>283 |45=>287 |5=>5 |9=>9 |51=>310 |55=>279 |57=>321 |58=>317 |33=>181 |n=>n,fun |n=>n⟩
theorem Tryz.sortedA:Go.Proofs.SlLaysZI.n6 prog Tryz.sortedA_ren:={
 mixed:=by kernel_rfl
 f6:=⟨f53.name,by decide,func53.trans (congrArg some ya9)⟩
 f8:=⟨f108.name,by decide,func108.trans (congrArg some ya9)⟩
 f11:=⟨f175.name,by decide,func175.trans (congrArg some ya9)⟩
 t0:=underlying0
 a0:=isAgg0
 z0:=sizeOf0
 v0:=zeroValue0
 t24:=underlying27
 a24:=isAgg27
 z24:=sizeOf27
 v24:=zeroValue27
 t26:=underlying3
 a26:=isAgg3
 z26:=sizeOf3
 v26:=zeroValue3
 t28:=underlying114
 a28:=isAgg114
 z28:=sizeOf114
 v28:=zeroValue114
 i26:=by kernel_rfl}
open Go.RowKit Go.Lib Go.Maps Go.Sort Go.Shelf
set_option linter.unusedVariables false
set_option linter.unusedSimpArgs false
def MapS (w:World) (b n:Nat) (S:Int->Bool):Prop:=∃D:DataW Value,w.ownsMap prog 3 RV b n D/\∀x,Maps.has D (.int .i64 x)=S x
theorem MapS.made (w:World):MapS (w.alloc (.map #[] 0)) w.heap.size 0 (fun _=>false):=⟨_,World.ownsMap_made w prog _ _,fun _=>rfl⟩
theorem MapS.block {w w':World} {b n:Nat} {S:Int->Bool} (h:MapS w b n S) (hb:w'.heap[b]? =w.heap[b]?):MapS w' b n S:=by
 obtain ⟨D,⟨es,ck,h1,h2⟩,h3⟩:=h;exact ⟨D,⟨es,ck,hb.trans h1,h2⟩,h3⟩
theorem MapS.lt {w:World} {b n:Nat} {S:Int->Bool} (h:MapS w b n S):b < w.heap.size:=by
 obtain ⟨D,h1,_⟩:=h;exact h1.lt
theorem MapS.on {w w':World} {b n:Nat} {S:Int->Bool} (h:MapS w b n S) (hb:Below w.heap.size w w'):MapS w' b n S:=h.block (hb.block _ h.lt)
theorem MapS.mono {w:World} {b n n':Nat} {S:Int->Bool} (h:MapS w b n S) (hn:n<=n'):MapS w b n' S:=by
 obtain ⟨D,h1,h2⟩:=h;exact ⟨D,h1.mono hn,h2⟩
theorem MapS.store {w:World} {b n:Nat} {S:Int->Bool} (h:MapS w b n S) (hn:n < maxLen) {d:Int} (hd:int64 d) (v:Value):
 ∃G,(Instr.mapUpdate 111 (.map (some b)) (.int .i64 d) v).run prog w= .ok () G/\MapS G b (n+1) (fun x=>S x||decide (x=d))/\w.grownBy G (some b):=by
 obtain ⟨D,h1,h2⟩:=h;obtain ⟨G,r1,r2,r3⟩:=h1.update (Maps.int_keyed underlying3) underlying111 hn (kI_of hd) (show RV v=some (.held v,[]) from rfl);refine ⟨G,r1,⟨_,r2,fun x=>?_⟩,r3⟩
 by_cases H:x=d
 ·subst H;rw [Maps.has_put_same h1.isMap ((Maps.int_keyed underlying3).key (kI_of hd))];simp
 ·rw [Maps.has_put_other (fun e=>H (by injection e)),h2 x];simp [H]
theorem sorts_in (m:Nat):AnyZI.SortsIn prog Tryz.sortedA_ren Fence.wide m:=
 ⟨fun blk H cap L W K G J=>callsIn_wide.2 (Tryz.slices_Sort_int blk H cap L W K G J),fun p cap W=>callsIn_wide.2 (Tryz.slices_Sort_int_none p cap W)⟩
def NwI (l:List Int) (w:World) (base:Nat) (w0:World) (e:Ending) (w':World):Prop:=∃v,e= .returned v/\Own I 3 w' base v l/\Below w0.heap.size w0 w'
theorem keys_any (b:Nat) (w:World):Calls prog 54 #[.map (some b)] w fun e G=>e= .returned (.func (.func 110) #[] #[.pointer (some ⟨w.heap.size,0,none⟩)])/\G=w.alloc (.cells #[.map (some b)] 111):=
 (callsIn_wide (n:=6)).1 (AnyZI.keys_in Tryz.keysA Fence.wide 6 trivial rfl (some b) w)
theorem sorted_any (b n:Nat) (S:Int->Bool) (l:List Int) (w:World) (hS:MapS w b n S) (hn:n<=1000) (hp:l.Pairwise (· < ·)) (hm:∀x,x∈l↔S x=true):
 Calls prog 53 #[.func (.func 110) #[] #[.pointer (some ⟨w.heap.size,0,none⟩)]] (w.alloc (.cells #[.map (some b)] 111)) (NwI l w w.heap.size w):=by
 obtain ⟨D,G,T⟩:=hS;have W:=G.lt;have aa:=G.size_le;refine (callsIn_wide (n:=5)).1 ?_
 have U:SeqGives Fence.wide 2 prog 110 #[.pointer (some ⟨w.heap.size,0,none⟩)] encZ (fun L=>L.Perm (intKeys D)) (Maps.size D) (w.alloc (.cells #[.map (some b)] 111)):=
  AnyZI.keys_gives (ρ:=Tryz.keysA_ren) {Tryz.keysA with} Fence.wide _ trivial rfl om w.heap.size b n D _ sI sI (by
   obtain ⟨es,M,O,Y,hs,hD⟩:=G
   exact ⟨es,M,(zx _ _ b W).trans O,Y,hs,hD⟩)
 have Z:=AnyZI.sorted_in Tryz.sortedA Fence.wide 5 trivial trivial trivial trivial rfl om (sorts_in _) (enters_of func109 ya9 rfl) 110 #[.pointer (some ⟨w.heap.size,0,none⟩)] trivial (enters_of func110 ya9 rfl) _ _ ya5 om _ U;refine Z.mono ?_;rintro e w' ⟨v,L,rfl,J,H,_,O⟩
 have hl:l.Perm (intKeys D):=by
  have z:CollectedI D (fun _=>false) l:=⟨hp.imp (fun h=>Int.ne_of_lt h),fun x=>by rw [hm x,T x];simp⟩;exact z.perm G (Maps.int_keyed underlying3) underlying3 (fun _=>rfl)
 have K:L.mergeSort (fun x y=>decide (x<=y))=l:=by
  have h1:=mergeSort_of_perm_i (J.trans hl.symm);have h2:l.mergeSort leI=l:=List.mergeSort_of_pairwise (hp.imp (fun h=>decide_eq_true (Int.le_of_lt h)));exact h1.trans h2
 rw [K] at H;have N:L.length=l.length:=(J.trans hl.symm).length_eq;rw [N] at H;exact ⟨v,rfl,ownsRow_base_a H sI,((Below.refl _ w).alloc nl _).trans (O.mono sI)⟩
def hdB (al:List Ac) (d:Int):Bool:=al.any fun a=>decide (a.R.hd=d)
def hdL (S:Int->Bool):List Int:=((List.range 12).map Int.ofNat).filter S
theorem hdL_sorted (S:Int->Bool):(hdL S).Pairwise (· < ·):=by
 refine List.Pairwise.filter _ (List.pairwise_map.2 ((List.pairwise_lt_range).imp fun h=>Int.ofNat_lt.2 h))
theorem hdL_mem {S:Int->Bool} (h:∀x,S x=true->0<=x/\x<=11) (x:Int):x∈hdL S↔S x=true:=by
 unfold hdL;rw [List.mem_filter,List.mem_map]
 constructor
 ·exact fun g=>g.2
 ·intro g;obtain ⟨h1,h2⟩:=h x g;exact ⟨⟨x.toNat,List.mem_range.2 om,by show (x.toNat:Int)=x;omega⟩,g⟩
theorem acF_hd {k d q:Int} {bs:List Int} (H:k=6) (h0:(acF k d q bs).er=0):(0<=(acF k d q bs).R.hd/\(acF k d q bs).R.hd<=11)/\numB (acF k d q bs).d (acF k d q bs).q=true:=by
 unfold acF at h0 ⊢;rw [if_pos H] at h0 ⊢
 split at h0
 ·next h1=>
  split at h0
  ·next h2=>
   rw [if_pos h1,if_pos h2];unfold okT at h2;rw [Bool.and_eq_true] at h2;have G:=h2.2;unfold okR at G;rw [Bool.and_eq_true] at G;exact ⟨(yb2 G.2).1,h1⟩
  ·exact absurd h0 de
 ·exact absurd h0 de
theorem cgL_ok {op:Ac->Bool} {l:List EnR}:∀p∈cgL op l,((0<=p.1.R.hd/\p.1.R.hd<=11)/\numB p.1.d p.1.q=true)/\op p.1=true:=fun p hp=>by
 obtain ⟨e,G,h⟩:=List.mem_filterMap.1 hp;unfold cgE at h
 split at h
 ·next g=>
  injection h with h;subst h;exact ⟨acF_hd g.1 g.2.1,g.2.2⟩
 ·cases h
theorem opnV_hd {x:Vw} {J:List EnR} {vs:List VtR} {G H:List ByteArray} {d:Int} (h:hdB (opnV x J vs G H) d=true):0<=d/\d<=11:=by
 obtain ⟨a,ha,h1⟩:=List.any_eq_true.1 h;obtain ⟨p,hp,rfl⟩:=List.mem_map.1 ha;have:=(cgL_ok p hp).1.1;rw [of_decide_eq_true h1] at this;exact this
theorem sizeAr (r:AcR):(prog.info? 39).map (·.size)=some ((fAr r).toArray).size:=by kernel_rfl
theorem fAr_all (r:AcR):((fAr r).toArray).all (·.oneCell')=true:=by
 rw [Array.all_eq_true'];intro u hu;exact fAr_one r u (by simpa using hu)
theorem accused_any (x:Vw) (H:List EnR) (vs:List VtR) (G L:List ByteArray) (ae:List Int) (B:Nat) (w:World) (hG:Glob w) (hV:VwIn w B x H vs G L ae) (hB:B<=w.heap.size) (Y:VwOk x H):
 Calls prog 19 #[.agg (cVw x)] w (NwI (hdL (hdB (opnV x H vs G L))) w w.heap.size w):=by
 obtain ⟨K,J⟩:∃K:World,K=(w.alloc (.cells (cVw x) 29)).alloc (.map #[] 0):=⟨_,rfl⟩
 have M:Below w.heap.size w K:=by rw [J];exact bl.alloc sI _
 have af:K.heap[w.heap.size]? =some (.cells (cVw x) 29 (0,0)):=by rw [J];exact (zx _ _ _ sI).trans (zy w _)
 have ap:MapS K (w.heap.size+1) 0 (fun _=>false):=by
  have:=MapS.made (w.alloc (.cells (cVw x) 29));rw [J];simpa using this
 obtain ⟨v0,v1,v2,v3,v4,v5,v6⟩:=ybo af;have am:=lh (open_any x H vs G L ae B K (hG.on M) (hV.up M hB) (lT hB M.size) Y);obtain ⟨al,N⟩:=gx (opnV x H vs G L);have au:Hid (∀d,hdB al d=true->0<=d/\d<=11):=fun d h=>opnV_hd (by rw [N];exact h)
 have HLN:Hid (al.length<=1000):=by
  show _<=_;rw [<-N];have h1:=ydO (opV x H vs G L) (frE H);have h2:=yci H;have h3:H.length=x.E.n:=hV.E.1.1;have h4:=Y.1;unfold opnV;simp;omega
 rw [N] at am ⊢;have HB1:=lh M;have HWE:=lh J;have ao:=lh ap;have aJ:= @run_makeMap prog;clear hG hV hB Y M af J N ap;go_enter func19,ntmps19;go_upto_region 2 with fail
 clear aJ;rw [<-HWE.out];go_wp2_with (go_at_call 17;(with_reducible refine am.out.mono ?_);rintro e V3 ⟨v,rfl,T,rs,ho,hr,hm⟩;(obtain ⟨CA,cc,O,hc,Z,ac⟩:=OwnN.shape ycf ho);subst O;(have aF:=lh Z);(have aI:=lh ac);(have HMM:=lh hm);(have az:=lh T);(have HCL:Hid (rs.length=al.length):=by (show _=_;rw [<-HMM.out];simp));(have ak:=lh (ao.out.on T));clear T ho hr hm hc Z ac);clear v0 v1 v2 v3 v4 v5 v6;have aa:Hid (Below w.heap.size w V3):=bt HB1.out az.out;have ax:rs.length<=1000:=by have h1:=HLN.out;have h2:=HCL.out;omega
 have HS1:Hid (w.heap.size+1 < K.heap.size):=ao.out.lt
 go_loopw [10] (fun i wr=>∃k:Nat,k<=rs.length/\i= .int .i64 k/\Hid (But (fun i=>i=w.heap.size+1) V3 wr)/\Hid (MapS wr (w.heap.size+1) k (hdB (al.take k)))) (fun i _=>rs.length - (intOf i).toNat)
 case atStart=>exact ⟨0,Nat.zero_le _,rfl,But.refl _ _,ak.out⟩
 case round=>
  clear ak;obtain ⟨k,Y,rfl,HBr,HR⟩:=hrel
  by_cases hlt:k < rs.length
  ·obtain ⟨b,z,r,rfl,aC,U,ah⟩:=aF.out.at_ hlt;have aM:(k:Int) < (rs.length:Int):=by omega
   have HG:=lh U;have aq:Hid (al[k]? =some r.a):=by show _=_;rw [<-HMM.out,List.getElem?_map,U];rfl
   have W:wr.heap[b]? =V3.heap[b]? :=HBr.out.block b aC (by have h1:K.heap.size<=b:=aI.out b rfl;have h2:=HS1.out;omega);have aL:Hid (wr.rangeAt b (z+k*20) (fAr r)):=fun j v O=>by rw [Nat.add_assoc];exact (cB W).trans (ah j v O)
   have aG:Hid ((wr.alloc (.cells zA 39)).heap[wr.heap.size]? =some (.cells zA 39 (0,0))):=zy wr _
   have aB:Hid (hdB (al.take (k+1))=fun x=>hdB (al.take k) x||decide (x=r.a.R.hd)):=by
    show _=_
    funext x
    unfold hdB;rw [List.take_add_one,aq.out,List.any_append];simp [eq_comm]
   have aH:Hid (int64 r.a.R.hd):=by
    have h1:=au.out r.a.R.hd (List.any_eq_true.2 ⟨r.a,List.mem_of_getElem? aq.out,by simp⟩);exact ⟨Int.le_trans de h1.1,Int.le_trans h1.2 de⟩
   clear ah U W
   go_upto_region 5 with (first
    |(with_reducible refine wpList_load_mid rfl 39 (.tmp 12) rfl b (z+k*20) rfl (fAr r) _ aL.out underlying39 rfl (ycv r) ?_)
    |((with_reducible refine ybc (o:=⟨none,_,_,_,_,_⟩) rfl 39 (.tmp 5) (.tmp 13) rfl wr.heap.size 39 _ _ rfl rfl aG.out (sizeAr r) rfl (fAr_all r) ?_);intro W4 aK ay;(have ag:Hid (Below wr.heap.size wr W4):=((Below.refl _ wr).alloc nl (.cells zA 39)).trans (ay.out.below sI (fun i hi=>by subst hi;omega)))))
   obtain ⟨z0,z1,z2,z3,z4,z5⟩:=ybu aK.out;obtain ⟨W5,r5,ar,aj⟩:=(HR.out.on ag.out).store ya5 aH.out (.bool true);have aD:=lh ar;have HG5:=lh aj;clear ar aj;go_wp2_with fail;go_roundw;case rel=>exact ⟨k+1,by omega,by go_num,(HBr.out.trans (But.of_below (p:=fun _=>False) ag.out) (fun i hi=>hi.elim)).trans (q:=fun i=>i=w.heap.size+1) ⟨HG5.out.os,HG5.out.tape,HG5.out.output,HG5.out.size,fun i hi aE=>HG5.out.block i hi (fun e=>aE (by injection e))⟩ (fun i hi=> .inl hi),by rw [aB.out];exact aD.out⟩
   case measure=>simp [intOf];omega
  ·obtain rfl:k=rs.length:=by omega
   rw [List.take_of_length_le (by have:=HCL.out;omega)] at HR;have aA:=lh (sorted_any (w.heap.size+1) rs.length (hdB al) (hdL (hdB al)) wr HR.out ax (hdL_sorted _) (hdL_mem au.out));have ai:Hid (Below w.heap.size w wr):=aa.out.trans (HBr.out.below aa.out.size (fun i hi=>by subst hi;omega))
   go_wp2_with (first
    |(go_at_call 54;(with_reducible refine (keys_any _ _).mono ?_);rintro e w5 ⟨rfl,rfl⟩)
    |(go_at_call 53;(with_reducible refine aA.out.mono ?_);rintro e w6 ⟨v,rfl,O,aw⟩;(have HV:=lh O);(have HB6:=lh aw);clear O aw))
   go_ret;exact ⟨v,rfl,World.ownsRow.mono HV.out ai.out.size,bt ai.out HB6.out⟩
open Go.RowKit Go.Lib
theorem But.setCells (b:Nat):∀(vs:List Value) (f:Nat) (w:World),But (fun k=>k=b) w (w.setCells b f vs)
 | [],f,w=>But.refl _ _
 |v::r,f,w=>(But.setCell (p:=fun k=>k=b) (x:=⟨b,f,none⟩) (But.refl _ _) (.inl rfl) v).trans (But.setCells b r (f+1) _) (fun i hi=> .inl hi)
theorem wpList_clearN {P:Program} {ops:Array Oper} {H:List Oper} {o:Oper} {a:Act} {w:World} {Q:Exit->Act->World->Prop} (N:o.guard=none) (x:Operand) (t e:TypeId) (U:o.op= .call {callee:= .builtin .clear,args:=#[x],argTypes:=#[t]})
 (zc:Array Value) (s:Nat) (ht:P.underlying t=some (.slice e)) (hz:∀w,(zeroValue e).run P w= .ok (.agg zc) w) (hs:zc.size=s) (h1:zc.all (·.oneCell')=true) (h0:0 < s) (b f n c:Nat) (hx:a.eval x= .slice (some ⟨b,f,none⟩) n c) (hth:w.there b f (n*s))
 (h:∀w',Hid (∃vs,w'=w.setCells b f vs)->wpList P ops Q H (a.put o.dst (.tuple #[])) w'):wpList P ops Q (o::H) a w:=by
 refine wpList_plain N fun K O=>?_
 cases n with
 |zero=>
  have G:(Builtin.clear_ #[t] o.type #[.slice (some ⟨b,f,none⟩) 0 c]).run P w= .ok (.tuple #[]) w:=by simp [Builtin.clear_,run_underlying ht]
  unfold Oper.wp;simp [execOp,U,hx,G,resolve,invoke,builtin,Result.andThen];exact O _ _ (h w ⟨[],rfl⟩)
 |succ m=>
  have hl:(Builtin.zeroCells zc (m+1)).toList.length=(m+1)*s:=by simp [Builtin.zeroCells,hs]
  have L:∀v∈(Builtin.zeroCells zc (m+1)).toList,v.oneCell'=true:=by
   intro v T;simp only [Builtin.zeroCells,Array.toList_map,Array.toList_range,List.mem_map,List.mem_range] at T;obtain ⟨i,_,rfl⟩:=T;have hi:i % zc.size < zc.size:=Nat.mod_lt _ om;rw [getElem!_pos zc _ hi];exact Array.all_eq_true.1 h1 _ hi
  have J:=run_storeCells_cells (P:=P) b f (Builtin.zeroCells zc (m+1)).toList 0 w (fun j hj=>(hth j (by rw [hl] at hj;exact hj)).1) (fun j hj=>(hth j (by rw [hl] at hj;exact hj)).2) L;simp only [Nat.add_zero] at J;have M:(Value.agg zc).cells=zc:=rfl
  have G:(Builtin.clear_ #[t] o.type #[.slice (some ⟨b,f,none⟩) (m+1) c]).run P w= .ok (.tuple #[]) (w.setCells b f (Builtin.zeroCells zc (m+1)).toList):=by
   simp [Builtin.clear_,run_underlying ht,hz,M,J]
  unfold Oper.wp;simp [execOp,U,hx,G,resolve,invoke,builtin,Result.andThen];exact O _ _ (h _ ⟨_,rfl⟩)
theorem zeroAr (w:World):(zeroValue 39).run prog w= .ok (.agg zA) w:=by kernel_rfl
theorem zA_all:zA.all (·.oneCell')=true:=by kernel_rfl
theorem ag1_any (r:AcR) (q:Nat) (d:Int) (w:World) (L:∀V,Below w.heap.size w V->V.cell? ⟨q,0,none⟩=some (.int .i64 d)):
 Calls prog 59 #[.agg (cAr r),.pointer (some ⟨q,0,none⟩)] w fun e M=>e= .returned (.bool (!decide (r.a.R.hd=d)))/\Below w.heap.size w M:=by
 obtain ⟨H,G⟩:∃H:World,H=w.alloc (.cells (cAr r) 39):=⟨_,rfl⟩
 have J:Below w.heap.size w H:=by rw [G];exact bl
 have K:H.heap[w.heap.size]? =some (.cells (cAr r) 39 (0,0)):=by rw [G];exact zy w _
 obtain ⟨T,O,U,_⟩:=ybu K;have W:=L H J;have HB1:=lh J;have HWE:=lh G;obtain ⟨t,ht⟩:∃t:Bool,(!decide (r.a.R.hd=d))=t:=⟨_,rfl⟩
 rw [ht];have N:(r.a.R.hd != d)=t:=by rw [<-ht];by_cases h:r.a.R.hd=d<;>simp [h]
 clear L J K G ht;go_enter func59,ntmps59;go_upto_region 1 with fail
 rw [<-HWE.out];go_wp2_with fail;go_ret;exact ⟨rfl,HB1.out⟩
theorem agIndex_any (A:Option Addr) (g n c:Nat) (rs:List AcR) (q:Nat) (d:Int) (w:World) (hA:0 < n->A=some ⟨g,0,none⟩) (hl:rs.length=n) (hn:n<=1000) (hg:0 < n->g < w.heap.size) (L:∀k r,rs[k]? =some r->w.rangeAt g (k*20) (fAr r)) (hq:∀V,Below w.heap.size w V->V.cell? ⟨q,0,none⟩=some (.int .i64 d)):
 Calls prog 117 #[.slice A n c,(.func (.func 59) #[] #[.pointer (some ⟨q,0,none⟩)])] w fun e w'=>∃z:Int,e= .returned (.int .i64 z)/\((z= -1/\∀r∈rs,r.a.R.hd=d)∨∃k:Nat,z=k/\k < n/\(∀r∈rs.take k,r.a.R.hd=d)/\∃r,rs[k]? =some r/\r.a.R.hd≠d)/\Below w.heap.size w w':=by
 have HQ:=lh hq;have W:=lh L;have HL:=lh hl;have HG:=lh hg;have HA:=lh hA;have O:Hid (Below w.heap.size w w):=Below.refl _ _;have U:Hid (∀r∈rs.take 0,r.a.R.hd=d):=fun r h=>by simp at h
 clear hq L hl hg hA;go_enter func117,ntmps117;go_wp2_with fail
 go_loopw [8] (fun i wr=>∃k:Nat,k<=n/\i= .int .i64 k/\Hid (∀r∈rs.take k,r.a.R.hd=d)/\Hid (Below w.heap.size w wr)) (fun i _=>n - (intOf i).toNat)
 case atStart=>exact ⟨0,Nat.zero_le _,rfl,U,O⟩
 case round=>
  clear U O;obtain ⟨k,hk,rfl,Y,HBr⟩:=hrel
  by_cases hlt:k < n
  ·obtain rfl:=HA.out om;have N:g < w.heap.size:=HG.out om;obtain ⟨r,hr⟩:∃r,rs[k]? =some r:=⟨_,List.getElem?_eq_getElem (by rw [HL.out];exact hlt)⟩
   have aa:(k:Int) < (n:Int):=by omega
   have T:Hid (wr.rangeAt g (k*20) (fAr r)):=fun j v hv=>(cB (HBr.out.block g N)).trans (W.out k r hr j v hv);have HC:=lh (ag1_any r q d wr (fun V hb=>HQ.out V (bt HBr.out hb)));have M:=lh hr;clear hr N
   by_cases H:r.a.R.hd=d
   ·rw [decide_eq_true H] at HC;have K:=lh H;clear H;go_wp2_with (first |(with_reducible refine wpList_load_mid rfl 39 (.tmp 14) rfl g (k*20) rfl (fAr r) _ T.out underlying39 rfl (ycv r) ?_) |(go_at_call 59;(with_reducible refine HC.out.mono ?_);rintro e Z ⟨rfl,G⟩;(have J:Hid (Below w.heap.size w Z):=bt HBr.out G);clear G));go_roundw
    case rel=>exact ⟨k+1,by omega,by go_num,fun r' h'=>by
     rw [List.take_add_one,M.out] at h';rcases List.mem_append.1 h' with h1 |h1
     ·exact Y.out r' h1
     ·obtain rfl:r'=r:=by simpa using h1
      exact K.out,J.out⟩
    case measure=>simp [intOf];omega
   ·rw [decide_eq_false H] at HC;have K:=lh H;clear H;go_wp2_with (first |(with_reducible refine wpList_load_mid rfl 39 (.tmp 14) rfl g (k*20) rfl (fAr r) _ T.out underlying39 rfl (ycv r) ?_) |(go_at_call 59;(with_reducible refine HC.out.mono ?_);rintro e Z ⟨rfl,G⟩;(have J:Hid (Below w.heap.size w Z):=bt HBr.out G);clear G));go_ret;exact ⟨_,rfl,.inr ⟨k,rfl,hlt,Y.out,r,M.out,K.out⟩,J.out⟩
  ·obtain rfl:k=n:=by omega
   go_wp2_with fail
   go_ret;exact ⟨_,rfl,.inl ⟨rfl,fun r h=>Y.out r (by rw [List.take_of_length_le (by rw [HL.out];exact Nat.le_refl _)];exact h)⟩,HBr.out⟩
def putL:List Value->Nat->List Value->List Value
 |xs,_,[]=>xs
 |xs,o,v::r=>putL (xs.set o v) (o+1) r
theorem putL_mid:∀(V C A B:List Value),V.length=C.length->putL (A++C++B) A.length V=A++V++B
 | [],C,A,B,h=>by
   obtain rfl:C=[]:=List.eq_nil_of_length_eq_zero h.symm;rfl
 |v::V,[],A,B,h=>by cases h
 |v::V,c::C,A,B,h=>by
  have G:=putL_mid V C (A++[v]) B (by simpa using h);unfold putL;have e:(A++(c::C)++B).set A.length v=(A++[v])++C++B:=by simp
  rw [e];have H:A.length+1=(A++[v]).length:=by simp
  rw [H,G];simp
theorem putL_off:∀(V xs:List Value) (o:Nat),xs.length<=o->putL xs o V=xs
 | [],xs,o,h=>rfl
 |v::V,xs,o,h=>by
  unfold putL;rw [List.set_eq_of_length_le h];exact putL_off V xs (o+1) om
theorem flat_put {α:Type} {f:α->List Value} {s:Nat} (hs:∀x,(f x).length=s) (xs:List α) (k:Nat) (G:k < xs.length) (y:α):putL (xs.flatMap f) (k*s) (f y)=(xs.set k y).flatMap f:=by
 have H:xs=xs.take k++xs[k]::xs.drop (k+1):=by
  rw [List.getElem_cons_drop,List.take_append_drop]
 have K:xs.set k y=xs.take k++y::xs.drop (k+1):=by rw [List.set_eq_take_append_cons_drop,if_pos G]
 rw [K]
 conv=>lhs;rw [H]
 rw [List.flatMap_append,List.flatMap_cons,List.flatMap_append,List.flatMap_cons,<-List.append_assoc,<-List.append_assoc];have J:k*s=((xs.take k).flatMap f).length:=by rw [ycg hs,List.length_take,Nat.min_eq_left (Nat.le_of_lt G)]
 rw [J];exact putL_mid _ _ _ _ (by rw [hs,hs])
theorem ydP {base:Nat} {e:TypeId} {size g n cap:Nat}:∀(vs:List Value) (o:Nat) (w:World) (xs:List Value),w.ownsRow base e size (.slice (some ⟨g,0,none⟩) n cap) n xs->(w.setCells g o vs).ownsRow base e size (.slice (some ⟨g,0,none⟩) n cap) n (putL xs o vs)
 | [],o,w,xs,h=>h
 |v::r,o,w,xs,h=>ydP r (o+1) _ _ (World.ownsRow.stored h o v).1
section
variable {α:Type} {f:α->List Value} {s:Nat} {e:TypeId} {w:World} {base gb n c:Nat} {xs:List α}
theorem OwnN.len_ (h:OwnN f s e w base (.slice (some ⟨gb,0,none⟩) n c) xs):n=xs.length:=by
 rcases h.2 with ⟨h',_⟩ |⟨g',cap',cur,h',_⟩
 ·cases h'
 ·simp at h';exact h'.2.1
theorem OwnN.storedN (hs:∀x,(f x).length=s) (h:OwnN f s e w base (.slice (some ⟨gb,0,none⟩) n c) xs) {y:α} {k:Nat} (G:k < xs.length):
 OwnN f s e (w.setCells gb (k*s) (f y)) base (.slice (some ⟨gb,0,none⟩) n c) (xs.set k y):=by
 obtain rfl:=h.len_;unfold OwnN;rw [List.length_set,<-flat_put hs xs k G y];exact ydP (f y) (k*s) _ _ h
theorem OwnN.past (hs:∀x,(f x).length=s) (h:OwnN f s e w base (.slice (some ⟨gb,0,none⟩) n c) xs) {o:Nat} (G:n*s<=o) (vs:List Value):OwnN f s e (w.setCells gb o vs) base (.slice (some ⟨gb,0,none⟩) n c) xs:=by
 obtain rfl:=h.len_;have h1:=ydP vs o _ _ h;rw [putL_off _ _ _ (by rw [ycg hs];exact G)] at h1;exact h1
theorem OwnN.there (hs:∀x,(f x).length=s) (h:OwnN f s e w base (.slice (some ⟨gb,0,none⟩) n c) xs):w.there gb 0 (n*s):=fun j hj=>by
 obtain rfl:=h.len_;rw [Nat.zero_add];refine ⟨?_,World.ownsRow.frozenAt h j⟩;rw [World.ownsRow.cellAt h j hj,List.getElem?_eq_getElem (by rw [ycg hs];exact hj)];rfl
theorem OwnN.cut (hs:∀x,(f x).length=s) (h:OwnN f s e w base (.slice (some ⟨gb,0,none⟩) n c) xs) {k:Nat} (U:k<=n):OwnN f s e w base (.slice (some ⟨gb,0,none⟩) k c) (xs.take k):=by
 obtain rfl:=h.len_;have G:(xs.take k).length=k:=by simp;omega
 unfold OwnN World.ownsRow;rw [G];refine ⟨by rw [ycg hs,G],?_⟩;rcases h.2 with ⟨H,_⟩ |⟨W,L,J,H,h1,h2,Y,N,M,T⟩
 ·cases H
 ·simp at H;obtain ⟨rfl,rfl⟩:=H;refine .inr ⟨gb,c,J,rfl,h1,h2,by omega,N,M,?_⟩;have K:(J.toList.take (xs.length*s)).take (k*s)=(xs.flatMap f).take (k*s):=by rw [T]
  rw [List.take_take,Nat.min_eq_left (Nat.mul_le_mul_right _ U)] at K;rw [K];have O:xs.flatMap f=(xs.take k).flatMap f++(xs.drop k).flatMap f:=by rw [<-List.flatMap_append,List.take_append_drop]
  rw [O,List.take_append_of_le_length (by rw [ycg hs,G];exact Nat.le_refl _),List.take_of_length_le (by rw [ycg hs,G];exact Nat.le_refl _)]
end
theorem there_part {w:World} {g o n m:Nat} (h:w.there g 0 n) (hm:o+m<=n):w.there g o m:=fun j hj=>by
 have h1:=h (o+j) om;rwa [Nat.zero_add] at h1
theorem But.grownBy {g:Nat} {w w':World} (h:But (fun k=>k=g) w w'):w.grownBy w' (some g):=⟨h.os,h.tape,h.output,h.size,fun k hk hne=>h.block k hk (fun e=>hne (by rw [e]))⟩
def DlR (d:Int) (rs:List AcR) (g n c base:Nat) (w:World) (wr:World) (i j:Nat):Prop:=
 But (fun k=>k=g) w wr/\∃ys,OwnN fAr 20 39 wr base (.slice (some ⟨g,0,none⟩) n c) ys/\ys.take i=(rs.take j).filter (fun r=>decide (r.a.R.hd=d))/\ys.drop j=rs.drop j
def OpR2 (al:List Ac) (w:World) (base b:Nat) (wr:World) (v:Value):Prop:=∃rs:List AcR,OwnN fAr 20 39 wr base v rs/\(∀r∈rs,ArO wr b r)/\rs.map (·.a)=al
theorem DlR.row {d:Int} {rs:List AcR} {g n c base:Nat} {w wr:World} {i j:Nat} (h:DlR d rs g n c base w wr i j) (hj:j < n):∃r,rs[j]? =some r/\wr.rangeAt g (j*20) (fAr r):=by
 obtain ⟨_,ys,K,_,hd⟩:=h;obtain rfl:=K.len_;refine ⟨ys[j],?_,?_⟩
 ·have h1:(ys.drop j)[0]? =(rs.drop j)[0]? :=by rw [hd]
  rw [List.getElem?_drop,List.getElem?_drop,Nat.add_zero] at h1;rw [<-h1,List.getElem?_eq_getElem hj]
 ·obtain ⟨A,T,e,_,hs,_⟩:=OwnN.shape ycf K;injection e with e1 e2 e3;subst e1;obtain ⟨b,M,x,G,O,H,J⟩:=hs.at_ hj;have N:=(hs.2 om);injection G with G;injection G with G e6 _;subst G e6;rw [List.getElem?_eq_getElem hj] at H;injection H with H;subst H;intro k v L
  have:=J k v L;rwa [Nat.zero_add] at this
theorem DlR.drop_ {d:Int} {rs:List AcR} {g n c base:Nat} {w wr J:World} {i j:Nat} (h:DlR d rs g n c base w wr i j) {r:AcR} (hr:rs[j]? =some r) (hd:r.a.R.hd≠d) (G:Below wr.heap.size wr J):DlR d rs g n c base w J i (j+1):=by
 obtain ⟨h0,ys,K,ht,H⟩:=h;refine ⟨h0.trans (But.of_below G) (fun i hi=> .inl hi),ys,K.on G,?_,?_⟩
 ·rw [List.take_add_one,hr,List.filter_append,<-ht];simp [hd]
 ·rw [<-List.drop_drop,H,List.drop_drop]
theorem DlR.keep_ {d:Int} {rs:List AcR} {g n c base:Nat} {w wr H:World} {i j:Nat} (h:DlR d rs g n c base w wr i j) {r:AcR} (hr:rs[j]? =some r) (hd:r.a.R.hd=d) (L:i < j) (hj:j < n) (G:Below wr.heap.size wr H):DlR d rs g n c base w (H.setCells g (i*20) (fAr r)) (i+1) (j+1):=by
 obtain ⟨h0,ys,K,ht,J⟩:=h;obtain rfl:=K.len_;refine ⟨(h0.trans (But.of_below G) (fun i hi=> .inl hi)).trans (But.setCells g _ _ _) (fun i hi=> .inl hi),ys.set i r,OwnN.storedN ycf (K.on G) om,?_,?_⟩
 ·rw [List.take_add_one (l:=rs),hr,List.filter_append,<-ht,List.take_add_one,List.take_set_of_le (Nat.le_refl i),List.getElem?_set_self om];simp [hd]
 ·rw [List.drop_set_of_lt om,<-List.drop_drop,J,List.drop_drop]
theorem delF_any (v:Value) (rs:List AcR) (base b:Nat) (q:Nat) (d:Int) (w:World) (hl:rs.length<=1000) (G:OwnN fAr 20 39 w base v rs) (ha:∀r∈rs,ArO w b r) (hq:w.cell? ⟨q,0,none⟩=some (.int .i64 d)) (ah:v.ownBlock≠some q):
 Calls prog 58 #[v,(.func (.func 59) #[] #[.pointer (some ⟨q,0,none⟩)])] w fun e w'=>∃v',e= .returned v'/\w.grownBy w' v.ownBlock/\OpR2 ((rs.map (·.a)).filter (fun a=>decide (a.R.hd=d))) w base b w' v':=by
 have Y:=World.block_lt_of_cell? w _ hq;have ak:(rs.map (·.a)).filter (fun a=>decide (a.R.hd=d))=(rs.filter (fun r=>decide (r.a.R.hd=d))).map (·.a):=by rw [List.filter_map];rfl
 have Z:=OwnN.shape ycf G;obtain ⟨A,c,rfl,hc,hs,aH⟩:=Z;obtain ⟨n,hn⟩:=gx (rs.length)
 obtain ⟨g,hA,ap⟩:∃g,(0 < n->A=some ⟨g,0,none⟩)/\(0 < n->g < w.heap.size):=by
  rcases G.2 with ⟨h',_⟩ |⟨g',aS,aV,h',_⟩
  ·refine ⟨0,fun h=>?_,fun h=>?_⟩<;>(injection h' with _ h2 _;omega)
  ·injection h' with h1 h2 h3
   exact ⟨g',fun _=>h1,fun _=>(ol G g' (by rw [h1];rfl)).2⟩
 rw [hn] at G ah hs hc hl ⊢
 have ag:∀k r,rs[k]? =some r->w.rangeAt g (k*20) (fAr r):=fun k r hr=>by
  have hk:k < n:=by rw [<-hn];exact (List.getElem?_eq_some_iff.1 hr).1
  obtain ⟨b',aU,x,U,hb,hx,aN⟩:=hs.at_ hk;rw [hA om] at U;injection U with U;injection U with U e6 _;subst U e6;rw [hr] at hx;injection hx with hx;subst hx;intro j v hv
  have:=aN j v hv;rwa [Nat.zero_add] at this
 have aj:=lh (agIndex_any A g n c rs q d w hA hn hl ap ag (fun V hb=>(cB (hb.block q Y)).trans hq));have HO:=lh G;have aq:=lh ha;have HLN:=lh hn;have HAE:=lh hA;have aw:=lh ak;have HQ:=lh (And.intro hq (And.intro Y ah));clear G ha hn hA ak hs aH ap ag hq Y ah;go_enter func58,ntmps58;go_upto_region 2 with (go_at_call 117;(with_reducible refine aj.out.mono ?_);rintro e w1 ⟨z,rfl,hz,aC⟩;(have HB1:=lh aC);clear aC)
 rcases hz with ⟨rfl,H⟩ |⟨k0,rfl,aG,H,r0,ar,af⟩
 ·have aP:=lh H;clear H;go_wp2_with fail;go_ret;refine ⟨_,rfl,⟨HB1.out.os,HB1.out.tape,HB1.out.output,HB1.out.size,fun k hk _=>HB1.out.block k hk⟩,rs,HO.out.on HB1.out,fun r hr=>(aq.out r hr).on HB1.out,?_⟩;rw [aw.out,List.filter_eq_self.2 (fun r hr=>by rw [decide_eq_true (aP.out r hr)])]
 ·obtain rfl:=HAE.out om;have aT:((k0:Int)== -1)=false:=by simp
  have az:q≠g:=fun e=>HQ.out.2.2 (by rw [e];rfl)
  have ax:DlR d rs g n c base w w1 k0 (k0+1):=by
   refine DlR.drop_ ⟨But.refl _ _,rs,HO.out,?_,rfl⟩ ar af HB1.out;rw [List.filter_eq_self.2 (fun r hr=>by rw [decide_eq_true (H r hr)])]
  have ao:=lh ax
  have HC:Hid (∀wr,But (fun k=>k=g) w wr->∀r,Calls prog 59 #[.agg (cAr r),.pointer (some ⟨q,0,none⟩)] wr fun e w'=>e= .returned (.bool (!decide (r.a.R.hd=d)))/\Below wr.heap.size wr w'):=fun wr hb r=>ag1_any r q d wr (fun V aQ=>by
   rw [World.cell?_of_block (aQ.block q (Nat.lt_of_lt_of_le HQ.out.2.1 hb.size)),World.cell?_of_block (hb.block q HQ.out.2.1 az)]
   exact HQ.out.1)
  have aO:=lh aG;clear H ar af ax az aj;go_upto_region 5 with fail
  go_loopw [5,6] (fun u v wr=>∃i j:Nat,i < j/\j<=n/\u= .int .i64 i/\v= .int .i64 j/\Hid (DlR d rs g n c base w wr i j)) (fun _ v _=>n - (intOf v).toNat)
  case atStart=>exact ⟨k0,k0+1,by omega,by have:=aO.out;omega,by go_num,by go_num,ao⟩
  case round=>
   clear ao;obtain ⟨i,j,aD,hj,rfl,rfl,M⟩:=hrel
   by_cases hlt:j < n
   ·obtain ⟨r,hr,am⟩:=M.out.row hlt;have aW:(j:Int) < (n:Int):=by omega
    have aY:(i:Int) < (n:Int):=by omega
    have HR:=lh hr;have aR:=lh am;have aL:Hid ((wr.alloc (.cells zA 39)).heap[wr.heap.size]? =some (.cells zA 39 (0,0))):=zy wr _;clear hr am
    go_upto_region 8 with (first
     |(with_reducible refine wpList_load_mid rfl 39 (.tmp 24) rfl g (j*20) rfl (fAr r) _ aR.out underlying39 rfl (ycv r) ?_)
     |((with_reducible refine ybc (o:=⟨none,_,_,_,_,_⟩) rfl 39 (.tmp 7) (.tmp 25) rfl wr.heap.size 39 _ _ rfl rfl aL.out (sizeAr r) rfl (fAr_all r) ?_);intro W4 aA aE;(have aa:Hid (Below wr.heap.size wr W4):=((Below.refl _ wr).alloc nl (.cells zA 39)).trans (aE.out.below sI (fun i hi=>by subst hi;exact Nat.le_refl _)))))
    have ae:Hid (W4.rangeAt wr.heap.size 0 (fAr r)):=fun k v hv=>by
     rw [Nat.zero_add,cell_of_row W4 wr.heap.size k _ _ _ aA.out,List.getElem?_toArray];exact hv
    have N:=lh (HC.out W4 ((M.out.1).trans (But.of_below aa.out) (fun i hi=> .inl hi)) r)
    by_cases T:r.a.R.hd=d
    ·rw [decide_eq_true T] at N;have ac:=lh T;clear T
     go_upto_region 9 with (first
      |(with_reducible refine wpList_load_mid rfl 39 (.tmp 7) rfl wr.heap.size 0 rfl (fAr r) _ ae.out underlying39 rfl (ycv r) ?_)
      |(go_at_call 59;(with_reducible refine N.out.mono ?_);rintro e K ⟨rfl,J⟩;(have O:Hid (Below wr.heap.size wr K):=bt aa.out J);(have aM:Hid (K.rangeAt wr.heap.size 0 (fAr r)):=fun k v hv=>(cB (J.block _ (by have h1:=aA.out;exact (Array.getElem?_eq_some_iff.1 h1).1))).trans (ae.out k v hv));clear J))
     have L:Hid (K.there g (i*20) ((fAr r).toArray.size)):=by
      show K.there g (i*20) 20;obtain ⟨_,ys,G,_,_⟩:=M.out;exact there_part ((G.on O.out).there ycf) om
     go_upto_region 10 with (first
      |(with_reducible refine wpList_load_mid rfl 39 (.tmp 7) rfl wr.heap.size 0 rfl (fAr r) _ aM.out underlying39 rfl (ycv r) ?_)
      |(with_reducible refine wpList_store_mid (op:=⟨none,_,_,_,_,_⟩) rfl 39 (.tmp 33) (.tmp 32) rfl g (i*20) (fAr r).toArray rfl rfl L.out (sizeAr r) (fAr_all r) ?_))
     have HN:Hid (DlR d rs g n c base w (K.setCells g (i*20) (fAr r).toArray.toList) (i+1) (j+1)):=M.out.keep_ HR.out ac.out aD hlt O.out;obtain ⟨w6,au⟩:∃w6:World,K.setCells g (i*20) (fAr r).toArray.toList=w6:=⟨_,rfl⟩
     rw [au] at HN ⊢;clear au L;go_wp2_with fail;go_roundw;case rel=>exact ⟨i+1,j+1,by omega,by omega,by go_num,by go_num,HN⟩
     case measure=>simp [intOf];omega
    ·rw [decide_eq_false T] at N;have ac:=lh T;clear T
     go_wp2_with (first
      |(with_reducible refine wpList_load_mid rfl 39 (.tmp 7) rfl wr.heap.size 0 rfl (fAr r) _ ae.out underlying39 rfl (ycv r) ?_)
      |(go_at_call 59;(with_reducible refine N.out.mono ?_);rintro e K ⟨rfl,J⟩;(have O:Hid (Below wr.heap.size wr K):=bt aa.out J);clear J))
     go_roundw
     case rel=>exact ⟨i,j+1,by omega,by omega,rfl,by go_num,M.out.drop_ HR.out ac.out O.out⟩
     case measure=>simp [intOf];omega
   ·obtain rfl:j=n:=by omega
    have aZ:(i:Int)<=(j:Int):=by omega
    have aX:(i:Int)<=(c:Int):=by omega
    obtain ⟨ay,ys,G,hy,_⟩:=M.out;have aF:=lh (G.cut ycf (Nat.le_of_lt aD));have L:Hid (wr.there g (i*20) ((j - i)*20)):=there_part (G.there ycf) om;have HY:=lh hy;have aI:=lh ay;clear G hy ay M;go_upto_region 12 with ((with_reducible refine wpList_clearN (o:=⟨none,_,_,_,_,_⟩) rfl (.tmp 38) 56 39 rfl zA 20 underlying56 zeroAr rfl zA_all om g (i*20) (j - i) _ rfl L.out ?_);intro w6 aB)
    obtain ⟨vs,W⟩:=aB.out;have aK:Hid (OwnN fAr 20 39 w6 base (.slice (some ⟨g,0,none⟩) i c) (ys.take i)):=by rw [W];exact aF.out.past ycf nl vs
    have ai:Hid (But (fun k=>k=g) w w6):=by rw [W];exact aI.out.trans (But.setCells g _ _ _) (fun i hi=> .inl hi)
    clear W aB L;go_wp2_with fail;go_ret;refine ⟨_,rfl,ai.out.grownBy,_,aK.out,fun r hr=>?_,?_⟩
    ·rw [HY.out] at hr;have h1:=(List.mem_filter.1 hr).1;exact ArO.grown (aq.out r (List.mem_of_mem_take h1)) HO.out ai.out.grownBy de
    ·rw [HY.out,aw.out,List.take_of_length_le (by rw [HLN.out];exact Nat.le_refl _)]
theorem against_any (x:Vw) (L:List EnR) (vs:List VtR) (J O:List ByteArray) (aj:List Int) (d:Int) (B:Nat) (w:World) (hG:Glob w) (hV:VwIn w B x L vs J O aj) (hB:B<=w.heap.size) (hk:VwOk x L):
 Calls prog 22 #[.agg (cVw x),.int .i64 d] w (OpP ((opnV x L vs J O).filter (fun a=>decide (a.R.hd=d))) w):=by
 obtain ⟨G,M⟩:∃G:World,G=w.alloc (.cells (cVw x) 29):=⟨_,rfl⟩
 obtain ⟨H,Y⟩:∃H:World,H=G.alloc (.cells #[.int .i64 d] 3):=⟨_,rfl⟩
 have ag:Below w.heap.size w G:=by rw [M];exact bl
 have T:Below G.heap.size G H:=by rw [Y];exact bl
 have N:Below w.heap.size w H:=bt ag T;have U:G.heap[w.heap.size]? =some (.cells (cVw x) 29 (0,0)):=by rw [M];exact zy w _
 have ak:H.heap[w.heap.size]? =some (.cells (cVw x) 29 (0,0)):=by rw [<-U];exact T.block _ (Array.getElem?_eq_some_iff.1 U).1
 have af:H.heap[G.heap.size]? =some (.cells #[.int .i64 d] 3 (0,0)):=by rw [Y];exact zy G _
 have ay:H.cell? ⟨G.heap.size,0,none⟩=some (.int .i64 d):=zz H G.heap.size 0 _ _ _ af;obtain ⟨v0,v1,v2,v3,v4,v5,v6⟩:=ybo ak;have ax:=lh (open_any x L vs J O aj B H (hG.on N) (hV.up N hB) (lT hB N.size) hk);have HB1:=lh ag;have Z:=lh N;have ae:Hid (G.heap.size < H.heap.size):=(Array.getElem?_eq_some_iff.1 af).1;have ah:=lh ay;have ap:=lh M;have ao:G.heap.size=w.heap.size+1:=by rw [M];simp
 rw [ao] at ae ah;have am:=lh Y
 have HLN:Hid ((opnV x L vs J O).length<=1000):=by
  show _<=_;unfold opnV;have h1:=ydO (opV x L vs J O) (frE L);have h2:=yci L;have h3:L.length=x.E.n:=hV.E.1.1;have h4:=hk.1;simp;omega
 clear hG hV hB hk ag T N U ak af M Y;go_enter func22,ntmps22;go_upto_region 1 with fail
 rw [<-ap.out,<-am.out]
 go_wp2_with (first
  |(go_at_call 17;(with_reducible refine ax.out.mono ?_);rintro e W3 ⟨v,rfl,K,rs,ho,hr,hm⟩;(have ar:=lh (delF_any v rs H.heap.size H.heap.size (w.heap.size+1) d W3 (by have h1:=HLN.out;rw [<-hm] at h1;simpa using h1) ho hr ((cB (K.block _ ae.out)).trans ah.out) (fun e=>by have h1:=(ol ho _ e).1;have h2:=ae.out;omega)));(have au:=lh K);(have az:=lh ho);(have aw:=lh hm);clear K ho hr hm)
  |(go_at_call 58;(with_reducible refine ar.out.mono ?_);rintro e W4 ⟨v4,rfl,W,aq,ac,z,aa⟩;(have H4:=lh (And.intro W (And.intro ac (And.intro z aa))));clear W ac z aa))
 go_ret;obtain ⟨W,ac,z,aa⟩:=H4.out;have K:Below w.heap.size w W3:=bt Z.out au.out;refine ⟨_,rfl,OwnN.below az.out K Z.out.size K.size W,aq,World.ownsRow.mono ac Z.out.size,fun r hr=>RcO.low (z r hr) Z.out.size,?_⟩;rw [aa,aw.out]
