/- The library's iterators at this program: maps.Keys and slices.Sorted at int keys (laid by the kit's tools). A set of devices as a map; its keys, sorted; blame.Accused. blame.Against: slices.IndexFunc and slices.DeleteFunc at accusations. -/
import Derived.Shelf.SlIterI.Nil
import Derived.Test.YtpdledjgbgalcaaGreatDoorProg
import Derived.Test.YtpdledjgbgalcaaGreatDoorJA
namespace Go.Proofs.YtpdledjgbgalcaaGreatDoor
set_option maxHeartbeats 16000000
set_option maxRecDepth 100000
open Go.Shelf
def Tryz.keysA_ren:Go.Shelf.Ren:=⟨fun |7=>54 |10=>110 |n=>n,fun |23=>111 |26=>3 |3=>4 |28=>114 |0=>0 |27=>113 |33=>181 |4=>4 |n=>n,fun |n=>n⟩
theorem Tryz.keysA:Go.Proofs.SlLaysZI.n7 Tryz.prog Tryz.keysA_ren:={
 mixed:=by kernel_rfl
 f7:=⟨Tryz.f54.name,by decide,Tryz.func54.trans (congrArg some (by kernel_rfl))⟩
 f10:=⟨Tryz.f110.name,by decide,Tryz.func110.trans (congrArg some (by kernel_rfl))⟩
 t0:=Tryz.underlying0
 a0:=Tryz.isAgg0
 z0:=Tryz.sizeOf0
 v0:=Tryz.zeroValue0
 t4:=Tryz.underlying4
 a4:=Tryz.isAgg4
 z4:=Tryz.sizeOf4
 v4:=Tryz.zeroValue4
 t23:=Tryz.underlying111
 a23:=Tryz.isAgg111
 z23:=Tryz.sizeOf111
 v23:=Tryz.zeroValue111
 t26:=Tryz.underlying3
 a26:=Tryz.isAgg3
 z26:=Tryz.sizeOf3
 v26:=Tryz.zeroValue3
 t27:=Tryz.underlying113
 a27:=Tryz.isAgg113
 z27:=Tryz.sizeOf113
 v27:=Tryz.zeroValue113
 t28:=Tryz.underlying114
 a28:=Tryz.isAgg114
 z28:=Tryz.sizeOf114
 v28:=Tryz.zeroValue114
 t33:=Tryz.underlying181
 a33:=Tryz.isAgg181
 z33:=Tryz.sizeOf181
 v33:=Tryz.zeroValue181}
def Tryz.sortedA_ren:Go.Shelf.Ren:=⟨fun |6=>53 |8=>108 |9=>109 |11=>175 |13=>177 |12=>176 |23=>229 |24=>230 |14=>220 |15=>221 |16=>222 |17=>223 |18=>224 |19=>225 |20=>226 |21=>227 |22=>228 |25=>254 |26=>255 |27=>256 |28=>257 |29=>258 |30=>259 |31=>269 |n=>n,fun |26=>3 |28=>114 |24=>27 |0=>0 |3=>3 |37=>247 |48=>250 |50=>93 |4=>4 |40=>284 |39=>283 |45=>287 |5=>5 |9=>9 |51=>310 |55=>279 |57=>321 |58=>317 |33=>181 |n=>n,fun |n=>n⟩
theorem Tryz.sortedA:Go.Proofs.SlLaysZI.n6 Tryz.prog Tryz.sortedA_ren:={
 mixed:=by kernel_rfl
 f6:=⟨Tryz.f53.name,by decide,Tryz.func53.trans (congrArg some (by kernel_rfl))⟩
 f8:=⟨Tryz.f108.name,by decide,Tryz.func108.trans (congrArg some (by kernel_rfl))⟩
 f11:=⟨Tryz.f175.name,by decide,Tryz.func175.trans (congrArg some (by kernel_rfl))⟩
 t0:=Tryz.underlying0
 a0:=Tryz.isAgg0
 z0:=Tryz.sizeOf0
 v0:=Tryz.zeroValue0
 t24:=Tryz.underlying27
 a24:=Tryz.isAgg27
 z24:=Tryz.sizeOf27
 v24:=Tryz.zeroValue27
 t26:=Tryz.underlying3
 a26:=Tryz.isAgg3
 z26:=Tryz.sizeOf3
 v26:=Tryz.zeroValue3
 t28:=Tryz.underlying114
 a28:=Tryz.isAgg114
 z28:=Tryz.sizeOf114
 v28:=Tryz.zeroValue114
 i26:=by kernel_rfl}
open Go.RowKit Go.Lib Go.Maps Go.Sort Go.Shelf
set_option linter.unusedVariables false
set_option linter.unusedSimpArgs false
def MapS (w:World) (b n:Nat) (S:Int→Bool):Prop:=∃D:DataW Value,w.ownsMap Tryz.prog 3 RV b n D∧∀x,Maps.has D (.int .i64 x)=S x
theorem MapS.made (w:World):MapS (w.alloc (.map #[] 0)) w.heap.size 0 (fun _=>false):=⟨_,World.ownsMap_made w Tryz.prog _ _,fun _=>rfl⟩
theorem MapS.block {w w':World} {b n:Nat} {S:Int→Bool} (h:MapS w b n S) (hb:w'.heap[b]? =w.heap[b]?):MapS w' b n S:=by
 obtain ⟨D,⟨es,ck,h1,h2⟩,h3⟩:=h
 exact ⟨D,⟨es,ck,hb.trans h1,h2⟩,h3⟩
theorem MapS.lt {w:World} {b n:Nat} {S:Int→Bool} (h:MapS w b n S):b < w.heap.size:=by
 obtain ⟨D,h1,_⟩:=h
 exact h1.lt
theorem MapS.on {w w':World} {b n:Nat} {S:Int→Bool} (h:MapS w b n S) (hb:Below w.heap.size w w'):MapS w' b n S:=h.block (hb.block _ h.lt)
theorem MapS.mono {w:World} {b n n':Nat} {S:Int→Bool} (h:MapS w b n S) (hn:n≤n'):MapS w b n' S:=by
 obtain ⟨D,h1,h2⟩:=h
 exact ⟨D,h1.mono hn,h2⟩
theorem MapS.store {w:World} {b n:Nat} {S:Int→Bool} (h:MapS w b n S) (hn:n < maxLen) {d:Int} (hd:int64 d) (v:Value):
 ∃w',(Instr.mapUpdate 111 (.map (some b)) (.int .i64 d) v).run Tryz.prog w= .ok () w'∧MapS w' b (n+1) (fun x=>S x||decide (x=d))∧w.grownBy w' (some b):=by
 obtain ⟨D,h1,h2⟩:=h
 obtain ⟨w',r1,r2,r3⟩:=h1.update (Maps.int_keyed Tryz.underlying3) Tryz.underlying111 hn (kI_of hd) (show RV v=some (.held v,[]) from rfl)
 refine ⟨w',r1,⟨_,r2,fun x=>?_⟩,r3⟩
 by_cases hx:x=d
 ·subst hx
  rw [Maps.has_put_same h1.isMap ((Maps.int_keyed Tryz.underlying3).key (kI_of hd))]
  simp
 ·rw [Maps.has_put_other (fun e=>hx (by injection e)),h2 x]
  simp [hx]
theorem sorts_in (m:Nat):AnyZI.SortsIn Tryz.prog Tryz.sortedA_ren Fence.wide m:=
 ⟨fun blk off cap ss W hH hblk hsz=>callsIn_wide.2 (Tryz.slices_Sort_int blk off cap ss W hH hblk hsz),fun p cap W=>callsIn_wide.2 (Tryz.slices_Sort_int_none p cap W)⟩
def NwI (l:List Int) (w:World) (base:Nat) (w0:World) (e:Ending) (w':World):Prop:=∃v,e= .returned v∧Own I 3 w' base v l∧Below w0.heap.size w0 w'
theorem keys_any (b:Nat) (w:World):Calls Tryz.prog 54 #[.map (some b)] w fun e w'=>e= .returned (.func (.func 110) #[] #[.pointer (some ⟨w.heap.size,0,none⟩)])∧w'=w.alloc (.cells #[.map (some b)] 111):=
 (callsIn_wide (n:=6)).1 (AnyZI.keys_in Tryz.keysA Fence.wide 6 trivial rfl (some b) w)
theorem sorted_any (b n:Nat) (S:Int→Bool) (l:List Int) (w:World) (hS:MapS w b n S) (hn:n≤1000) (hp:l.Pairwise (· < ·)) (hm:∀x,x∈l↔S x=true):
 Calls Tryz.prog 53 #[.func (.func 110) #[] #[.pointer (some ⟨w.heap.size,0,none⟩)]] (w.alloc (.cells #[.map (some b)] 111)) (NwI l w w.heap.size w):=by
 obtain ⟨D,hown,hhas⟩:=hS
 have hbl:=hown.lt
 have hsz:=hown.size_le
 refine (callsIn_wide (n:=5)).1 ?_
 have hseq:SeqGives Fence.wide 2 Tryz.prog 110 #[.pointer (some ⟨w.heap.size,0,none⟩)] encZ (fun ss=>ss.Perm (intKeys D)) (Maps.size D) (w.alloc (.cells #[.map (some b)] 111)):=
  AnyZI.keys_gives (ρ:=Tryz.keysA_ren) {Tryz.keysA with} Fence.wide _ trivial rfl (by omega) w.heap.size b n D _ (by simp) (by simp) (by
   obtain ⟨es,clock,hb,Ft,hs,hD⟩:=hown
   exact ⟨es,clock,(Below.heap_alloc _ _ b hbl).trans hb,Ft,hs,hD⟩)
 have cS:=AnyZI.sorted_in Tryz.sortedA Fence.wide 5 trivial trivial trivial trivial rfl (by omega) (sorts_in _) (enters_of Tryz.func109 (by kernel_rfl) rfl) 110 #[.pointer (some ⟨w.heap.size,0,none⟩)] trivial (enters_of Tryz.func110 (by kernel_rfl) rfl) _ _ (by unfold maxLen;omega) (by omega) _ hseq
 refine cS.mono ?_
 rintro e w' ⟨v,ss,rfl,hperm,hrow,_,hb⟩
 have hl:l.Perm (intKeys D):=by
  have hc:CollectedI D (fun _=>false) l:=⟨hp.imp (fun h=>Int.ne_of_lt h),fun x=>by rw [hm x,hhas x];simp⟩
  exact hc.perm hown (Maps.int_keyed Tryz.underlying3) Tryz.underlying3 (fun _=>rfl)
 have hsort:ss.mergeSort (fun x y=>decide (x≤y))=l:=by
  have h1:=mergeSort_of_perm_i (hperm.trans hl.symm)
  have h2:l.mergeSort leI=l:=List.mergeSort_of_pairwise (hp.imp (fun h=>decide_eq_true (Int.le_of_lt h)))
  exact h1.trans h2
 rw [hsort] at hrow
 have hlen:ss.length=l.length:=(hperm.trans hl.symm).length_eq
 rw [hlen] at hrow
 exact ⟨v,rfl,ownsRow_base_a hrow (by simp),((Below.refl _ w).alloc (Nat.le_refl _) _).trans (hb.mono (by simp))⟩
def hdB (al:List Ac) (d:Int):Bool:=al.any fun a=>decide (a.R.hd=d)
def hdL (S:Int→Bool):List Int:=((List.range 12).map Int.ofNat).filter S
theorem hdL_sorted (S:Int→Bool):(hdL S).Pairwise (· < ·):=by
 refine List.Pairwise.filter _ (List.pairwise_map.2 ((List.pairwise_lt_range).imp fun h=>Int.ofNat_lt.2 h))
theorem hdL_mem {S:Int→Bool} (h:∀x,S x=true→0≤x∧x≤11) (x:Int):x∈hdL S↔S x=true:=by
 unfold hdL
 rw [List.mem_filter,List.mem_map]
 constructor
 ·exact fun g=>g.2
 ·intro g
  obtain ⟨h1,h2⟩:=h x g
  exact ⟨⟨x.toNat,List.mem_range.2 (by omega),by show (x.toNat:Int)=x;omega⟩,g⟩
theorem acF_hd {k d q:Int} {bs:List Int} (h6:k=6) (h0:(acF k d q bs).er=0):(0≤(acF k d q bs).R.hd∧(acF k d q bs).R.hd≤11)∧numB (acF k d q bs).d (acF k d q bs).q=true:=by
 unfold acF at h0 ⊢
 rw [if_pos h6] at h0 ⊢
 split at h0
 ·next h1=>
  split at h0
  ·next h2=>
   rw [if_pos h1,if_pos h2]
   unfold okT at h2
   rw [Bool.and_eq_true] at h2
   have h3:=h2.2
   unfold okR at h3
   rw [Bool.and_eq_true] at h3
   exact ⟨(vaB_facts h3.2).1,h1⟩
  ·exact absurd h0 (by decide)
 ·exact absurd h0 (by decide)
theorem cgL_ok {op:Ac→Bool} {l:List EnR}:∀p∈cgL op l,((0≤p.1.R.hd∧p.1.R.hd≤11)∧numB p.1.d p.1.q=true)∧op p.1=true:=fun p hp=>by
 obtain ⟨e,he,h⟩:=List.mem_filterMap.1 hp
 unfold cgE at h
 split at h
 ·next g=>
  injection h with h
  subst h
  exact ⟨acF_hd g.1 g.2.1,g.2.2⟩
 ·cases h
theorem opnV_hd {x:Vw} {es:List EnR} {vs:List VtR} {pubs drs:List ByteArray} {d:Int} (h:hdB (opnV x es vs pubs drs) d=true):0≤d∧d≤11:=by
 obtain ⟨a,ha,h1⟩:=List.any_eq_true.1 h
 obtain ⟨p,hp,rfl⟩:=List.mem_map.1 ha
 have:=(cgL_ok p hp).1.1
 rw [of_decide_eq_true h1] at this
 exact this
theorem sizeAr (r:AcR):(Tryz.prog.info? 39).map (·.size)=some ((fAr r).toArray).size:=by kernel_rfl
theorem fAr_all (r:AcR):((fAr r).toArray).all (·.oneCell')=true:=by
 rw [Array.all_eq_true']
 intro u hu
 exact fAr_one r u (by simpa using hu)
theorem accused_any (x:Vw) (es:List EnR) (vs:List VtR) (pubs drs:List ByteArray) (fks:List Int) (B:Nat) (w:World) (hG:Glob w) (hV:VwIn w B x es vs pubs drs fks) (hB:B≤w.heap.size) (hk:VwOk x es):
 Calls Tryz.prog 19 #[.agg (cVw x)] w (NwI (hdL (hdB (opnV x es vs pubs drs))) w w.heap.size w):=by
 obtain ⟨W1,hW1⟩:∃W1:World,W1=(w.alloc (.cells (cVw x) 29)).alloc (.map #[] 0):=⟨_,rfl⟩
 have hb1:Below w.heap.size w W1:=by rw [hW1];exact ((Below.refl _ _).alloc (Nat.le_refl _) _).alloc (by simp) _
 have hga:W1.heap[w.heap.size]? =some (.cells (cVw x) 29 (0,0)):=by rw [hW1];exact (Below.heap_alloc _ _ _ (by simp)).trans (heap_alloc_new w _)
 have hm1:MapS W1 (w.heap.size+1) 0 (fun _=>false):=by
  have:=MapS.made (w.alloc (.cells (cVw x) 29))
  rw [hW1]
  simpa using this
 obtain ⟨v0,v1,v2,v3,v4,v5,v6⟩:=cellsV hga
 have HOP:=Lib.hid (open_any x es vs pubs drs fks B W1 (hG.on hb1) (hV.up hb1 hB) (Nat.le_trans hB hb1.size) hk)
 obtain ⟨al,hal⟩:∃l,opnV x es vs pubs drs=l:=⟨_,rfl⟩
 have HHD:Hid (∀d,hdB al d=true→0≤d∧d≤11):=fun d h=>opnV_hd (by rw [hal];exact h)
 have HLN:Hid (al.length≤1000):=by
  show _≤_
  rw [←hal]
  have h1:=cgL_len (opV x es vs pubs drs) (frE es)
  have h2:=frE_length es
  have h3:es.length=x.E.n:=hV.E.1.1
  have h4:=hk.1
  unfold opnV
  simp
  omega
 rw [hal] at HOP ⊢
 have HB1:=Lib.hid hb1
 have HWE:=Lib.hid hW1
 have HM1:=Lib.hid hm1
 have hmm:= @run_makeMap Tryz.prog
 clear hG hV hB hk hb1 hga hW1 hal hm1
 go_enter Tryz.func19,Tryz.ntmps19
 go_upto_region 2 with fail
 clear hmm
 rw [←HWE.out]
 go_wp2_with (go_at_call 17;(with_reducible refine HOP.out.mono ?_);rintro e V3 ⟨v,rfl,hb3,rs,ho,hr,hm⟩;(obtain ⟨CA,cc,hv,hc,hps,hlo⟩:=OwnN.shape fAr_len ho);subst hv;(have HPS:=Lib.hid hps);(have HLO:=Lib.hid hlo);(have HMM:=Lib.hid hm);(have HB3:=Lib.hid hb3);(have HCL:Hid (rs.length=al.length):=by (show _=_;rw [←HMM.out];simp));(have HM3:=Lib.hid (HM1.out.on hb3));clear hb3 ho hr hm hc hps hlo)
 clear v0 v1 v2 v3 v4 v5 v6
 have HB0:Hid (Below w.heap.size w V3):=HB1.out.trans (HB3.out.mono HB1.out.size)
 have hlen:rs.length≤1000:=by have h1:=HLN.out;have h2:=HCL.out;omega
 have HS1:Hid (w.heap.size+1 < W1.heap.size):=HM1.out.lt
 go_loopw [10] (fun i wr=>∃k:Nat,k≤rs.length∧i= .int .i64 k∧Hid (But (fun i=>i=w.heap.size+1) V3 wr)∧Hid (MapS wr (w.heap.size+1) k (hdB (al.take k)))) (fun i _=>rs.length - (intOf i).toNat)
 case atStart=>exact ⟨0,Nat.zero_le _,rfl,But.refl _ _,HM3.out⟩
 case round=>
  clear HM3
  obtain ⟨k,hk,rfl,HBr,HR⟩:=hrel
  by_cases hlt:k < rs.length
  ·obtain ⟨b,off,r,rfl,hbB,hr1,hat⟩:=HPS.out.at_ hlt
   have hkI:(k:Int) < (rs.length:Int):=by omega
   have HG:=Lib.hid hr1
   have HAL:Hid (al[k]? =some r.a):=by show _=_;rw [←HMM.out,List.getElem?_map,hr1];rfl
   have hblk:wr.heap[b]? =V3.heap[b]? :=HBr.out.block b hbB (by have h1:W1.heap.size≤b:=HLO.out b rfl;have h2:=HS1.out;omega)
   have HRA:Hid (wr.rangeAt b (off+k*20) (fAr r)):=fun j v hv=>by rw [Nat.add_assoc];exact (World.cell?_of_block hblk).trans (hat j v hv)
   have HGN:Hid ((wr.alloc (.cells zA 39)).heap[wr.heap.size]? =some (.cells zA 39 (0,0))):=heap_alloc_new wr _
   have HTK:Hid (hdB (al.take (k+1))=fun x=>hdB (al.take k) x||decide (x=r.a.R.hd)):=by
    show _=_
    funext x
    unfold hdB
    rw [List.take_add_one,HAL.out,List.any_append]
    simp [eq_comm]
   have HHR:Hid (int64 r.a.R.hd):=by
    have h1:=HHD.out r.a.R.hd (List.any_eq_true.2 ⟨r.a,List.mem_of_getElem? HAL.out,by simp⟩)
    exact ⟨Int.le_trans (by decide) h1.1,Int.le_trans h1.2 (by decide)⟩
   clear hat hr1 hblk
   go_upto_region 5 with (first
    |(with_reducible refine wpList_load_mid rfl 39 (.tmp 12) rfl b (off+k*20) rfl (fAr r) _ HRA.out Tryz.underlying39 rfl (sizeArL r) ?_)
    |((with_reducible refine wpList_store_but (o:=⟨none,_,_,_,_,_⟩) rfl 39 (.tmp 5) (.tmp 13) rfl wr.heap.size 39 _ _ rfl rfl HGN.out (sizeAr r) rfl (fAr_all r) ?_);intro W4 HG4 HB4n;(have HB4:Hid (Below wr.heap.size wr W4):=((Below.refl _ wr).alloc (Nat.le_refl _) (.cells zA 39)).trans (HB4n.out.below (by simp) (fun i hi=>by subst hi;omega)))))
   obtain ⟨z0,z1,z2,z3,z4,z5⟩:=cellsA HG4.out
   obtain ⟨W5,r5,hm5,hg5⟩:=(HR.out.on HB4.out).store (by unfold maxLen;omega) HHR.out (.bool true)
   have HM5:=Lib.hid hm5
   have HG5:=Lib.hid hg5
   clear hm5 hg5
   go_wp2_with fail
   go_roundw
   case rel=>exact ⟨k+1,by omega,by go_num,(HBr.out.trans (But.of_below (p:=fun _=>False) HB4.out) (fun i hi=>hi.elim)).trans (q:=fun i=>i=w.heap.size+1) ⟨HG5.out.os,HG5.out.tape,HG5.out.output,HG5.out.size,fun i hi hne=>HG5.out.block i hi (fun e=>hne (by injection e))⟩ (fun i hi=> .inl hi),by rw [HTK.out];exact HM5.out⟩
   case measure=>simp [intOf];omega
  ·obtain rfl:k=rs.length:=by omega
   rw [List.take_of_length_le (by have:=HCL.out;omega)] at HR
   have HSO:=Lib.hid (sorted_any (w.heap.size+1) rs.length (hdB al) (hdL (hdB al)) wr HR.out hlen (hdL_sorted _) (hdL_mem HHD.out))
   have HBw:Hid (Below w.heap.size w wr):=HB0.out.trans (HBr.out.below HB0.out.size (fun i hi=>by subst hi;omega))
   go_wp2_with (first
    |(go_at_call 54;(with_reducible refine (keys_any _ _).mono ?_);rintro e w5 ⟨rfl,rfl⟩)
    |(go_at_call 53;(with_reducible refine HSO.out.mono ?_);rintro e w6 ⟨v,rfl,hv,hb6⟩;(have HV:=Lib.hid hv);(have HB6:=Lib.hid hb6);clear hv hb6))
   go_ret
   exact ⟨v,rfl,World.ownsRow.mono HV.out HBw.out.size,HBw.out.trans (HB6.out.mono HBw.out.size)⟩
open Go.RowKit Go.Lib
theorem But.setCells (b:Nat):∀(vs:List Value) (f:Nat) (w:World),But (fun k=>k=b) w (w.setCells b f vs)
 | [],f,w=>But.refl _ _
 |v::r,f,w=>(But.setCell (p:=fun k=>k=b) (x:=⟨b,f,none⟩) (But.refl _ _) (.inl rfl) v).trans (But.setCells b r (f+1) _) (fun i hi=> .inl hi)
theorem wpList_clearN {P:Program} {ops:Array Oper} {rest:List Oper} {o:Oper} {a:Act} {w:World} {Q:Exit→Act→World→Prop} (hgd:o.guard=none) (x:Operand) (t e:TypeId) (ho:o.op= .call {callee:= .builtin .clear,args:=#[x],argTypes:=#[t]})
 (zc:Array Value) (s:Nat) (ht:P.underlying t=some (.slice e)) (hz:∀w,(zeroValue e).run P w= .ok (.agg zc) w) (hs:zc.size=s) (h1:zc.all (·.oneCell')=true) (h0:0 < s) (b f n c:Nat) (hx:a.eval x= .slice (some ⟨b,f,none⟩) n c) (hth:w.there b f (n*s))
 (h:∀w',Hid (∃vs,w'=w.setCells b f vs)→wpList P ops Q rest (a.put o.dst (.tuple #[])) w'):wpList P ops Q (o::rest) a w:=by
 refine wpList_plain hgd fun K hK=>?_
 cases n with
 |zero=>
  have hrun:(Builtin.clear_ #[t] o.type #[.slice (some ⟨b,f,none⟩) 0 c]).run P w= .ok (.tuple #[]) w:=by simp [Builtin.clear_,run_underlying ht]
  unfold Oper.wp
  simp [execOp,ho,hx,hrun,resolve,invoke,builtin,Result.andThen]
  exact hK _ _ (h w ⟨[],rfl⟩)
 |succ m=>
  have hl:(Builtin.zeroCells zc (m+1)).toList.length=(m+1)*s:=by simp [Builtin.zeroCells,hs]
  have hall:∀v∈(Builtin.zeroCells zc (m+1)).toList,v.oneCell'=true:=by
   intro v hv
   simp only [Builtin.zeroCells,Array.toList_map,Array.toList_range,List.mem_map,List.mem_range] at hv
   obtain ⟨i,_,rfl⟩:=hv
   have hi:i % zc.size < zc.size:=Nat.mod_lt _ (by omega)
   rw [getElem!_pos zc _ hi]
   exact Array.all_eq_true.1 h1 _ hi
  have hst:=run_storeCells_cells (P:=P) b f (Builtin.zeroCells zc (m+1)).toList 0 w (fun j hj=>(hth j (by rw [hl] at hj;exact hj)).1) (fun j hj=>(hth j (by rw [hl] at hj;exact hj)).2) hall
  simp only [Nat.add_zero] at hst
  have hca:(Value.agg zc).cells=zc:=rfl
  have hrun:(Builtin.clear_ #[t] o.type #[.slice (some ⟨b,f,none⟩) (m+1) c]).run P w= .ok (.tuple #[]) (w.setCells b f (Builtin.zeroCells zc (m+1)).toList):=by
   simp [Builtin.clear_,run_underlying ht,hz,hca,hst]
  unfold Oper.wp
  simp [execOp,ho,hx,hrun,resolve,invoke,builtin,Result.andThen]
  exact hK _ _ (h _ ⟨_,rfl⟩)
theorem zeroAr (w:World):(zeroValue 39).run Tryz.prog w= .ok (.agg zA) w:=by kernel_rfl
theorem zA_all:zA.all (·.oneCell')=true:=by kernel_rfl
theorem ag1_any (r:AcR) (q:Nat) (d:Int) (w:World) (hq:∀V,Below w.heap.size w V→V.cell? ⟨q,0,none⟩=some (.int .i64 d)):
 Calls Tryz.prog 59 #[.agg (cAr r),.pointer (some ⟨q,0,none⟩)] w fun e w'=>e= .returned (.bool (!decide (r.a.R.hd=d)))∧Below w.heap.size w w':=by
 obtain ⟨W1,hW1⟩:∃W1:World,W1=w.alloc (.cells (cAr r) 39):=⟨_,rfl⟩
 have hb1:Below w.heap.size w W1:=by rw [hW1];exact (Below.refl _ _).alloc (Nat.le_refl _) _
 have hg1:W1.heap[w.heap.size]? =some (.cells (cAr r) 39 (0,0)):=by rw [hW1];exact heap_alloc_new w _
 obtain ⟨z0,z1,z2,_⟩:=cellsA hg1
 have k0:=hq W1 hb1
 have HB1:=Lib.hid hb1
 have HWE:=Lib.hid hW1
 obtain ⟨t,ht⟩:∃t:Bool,(!decide (r.a.R.hd=d))=t:=⟨_,rfl⟩
 rw [ht]
 have hbq:(r.a.R.hd != d)=t:=by rw [←ht];by_cases h:r.a.R.hd=d<;>simp [h]
 clear hq hb1 hg1 hW1 ht
 go_enter Tryz.func59,Tryz.ntmps59
 go_upto_region 1 with fail
 rw [←HWE.out]
 go_wp2_with fail
 go_ret
 exact ⟨rfl,HB1.out⟩
theorem agIndex_any (A:Option Addr) (g n c:Nat) (rs:List AcR) (q:Nat) (d:Int) (w:World) (hA:0 < n→A=some ⟨g,0,none⟩) (hl:rs.length=n) (hn:n≤1000) (hg:0 < n→g < w.heap.size) (hrow:∀k r,rs[k]? =some r→w.rangeAt g (k*20) (fAr r)) (hq:∀V,Below w.heap.size w V→V.cell? ⟨q,0,none⟩=some (.int .i64 d)):
 Calls Tryz.prog 117 #[.slice A n c,(.func (.func 59) #[] #[.pointer (some ⟨q,0,none⟩)])] w fun e w'=>∃z:Int,e= .returned (.int .i64 z)∧((z= -1∧∀r∈rs,r.a.R.hd=d)∨∃k:Nat,z=k∧k < n∧(∀r∈rs.take k,r.a.R.hd=d)∧∃r,rs[k]? =some r∧r.a.R.hd≠d)∧Below w.heap.size w w':=by
 have HQ:=Lib.hid hq
 have HROW:=Lib.hid hrow
 have HL:=Lib.hid hl
 have HG:=Lib.hid hg
 have HA:=Lib.hid hA
 have HR0:Hid (Below w.heap.size w w):=Below.refl _ _
 have HN0:Hid (∀r∈rs.take 0,r.a.R.hd=d):=fun r h=>by simp at h
 clear hq hrow hl hg hA
 go_enter Tryz.func117,Tryz.ntmps117
 go_wp2_with fail
 go_loopw [8] (fun i wr=>∃k:Nat,k≤n∧i= .int .i64 k∧Hid (∀r∈rs.take k,r.a.R.hd=d)∧Hid (Below w.heap.size w wr)) (fun i _=>n - (intOf i).toNat)
 case atStart=>exact ⟨0,Nat.zero_le _,rfl,HN0,HR0⟩
 case round=>
  clear HN0 HR0
  obtain ⟨k,hk,rfl,HN,HBr⟩:=hrel
  by_cases hlt:k < n
  ·obtain rfl:=HA.out (by omega)
   have hgl:g < w.heap.size:=HG.out (by omega)
   obtain ⟨r,hr⟩:∃r,rs[k]? =some r:=⟨_,List.getElem?_eq_getElem (by rw [HL.out];exact hlt)⟩
   have hkI:(k:Int) < (n:Int):=by omega
   have HRA:Hid (wr.rangeAt g (k*20) (fAr r)):=fun j v hv=>(World.cell?_of_block (HBr.out.block g hgl)).trans (HROW.out k r hr j v hv)
   have HC:=Lib.hid (ag1_any r q d wr (fun V hb=>HQ.out V (HBr.out.trans (hb.mono HBr.out.size))))
   have HGR:=Lib.hid hr
   clear hr hgl
   by_cases hh:r.a.R.hd=d
   ·rw [decide_eq_true hh] at HC
    have HHD:=Lib.hid hh
    clear hh
    go_wp2_with (first |(with_reducible refine wpList_load_mid rfl 39 (.tmp 14) rfl g (k*20) rfl (fAr r) _ HRA.out Tryz.underlying39 rfl (sizeArL r) ?_) |(go_at_call 59;(with_reducible refine HC.out.mono ?_);rintro e w5 ⟨rfl,hb5⟩;(have HB5:Hid (Below w.heap.size w w5):=HBr.out.trans (hb5.mono HBr.out.size));clear hb5))
    go_roundw
    case rel=>exact ⟨k+1,by omega,by go_num,fun r' h'=>by
     rw [List.take_add_one,HGR.out] at h'
     rcases List.mem_append.1 h' with h1 |h1
     ·exact HN.out r' h1
     ·obtain rfl:r'=r:=by simpa using h1
      exact HHD.out,HB5.out⟩
    case measure=>simp [intOf];omega
   ·rw [decide_eq_false hh] at HC
    have HHD:=Lib.hid hh
    clear hh
    go_wp2_with (first |(with_reducible refine wpList_load_mid rfl 39 (.tmp 14) rfl g (k*20) rfl (fAr r) _ HRA.out Tryz.underlying39 rfl (sizeArL r) ?_) |(go_at_call 59;(with_reducible refine HC.out.mono ?_);rintro e w5 ⟨rfl,hb5⟩;(have HB5:Hid (Below w.heap.size w w5):=HBr.out.trans (hb5.mono HBr.out.size));clear hb5))
    go_ret
    exact ⟨_,rfl,.inr ⟨k,rfl,hlt,HN.out,r,HGR.out,HHD.out⟩,HB5.out⟩
  ·obtain rfl:k=n:=by omega
   go_wp2_with fail
   go_ret
   exact ⟨_,rfl,.inl ⟨rfl,fun r h=>HN.out r (by rw [List.take_of_length_le (by rw [HL.out];exact Nat.le_refl _)];exact h)⟩,HBr.out⟩
