/- slices.DeleteFunc at accusations; blame.Against. -/
import Derived.Test.YtpdledjgbgalcaaGreatDoorPt
namespace Go.Proofs.YtpdledjgbgalcaaGreatDoor
set_option maxRecDepth 100000
set_option maxHeartbeats 8000000
open Go.RowKit Go.Lib
set_option linter.unusedVariables false
set_option linter.unusedSimpArgs false
def putL:List Value→Nat→List Value→List Value
 |xs,_,[]=>xs
 |xs,o,v::r=>putL (xs.set o v) (o+1) r
theorem putL_mid:∀(V C A B:List Value),V.length=C.length→putL (A++C++B) A.length V=A++V++B
 | [],C,A,B,h=>by
   obtain rfl:C=[]:=List.eq_nil_of_length_eq_zero h.symm
   rfl
 |v::V,[],A,B,h=>by cases h
 |v::V,c::C,A,B,h=>by
  have ih:=putL_mid V C (A++[v]) B (by simpa using h)
  unfold putL
  have e:(A++(c::C)++B).set A.length v=(A++[v])++C++B:=by simp
  rw [e]
  have e2:A.length+1=(A++[v]).length:=by simp
  rw [e2,ih]
  simp
theorem putL_off:∀(V xs:List Value) (o:Nat),xs.length≤o→putL xs o V=xs
 | [],xs,o,h=>rfl
 |v::V,xs,o,h=>by
  unfold putL
  rw [List.set_eq_of_length_le h]
  exact putL_off V xs (o+1) (by omega)
theorem flat_put {α:Type} {f:α→List Value} {s:Nat} (hs:∀x,(f x).length=s) (xs:List α) (k:Nat) (hk:k < xs.length) (y:α):putL (xs.flatMap f) (k*s) (f y)=(xs.set k y).flatMap f:=by
 have e1:xs=xs.take k++xs[k]::xs.drop (k+1):=by
  rw [List.getElem_cons_drop,List.take_append_drop]
 have e2:xs.set k y=xs.take k++y::xs.drop (k+1):=by rw [List.set_eq_take_append_cons_drop,if_pos hk]
 rw [e2]
 conv=>lhs;rw [e1]
 rw [List.flatMap_append,List.flatMap_cons,List.flatMap_append,List.flatMap_cons,←List.append_assoc,←List.append_assoc]
 have e3:k*s=((xs.take k).flatMap f).length:=by rw [flat_len hs,List.length_take,Nat.min_eq_left (Nat.le_of_lt hk)]
 rw [e3]
 exact putL_mid _ _ _ _ (by rw [hs,hs])
theorem stored_all {base:Nat} {e:TypeId} {size g n cap:Nat}:∀(vs:List Value) (o:Nat) (w:World) (xs:List Value),w.ownsRow base e size (.slice (some ⟨g,0,none⟩) n cap) n xs→(w.setCells g o vs).ownsRow base e size (.slice (some ⟨g,0,none⟩) n cap) n (putL xs o vs)
 | [],o,w,xs,h=>h
 |v::r,o,w,xs,h=>stored_all r (o+1) _ _ (World.ownsRow.stored h o v).1
section
variable {α:Type} {f:α→List Value} {s:Nat} {e:TypeId} {w:World} {base gb n c:Nat} {xs:List α}
theorem OwnN.len_ (h:OwnN f s e w base (.slice (some ⟨gb,0,none⟩) n c) xs):n=xs.length:=by
 rcases h.2 with ⟨h',_⟩ |⟨g',cap',cur,h',_⟩
 ·cases h'
 ·simp at h';exact h'.2.1
theorem OwnN.storedN (hs:∀x,(f x).length=s) (h:OwnN f s e w base (.slice (some ⟨gb,0,none⟩) n c) xs) {y:α} {k:Nat} (hk:k < xs.length):
 OwnN f s e (w.setCells gb (k*s) (f y)) base (.slice (some ⟨gb,0,none⟩) n c) (xs.set k y):=by
 obtain rfl:=h.len_
 unfold OwnN
 rw [List.length_set,←flat_put hs xs k hk y]
 exact stored_all (f y) (k*s) _ _ h
theorem OwnN.past (hs:∀x,(f x).length=s) (h:OwnN f s e w base (.slice (some ⟨gb,0,none⟩) n c) xs) {o:Nat} (ho:n*s≤o) (vs:List Value):OwnN f s e (w.setCells gb o vs) base (.slice (some ⟨gb,0,none⟩) n c) xs:=by
 obtain rfl:=h.len_
 have h1:=stored_all vs o _ _ h
 rw [putL_off _ _ _ (by rw [flat_len hs];exact ho)] at h1
 exact h1
theorem OwnN.there (hs:∀x,(f x).length=s) (h:OwnN f s e w base (.slice (some ⟨gb,0,none⟩) n c) xs):w.there gb 0 (n*s):=fun j hj=>by
 obtain rfl:=h.len_
 rw [Nat.zero_add]
 refine ⟨?_,World.ownsRow.frozenAt h j⟩
 rw [World.ownsRow.cellAt h j hj,List.getElem?_eq_getElem (by rw [flat_len hs];exact hj)]
 rfl
theorem OwnN.cut (hs:∀x,(f x).length=s) (h:OwnN f s e w base (.slice (some ⟨gb,0,none⟩) n c) xs) {k:Nat} (hk:k≤n):OwnN f s e w base (.slice (some ⟨gb,0,none⟩) k c) (xs.take k):=by
 obtain rfl:=h.len_
 have hkl:(xs.take k).length=k:=by simp;omega
 unfold OwnN World.ownsRow
 rw [hkl]
 refine ⟨by rw [flat_len hs,hkl],?_⟩
 rcases h.2 with ⟨h',_⟩ |⟨g',cap',cur,h',h1,h2,h3,h4,h5,h6⟩
 ·cases h'
 ·simp at h'
  obtain ⟨rfl,rfl⟩:=h'
  refine .inr ⟨gb,c,cur,rfl,h1,h2,by omega,h4,h5,?_⟩
  have h7:(cur.toList.take (xs.length*s)).take (k*s)=(xs.flatMap f).take (k*s):=by rw [h6]
  rw [List.take_take,Nat.min_eq_left (Nat.mul_le_mul_right _ hk)] at h7
  rw [h7]
  have h8:xs.flatMap f=(xs.take k).flatMap f++(xs.drop k).flatMap f:=by rw [←List.flatMap_append,List.take_append_drop]
  rw [h8,List.take_append_of_le_length (by rw [flat_len hs,hkl];exact Nat.le_refl _),List.take_of_length_le (by rw [flat_len hs,hkl];exact Nat.le_refl _)]
end
theorem there_part {w:World} {g o n m:Nat} (h:w.there g 0 n) (hm:o+m≤n):w.there g o m:=fun j hj=>by
 have h1:=h (o+j) (by omega)
 rwa [Nat.zero_add] at h1
theorem But.grownBy {g:Nat} {w w':World} (h:But (fun k=>k=g) w w'):w.grownBy w' (some g):=⟨h.os,h.tape,h.output,h.size,fun k hk hne=>h.block k hk (fun e=>hne (by rw [e]))⟩
def DlR (d:Int) (rs:List AcR) (g n c base:Nat) (w:World) (wr:World) (i j:Nat):Prop:=
 But (fun k=>k=g) w wr∧∃ys,OwnN fAr 20 39 wr base (.slice (some ⟨g,0,none⟩) n c) ys∧ys.take i=(rs.take j).filter (fun r=>decide (r.a.R.hd=d))∧ys.drop j=rs.drop j
def OpR2 (al:List Ac) (w:World) (base b:Nat) (wr:World) (v:Value):Prop:=∃rs:List AcR,OwnN fAr 20 39 wr base v rs∧(∀r∈rs,ArO wr b r)∧rs.map (·.a)=al
theorem DlR.row {d:Int} {rs:List AcR} {g n c base:Nat} {w wr:World} {i j:Nat} (h:DlR d rs g n c base w wr i j) (hj:j < n):∃r,rs[j]? =some r∧wr.rangeAt g (j*20) (fAr r):=by
 obtain ⟨_,ys,ho,_,hd⟩:=h
 obtain rfl:=ho.len_
 refine ⟨ys[j],?_,?_⟩
 ·have h1:(ys.drop j)[0]? =(rs.drop j)[0]? :=by rw [hd]
  rw [List.getElem?_drop,List.getElem?_drop,Nat.add_zero] at h1
  rw [←h1,List.getElem?_eq_getElem hj]
 ·obtain ⟨A,c',e,_,hs,_⟩:=OwnN.shape fAr_len ho
  injection e with e1 e2 e3
  subst e1
  obtain ⟨b,off,x,e4,hb,hx,hat⟩:=hs.at_ hj
  have h5:=(hs.2 (by omega))
  injection e4 with e4
  injection e4 with e4 e6 _
  subst e4 e6
  rw [List.getElem?_eq_getElem hj] at hx
  injection hx with hx
  subst hx
  intro k v hv
  have:=hat k v hv
  rwa [Nat.zero_add] at this
theorem DlR.drop_ {d:Int} {rs:List AcR} {g n c base:Nat} {w wr w':World} {i j:Nat} (h:DlR d rs g n c base w wr i j) {r:AcR} (hr:rs[j]? =some r) (hd:r.a.R.hd≠d) (hb:Below wr.heap.size wr w'):DlR d rs g n c base w w' i (j+1):=by
 obtain ⟨h0,ys,ho,ht,hd'⟩:=h
 refine ⟨h0.trans (But.of_below hb) (fun i hi=> .inl hi),ys,ho.on hb,?_,?_⟩
 ·rw [List.take_add_one,hr,List.filter_append,←ht]
  simp [hd]
 ·rw [←List.drop_drop,hd',List.drop_drop]
theorem DlR.keep_ {d:Int} {rs:List AcR} {g n c base:Nat} {w wr w':World} {i j:Nat} (h:DlR d rs g n c base w wr i j) {r:AcR} (hr:rs[j]? =some r) (hd:r.a.R.hd=d) (hij:i < j) (hj:j < n) (hb:Below wr.heap.size wr w'):DlR d rs g n c base w (w'.setCells g (i*20) (fAr r)) (i+1) (j+1):=by
 obtain ⟨h0,ys,ho,ht,hd'⟩:=h
 obtain rfl:=ho.len_
 refine ⟨(h0.trans (But.of_below hb) (fun i hi=> .inl hi)).trans (But.setCells g _ _ _) (fun i hi=> .inl hi),ys.set i r,OwnN.storedN fAr_len (ho.on hb) (by omega),?_,?_⟩
 ·rw [List.take_add_one (l:=rs),hr,List.filter_append,←ht,List.take_add_one,List.take_set_of_le (Nat.le_refl i),List.getElem?_set_self (by omega)]
  simp [hd]
 ·rw [List.drop_set_of_lt (by omega),←List.drop_drop,hd',List.drop_drop]
theorem delF_any (v:Value) (rs:List AcR) (base b:Nat) (q:Nat) (d:Int) (w:World) (hl:rs.length≤1000) (ho:OwnN fAr 20 39 w base v rs) (ha:∀r∈rs,ArO w b r) (hq:w.cell? ⟨q,0,none⟩=some (.int .i64 d)) (hqv:v.ownBlock≠some q):
 Calls Tryz.prog 58 #[v,(.func (.func 59) #[] #[.pointer (some ⟨q,0,none⟩)])] w fun e w'=>∃v',e= .returned v'∧w.grownBy w' v.ownBlock∧OpR2 ((rs.map (·.a)).filter (fun a=>decide (a.R.hd=d))) w base b w' v':=by
 have hql:=World.block_lt_of_cell? w _ hq
 have hmf:(rs.map (·.a)).filter (fun a=>decide (a.R.hd=d))=(rs.filter (fun r=>decide (r.a.R.hd=d))).map (·.a):=by rw [List.filter_map];rfl
 have hshape:=OwnN.shape fAr_len ho
 obtain ⟨A,c,rfl,hc,hs,hlo⟩:=hshape
 obtain ⟨n,hn⟩:∃n,rs.length=n:=⟨_,rfl⟩
 obtain ⟨g,hA,hgl⟩:∃g,(0 < n→A=some ⟨g,0,none⟩)∧(0 < n→g < w.heap.size):=by
  rcases ho.2 with ⟨h',_⟩ |⟨g',cap',cur,h',_⟩
  ·refine ⟨0,fun h=>?_,fun h=>?_⟩<;>(injection h' with _ h2 _;omega)
  ·injection h' with h1 h2 h3
   exact ⟨g',fun _=>h1,fun _=>(World.ownsRow.lt ho g' (by rw [h1];rfl)).2⟩
 rw [hn] at ho hqv hs hc hl ⊢
 have hrow:∀k r,rs[k]? =some r→w.rangeAt g (k*20) (fAr r):=fun k r hr=>by
  have hk:k < n:=by rw [←hn];exact (List.getElem?_eq_some_iff.1 hr).1
  obtain ⟨b',off,x,e4,hb,hx,hat⟩:=hs.at_ hk
  rw [hA (by omega)] at e4
  injection e4 with e4
  injection e4 with e4 e6 _
  subst e4 e6
  rw [hr] at hx
  injection hx with hx
  subst hx
  intro j v hv
  have:=hat j v hv
  rwa [Nat.zero_add] at this
 have HIX:=Lib.hid (agIndex_any A g n c rs q d w hA hn hl hgl hrow (fun V hb=>(World.cell?_of_block (hb.block q hql)).trans hq))
 have HO:=Lib.hid ho
 have HAO:=Lib.hid ha
 have HLN:=Lib.hid hn
 have HAE:=Lib.hid hA
 have HMF:=Lib.hid hmf
 have HQ:=Lib.hid (And.intro hq (And.intro hql hqv))
 clear ho ha hn hA hmf hs hlo hgl hrow hq hql hqv
 go_enter Tryz.func58,Tryz.ntmps58
 go_upto_region 2 with (go_at_call 117;(with_reducible refine HIX.out.mono ?_);rintro e w1 ⟨z,rfl,hz,hb1⟩;(have HB1:=Lib.hid hb1);clear hb1)
 rcases hz with ⟨rfl,hall⟩ |⟨k0,rfl,hk0,hall,r0,hr0,hne0⟩
 ·have HAL:=Lib.hid hall
  clear hall
  go_wp2_with fail
  go_ret
  refine ⟨_,rfl,⟨HB1.out.os,HB1.out.tape,HB1.out.output,HB1.out.size,fun k hk _=>HB1.out.block k hk⟩,rs,HO.out.on HB1.out,fun r hr=>(HAO.out r hr).on HB1.out,?_⟩
  rw [HMF.out,List.filter_eq_self.2 (fun r hr=>by rw [decide_eq_true (HAL.out r hr)])]
 ·obtain rfl:=HAE.out (by omega)
  have hkI:((k0:Int)== -1)=false:=by simp
  have hqg:q≠g:=fun e=>HQ.out.2.2 (by rw [e];rfl)
  have hst:DlR d rs g n c base w w1 k0 (k0+1):=by
   refine DlR.drop_ ⟨But.refl _ _,rs,HO.out,?_,rfl⟩ hr0 hne0 HB1.out
   rw [List.filter_eq_self.2 (fun r hr=>by rw [decide_eq_true (hall r hr)])]
  have HST:=Lib.hid hst
  have HC:Hid (∀wr,But (fun k=>k=g) w wr→∀r,Calls Tryz.prog 59 #[.agg (cAr r),.pointer (some ⟨q,0,none⟩)] wr fun e w'=>e= .returned (.bool (!decide (r.a.R.hd=d)))∧Below wr.heap.size wr w'):=fun wr hb r=>ag1_any r q d wr (fun V hb2=>by
   rw [World.cell?_of_block (hb2.block q (Nat.lt_of_lt_of_le HQ.out.2.1 hb.size)),World.cell?_of_block (hb.block q HQ.out.2.1 hqg)]
   exact HQ.out.1)
  have HK0:=Lib.hid hk0
  clear hall hr0 hne0 hst hqg HIX
  go_upto_region 5 with fail
  go_loopw [5,6] (fun u v wr=>∃i j:Nat,i < j∧j≤n∧u= .int .i64 i∧v= .int .i64 j∧Hid (DlR d rs g n c base w wr i j)) (fun _ v _=>n - (intOf v).toNat)
  case atStart=>exact ⟨k0,k0+1,by omega,by have:=HK0.out;omega,by go_num,by go_num,HST⟩
  case round=>
   clear HST
   obtain ⟨i,j,hij,hj,rfl,rfl,HD⟩:=hrel
   by_cases hlt:j < n
   ·obtain ⟨r,hr,hra⟩:=HD.out.row hlt
    have hjI:(j:Int) < (n:Int):=by omega
    have hin:(i:Int) < (n:Int):=by omega
    have HR:=Lib.hid hr
    have HRA:=Lib.hid hra
    have HGN:Hid ((wr.alloc (.cells zA 39)).heap[wr.heap.size]? =some (.cells zA 39 (0,0))):=heap_alloc_new wr _
    clear hr hra
    go_upto_region 8 with (first
     |(with_reducible refine wpList_load_mid rfl 39 (.tmp 24) rfl g (j*20) rfl (fAr r) _ HRA.out Tryz.underlying39 rfl (sizeArL r) ?_)
     |((with_reducible refine wpList_store_but (o:=⟨none,_,_,_,_,_⟩) rfl 39 (.tmp 7) (.tmp 25) rfl wr.heap.size 39 _ _ rfl rfl HGN.out (sizeAr r) rfl (fAr_all r) ?_);intro W4 HG4 HB4n;(have HB4:Hid (Below wr.heap.size wr W4):=((Below.refl _ wr).alloc (Nat.le_refl _) (.cells zA 39)).trans (HB4n.out.below (by simp) (fun i hi=>by subst hi;exact Nat.le_refl _)))))
    have HR4:Hid (W4.rangeAt wr.heap.size 0 (fAr r)):=fun k v hv=>by
     rw [Nat.zero_add,cell_of_row W4 wr.heap.size k _ _ _ HG4.out,List.getElem?_toArray];exact hv
    have HC4:=Lib.hid (HC.out W4 ((HD.out.1).trans (But.of_below HB4.out) (fun i hi=> .inl hi)) r)
    by_cases hh:r.a.R.hd=d
    ·rw [decide_eq_true hh] at HC4
     have HHH:=Lib.hid hh
     clear hh
     go_upto_region 9 with (first
      |(with_reducible refine wpList_load_mid rfl 39 (.tmp 7) rfl wr.heap.size 0 rfl (fAr r) _ HR4.out Tryz.underlying39 rfl (sizeArL r) ?_)
      |(go_at_call 59;(with_reducible refine HC4.out.mono ?_);rintro e w5 ⟨rfl,hb5⟩;(have HB5:Hid (Below wr.heap.size wr w5):=HB4.out.trans (hb5.mono HB4.out.size));(have HR5:Hid (w5.rangeAt wr.heap.size 0 (fAr r)):=fun k v hv=>(World.cell?_of_block (hb5.block _ (by have h1:=HG4.out;exact (Array.getElem?_eq_some_iff.1 h1).1))).trans (HR4.out k v hv));clear hb5))
     have HTH:Hid (w5.there g (i*20) ((fAr r).toArray.size)):=by
      show w5.there g (i*20) 20
      obtain ⟨_,ys,ho,_,_⟩:=HD.out
      exact there_part ((ho.on HB5.out).there fAr_len) (by omega)
     go_upto_region 10 with (first
      |(with_reducible refine wpList_load_mid rfl 39 (.tmp 7) rfl wr.heap.size 0 rfl (fAr r) _ HR5.out Tryz.underlying39 rfl (sizeArL r) ?_)
      |(with_reducible refine wpList_store_mid (op:=⟨none,_,_,_,_,_⟩) rfl 39 (.tmp 33) (.tmp 32) rfl g (i*20) (fAr r).toArray rfl rfl HTH.out (sizeAr r) (fAr_all r) ?_))
     have HN:Hid (DlR d rs g n c base w (w5.setCells g (i*20) (fAr r).toArray.toList) (i+1) (j+1)):=HD.out.keep_ HR.out HHH.out hij hlt HB5.out
     obtain ⟨w6,hw6⟩:∃w6:World,w5.setCells g (i*20) (fAr r).toArray.toList=w6:=⟨_,rfl⟩
     rw [hw6] at HN ⊢
     clear hw6 HTH
     go_wp2_with fail
     go_roundw
     case rel=>exact ⟨i+1,j+1,by omega,by omega,by go_num,by go_num,HN⟩
     case measure=>simp [intOf];omega
    ·rw [decide_eq_false hh] at HC4
     have HHH:=Lib.hid hh
     clear hh
     go_wp2_with (first
      |(with_reducible refine wpList_load_mid rfl 39 (.tmp 7) rfl wr.heap.size 0 rfl (fAr r) _ HR4.out Tryz.underlying39 rfl (sizeArL r) ?_)
      |(go_at_call 59;(with_reducible refine HC4.out.mono ?_);rintro e w5 ⟨rfl,hb5⟩;(have HB5:Hid (Below wr.heap.size wr w5):=HB4.out.trans (hb5.mono HB4.out.size));clear hb5))
     go_roundw
     case rel=>exact ⟨i,j+1,by omega,by omega,rfl,by go_num,HD.out.drop_ HR.out HHH.out HB5.out⟩
     case measure=>simp [intOf];omega
   ·obtain rfl:j=n:=by omega
    have hnc:(i:Int)≤(j:Int):=by omega
    have hcI:(i:Int)≤(c:Int):=by omega
    obtain ⟨HBT,ys,ho,hy,_⟩:=HD.out
    have HOY:=Lib.hid (ho.cut fAr_len (Nat.le_of_lt hij))
    have HTH:Hid (wr.there g (i*20) ((j - i)*20)):=there_part (ho.there fAr_len) (by omega)
    have HY:=Lib.hid hy
    have HBU:=Lib.hid HBT
    clear ho hy HBT HD
    go_upto_region 12 with ((with_reducible refine wpList_clearN (o:=⟨none,_,_,_,_,_⟩) rfl (.tmp 38) 56 39 rfl zA 20 Tryz.underlying56 zeroAr rfl zA_all (by omega) g (i*20) (j - i) _ rfl HTH.out ?_);intro w6 HW6)
    obtain ⟨vs,hvs⟩:=HW6.out
    have HO6:Hid (OwnN fAr 20 39 w6 base (.slice (some ⟨g,0,none⟩) i c) (ys.take i)):=by rw [hvs];exact HOY.out.past fAr_len (Nat.le_refl _) vs
    have HG6:Hid (But (fun k=>k=g) w w6):=by rw [hvs];exact HBU.out.trans (But.setCells g _ _ _) (fun i hi=> .inl hi)
    clear hvs HW6 HTH
    go_wp2_with fail
    go_ret
    refine ⟨_,rfl,HG6.out.grownBy,_,HO6.out,fun r hr=>?_,?_⟩
    ·rw [HY.out] at hr
     have h1:=(List.mem_filter.1 hr).1
     exact ArO.grown (HAO.out r (List.mem_of_mem_take h1)) HO.out HG6.out.grownBy (by decide)
    ·rw [HY.out,HMF.out,List.take_of_length_le (by rw [HLN.out];exact Nat.le_refl _)]
theorem against_any (x:Vw) (es:List EnR) (vs:List VtR) (pubs drs:List ByteArray) (fks:List Int) (d:Int) (B:Nat) (w:World) (hG:Glob w) (hV:VwIn w B x es vs pubs drs fks) (hB:B≤w.heap.size) (hk:VwOk x es):
 Calls Tryz.prog 22 #[.agg (cVw x),.int .i64 d] w (OpP ((opnV x es vs pubs drs).filter (fun a=>decide (a.R.hd=d))) w):=by
 obtain ⟨W1,hW1⟩:∃W1:World,W1=w.alloc (.cells (cVw x) 29):=⟨_,rfl⟩
 obtain ⟨W2,hW2⟩:∃W2:World,W2=W1.alloc (.cells #[.int .i64 d] 3):=⟨_,rfl⟩
 have hb1:Below w.heap.size w W1:=by rw [hW1];exact (Below.refl _ _).alloc (Nat.le_refl _) _
 have hb12:Below W1.heap.size W1 W2:=by rw [hW2];exact (Below.refl _ _).alloc (Nat.le_refl _) _
 have hb2:Below w.heap.size w W2:=hb1.trans (hb12.mono hb1.size)
 have hga1:W1.heap[w.heap.size]? =some (.cells (cVw x) 29 (0,0)):=by rw [hW1];exact heap_alloc_new w _
 have hga:W2.heap[w.heap.size]? =some (.cells (cVw x) 29 (0,0)):=by rw [←hga1];exact hb12.block _ (Array.getElem?_eq_some_iff.1 hga1).1
 have hgd:W2.heap[W1.heap.size]? =some (.cells #[.int .i64 d] 3 (0,0)):=by rw [hW2];exact heap_alloc_new W1 _
 have hcd:W2.cell? ⟨W1.heap.size,0,none⟩=some (.int .i64 d):=cell_of_row W2 W1.heap.size 0 _ _ _ hgd
 obtain ⟨v0,v1,v2,v3,v4,v5,v6⟩:=cellsV hga
 have HOP:=Lib.hid (open_any x es vs pubs drs fks B W2 (hG.on hb2) (hV.up hb2 hB) (Nat.le_trans hB hb2.size) hk)
 have HB1:=Lib.hid hb1
 have HB2:=Lib.hid hb2
 have HS2:Hid (W1.heap.size < W2.heap.size):=(Array.getElem?_eq_some_iff.1 hgd).1
 have HCD:=Lib.hid hcd
 have HW1:=Lib.hid hW1
 have hs1:W1.heap.size=w.heap.size+1:=by rw [hW1];simp
 rw [hs1] at HS2 HCD
 have HW2:=Lib.hid hW2
 have HLN:Hid ((opnV x es vs pubs drs).length≤1000):=by
  show _≤_
  unfold opnV
  have h1:=cgL_len (opV x es vs pubs drs) (frE es)
  have h2:=frE_length es
  have h3:es.length=x.E.n:=hV.E.1.1
  have h4:=hk.1
  simp
  omega
 clear hG hV hB hk hb1 hb12 hb2 hga1 hga hgd hW1 hW2
 go_enter Tryz.func22,Tryz.ntmps22
 go_upto_region 1 with fail
 rw [←HW1.out,←HW2.out]
 go_wp2_with (first
  |(go_at_call 17;(with_reducible refine HOP.out.mono ?_);rintro e W3 ⟨v,rfl,hb3,rs,ho,hr,hm⟩;(have HD3:=Lib.hid (delF_any v rs W2.heap.size W2.heap.size (w.heap.size+1) d W3 (by have h1:=HLN.out;rw [←hm] at h1;simpa using h1) ho hr ((World.cell?_of_block (hb3.block _ HS2.out)).trans HCD.out) (fun e=>by have h1:=(World.ownsRow.lt ho _ e).1;have h2:=HS2.out;omega)));(have HB3:=Lib.hid hb3);(have HO3:=Lib.hid ho);(have HM3:=Lib.hid hm);clear hb3 ho hr hm)
  |(go_at_call 58;(with_reducible refine HD3.out.mono ?_);rintro e W4 ⟨v4,rfl,hg4,rs4,ho4,hr4,hm4⟩;(have H4:=Lib.hid (And.intro hg4 (And.intro ho4 (And.intro hr4 hm4))));clear hg4 ho4 hr4 hm4))
 go_ret
 obtain ⟨hg4,ho4,hr4,hm4⟩:=H4.out
 have hb3:Below w.heap.size w W3:=HB2.out.trans (HB3.out.mono HB2.out.size)
 refine ⟨_,rfl,OwnN.below HO3.out hb3 HB2.out.size hb3.size hg4,rs4,World.ownsRow.mono ho4 HB2.out.size,fun r hr=>RcO.low (hr4 r hr) HB2.out.size,?_⟩
 rw [hm4,HM3.out]
