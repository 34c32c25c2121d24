/- versionvector.Get, Covers. judge.acknowledged. -/
import Derived.Test.YtpdledjgbgalcaaGreatDoorJK
namespace Go.Proofs.YtpdledjgbgalcaaGreatDoor
set_option maxRecDepth 100000
set_option maxHeartbeats 8000000
open Go.RowKit Go.Lib
set_option linter.unusedVariables false
set_option linter.unusedSimpArgs false
theorem validDevice_any (d:Int) (w:World):Calls Tryz.prog 233 #[.int .i64 d] w fun e w'=>e= .returned (.bool (devB d))∧w=w':=by
 by_cases h:0≤d
 ·go_enter Tryz.func233,Tryz.ntmps233
  go_wp2
  go_ret
  exact ⟨ret_bool (by simp [h,devB]),rfl⟩
 ·have hd:devB d=false:=by simp [devB,h]
  go_enter Tryz.func233,Tryz.ntmps233
  go_wp2
  go_ret
  exact ⟨rfl,rfl⟩
theorem vget_any (A:Option Addr) (n:Nat) (xs:List Int) (c:Nat) (w:World) (B:Nat) (hx:Sl I w B A n xs) (hB:B≤w.heap.size) (hl:n≤1000000) (d:Int):
 Calls Tryz.prog 179 #[.slice A n c,.int .i64 d] w fun e w'=>e= .returned (.int .i64 (if validB xs&&devB d then gv xs d else 0))∧Below w.heap.size w w':=by
 have HX:=Lib.hid hx
 clear hx
 obtain ⟨px,hpx⟩:∃p,p=pd xs:=⟨_,rfl⟩
 have c1:Hid (∀W,Sl I W B A n xs→B≤W.heap.size→Calls Tryz.prog 133 #[.slice A n c] W fun e w'=>e= .returned (.tuple #[.agg (av px),.bool (validB xs)])∧Below W.heap.size W w'):=fun W h hb=>by rw [hpx];exact padded_any A n xs c W B h hb hl
 have S1:Hid ((Tryz.prog.info? 212).map (·.size)=some (av px).size):=hpx▸pd_size57 xs
 have T1:Hid (Z12.toArray.size=(av px).size):=hpx▸pd_sizeZ xs
 have L1:Hid (px.length=12):=hpx▸pd_len xs
 have HPX:=Lib.hid hpx
 clear hpx
 by_cases hv:validB xs=true
 ·by_cases hd:devB d=true
  ·have hd2:0≤d∧d < 12:=by simpa [devB] using hd
   obtain ⟨k,rfl⟩:∃k:Nat,d=k:=⟨d.toNat,by omega⟩
   obtain ⟨x,hxk⟩:=get_ex (xs:=px) (k:=k) (by rw [L1.out];omega)
   have HR:Hid ((if validB xs&&devB (k:Int) then gv xs k else 0)=x):=by show _=_;rw [hv,hd];simp only [Bool.and_self,if_true];rw [gv_nat,←pad_getD,←pd_yes hv,←HPX.out,getD_of hxk]
   have hc:∀W:World,W.heap[W.heap.size]? =none:=fun W=>by simp
   have hk12:k < 12:=by omega
   rw [HR.out]
   go_enter Tryz.func179,Tryz.ntmps179
   go_wp2_with fail
   refine (c1.out _ HX.out hB).mono ?_;rintro e w1 ⟨rfl,hb1⟩
   have HB1:=Lib.hid hb1
   have hs1:=hb1.size
   clear hb1
   have hcell:=At.zero (f:=I) (At.of_block (heap_alloc_new w1 (.cells (av px) 212))) hxk
   clear hxk hc hd2
   go_wp2_with (first
    |(with_reducible refine wpList_store_new (o:=⟨none,.store 212 (.tmp 5) (.tmp 10),_,_,_,_⟩) rfl 212 (.tmp 5) (.tmp 10) rfl 212 Z12.toArray (av px) rfl rfl S1.out T1.out (av_one _) ?_)
    |(go_at_call 233;refine (validDevice_any _ _).mono ?_;rintro e w' ⟨rfl,rfl⟩))
   go_ret
   exact ⟨rfl,HB1.out.alloc hs1 _⟩
  ·have hd':devB d=false:=by simpa using hd
   clear hd
   go_enter Tryz.func179,Tryz.ntmps179
   go_wp2_with fail
   refine (c1.out _ HX.out hB).mono ?_;rintro e w1 ⟨rfl,hb1⟩
   have HB1:=Lib.hid hb1
   have hs1:=hb1.size
   clear hb1
   go_wp2_with (first
    |(with_reducible refine wpList_store_new (o:=⟨none,.store 212 (.tmp 5) (.tmp 10),_,_,_,_⟩) rfl 212 (.tmp 5) (.tmp 10) rfl 212 Z12.toArray (av px) rfl rfl S1.out T1.out (av_one _) ?_)
    |(go_at_call 233;refine (validDevice_any _ _).mono ?_;rintro e w' ⟨rfl,rfl⟩))
   all_goals (go_ret;exact ⟨rfl,HB1.out.alloc hs1 _⟩)
 ·have hv':validB xs=false:=by simpa using hv
  clear hv
  go_enter Tryz.func179,Tryz.ntmps179
  go_wp2_with fail
  refine (c1.out _ HX.out hB).mono ?_;rintro e w1 ⟨rfl,hb1⟩
  have HB1:=Lib.hid hb1
  have hs1:=hb1.size
  clear hb1
  go_wp2_with (first
   |(with_reducible refine wpList_store_new (o:=⟨none,.store 212 (.tmp 5) (.tmp 10),_,_,_,_⟩) rfl 212 (.tmp 5) (.tmp 10) rfl 212 Z12.toArray (av px) rfl rfl S1.out T1.out (av_one _) ?_))
  all_goals (go_ret;exact ⟨rfl,HB1.out.alloc hs1 _⟩)
theorem vcovers_any (A:Option Addr) (n:Nat) (xs:List Int) (c:Nat) (w:World) (B:Nat) (hx:Sl I w B A n xs) (hB:B≤w.heap.size) (hl:n≤1000000) (d s:Int):
 Calls Tryz.prog 118 #[.slice A n c,.int .i64 d,.int .i64 s] w fun e w'=>e= .returned (.bool (decide (1≤s)&&decide (s≤if validB xs&&devB d then gv xs d else 0)))∧Below w.heap.size w w':=by
 obtain ⟨r,hr⟩:∃r,r=if validB xs&&devB d then gv xs d else 0:=⟨_,rfl⟩
 have c1:Hid (Calls Tryz.prog 179 #[.slice A n c,.int .i64 d] w fun e w'=>e= .returned (.int .i64 r)∧Below w.heap.size w w'):=by rw [hr];exact vget_any A n xs c w B hx hB hl d
 rw [←hr]
 clear hr
 by_cases h1:1≤s
 ·go_enter Tryz.func118,Tryz.ntmps118
  go_wp2_with (go_at_call 179;refine c1.out.mono ?_;rintro e w' ⟨rfl,hb⟩)
  go_ret
  exact ⟨ret_bool (by simp [h1]),hb⟩
 ·go_enter Tryz.func118,Tryz.ntmps118
  go_wp2_with fail
  go_ret
  exact ⟨ret_bool (by simp;omega),Below.refl _ _⟩
theorem ret_cell_tmpS {P:Program} {w:World} {fn:Func} {p u:Tmp} {ty:TypeId} (hr:fn.results=#[.cell p ty,.tmp u]) {tmps:Array Value} {g:Nat} {t:TypeId} {cs:Array Value} {fr:Nat × Nat} {fs}
 (hp:tmps.getD p undef= .pointer (some ⟨g,0,none⟩)) (hg:w.heap[g]? =some (.cells cs t fr)) (hu:P.underlying ty=some (.struct fs)) (hi:(P.info? ty).map (·.size)=some cs.size):
 (results fn tmps).run P w= .ok (.tuple #[.agg cs,tmps.getD u undef]) w:=by
 rw [results_cell_tmp hr,hp]
 simp [asAddr,Result.andThen,run_loadVar_row w g t ty cs fr _ hg hu rfl hi]
def cvB (v:List Int) (d s:Int):Bool:=decide (1≤s)&&decide (s≤if validB v&&devB d then gv v d else 0)
def akF (ml:List (EnR × List Int)) (d s:Int):Option EnR:=(ml.find? fun m=>cvB m.2 d s).map (·.1)
theorem akF_none {ml:List (EnR × List Int)} {d s:Int} (h:∀(j:Nat) (m:EnR × List Int),ml[j]? =some m→cvB m.2 d s=false):akF ml d s=none:=by
 unfold akF
 rw [List.find?_eq_none.2]
 ·rfl
 ·intro m hm
  obtain ⟨j,hj⟩:=List.getElem?_of_mem hm
  rw [h j m hj]
  decide
theorem akF_some:∀ {ml:List (EnR × List Int)} {d s:Int} {k:Nat} {m:EnR × List Int},(∀(j:Nat) (m:EnR × List Int),j < k→ml[j]? =some m→cvB m.2 d s=false)→ml[k]? =some m→cvB m.2 d s=true→akF ml d s=some m.1
 | [],d,s,k,m,_,h,_=>by simp at h
 |a::l,d,s,0,m,_,h,hc=>by
  obtain rfl:a=m:=by simpa using h
  unfold akF
  rw [List.find?_cons,hc]
  rfl
 |a::l,d,s,k+1,m,hn,h,hc=>by
  have ih:=akF_some (ml:=l) (d:=d) (s:=s) (k:=k) (fun j m hj hm=>hn (j+1) m (by omega) (by simpa using hm)) (by simpa using h) hc
  unfold akF at ih ⊢
  rw [List.find?_cons,hn 0 a (by omega) (by simp)]
  exact ih
abbrev zEn:Array Value:=#[.int .i64 0,.int .i64 0,.int .i64 0,.int .i64 0,.slice none 0 0,.string ⟨#[]⟩]
abbrev zMt:Array Value:=#[.int .i64 0,.int .i64 0,.int .i64 0,.int .i64 0,.slice none 0 0,.string ⟨#[]⟩,.slice none 0 0]
def akC:Option EnR→Array Value
 |some e=>(fEn e).toArray
 |none=>zEn
theorem sizeEnA (e:EnR):(Tryz.prog.info? 55).map (·.size)=some (fEn e).toArray.size:=by kernel_rfl
theorem sizeEnL (e:EnR):(Tryz.prog.info? 55).map (·.size)=some (fEn e).length:=by kernel_rfl
theorem sizeEnZ:(Tryz.prog.info? 55).map (·.size)=some zEn.size:=by kernel_rfl
theorem zEn_all:zEn.all (·.oneCell')=true:=by kernel_rfl
theorem sizeMtA (m:MtR):(Tryz.prog.info? 176).map (·.size)=some (fMt m).toArray.size:=by kernel_rfl
theorem sizeMtL (m:MtR):(Tryz.prog.info? 176).map (·.size)=some (fMt m).length:=by kernel_rfl
theorem rangeMt {w:World} {b:Nat} {t:TypeId} {m:MtR} (h:w.heap[b]? =some (.cells (fMt m).toArray t (0,0))):w.rangeAt b 0 (fEn m.e):=fun j v hv=>by
 rw [Nat.zero_add,cell_of_row w b j _ _ _ h,List.getElem?_toArray,List.getElem?_append_left (List.getElem?_eq_some_iff.1 hv).1];exact hv
theorem ack_any (lab:Nat→Rl) (s k kS kM:Nat) (x:Vw) (l:List EnR) (A:Option Addr) (n c:Nat) (mN mS mM:Lit→Value) (has:Int→Int→Bool) (pcs:Int→Int→Int→List PcX) (mts:Int→List (EnR × List Int)) (d q:Int) (R:Rcp) (st:ByteArray) (tx:Int) (no an:ByteArray) (w:World)
 (hJ:JSt w lab s k kS kM x l A n c mN mS mM has pcs mts) (hh:int64 R.hd) (hml:(mts R.hd).length≤1000) (hmv:∀m∈mts R.hd,m.2.length≤1000000):
 Calls Tryz.prog 60 #[.pointer (some ⟨s+3,0,none⟩),.agg (cA d q R st tx no an)] w fun e w'=>e= .returned (.tuple #[.agg (akC (akF (mts R.hd) d q)),.bool (akF (mts R.hd) d q).isSome])∧Below w.heap.size w w':=by
 obtain ⟨W1,hW1⟩:∃W1:World,W1=(w.alloc (.cells (cA d q R st tx no an) 39)).alloc (.cells zEn 55):=⟨_,rfl⟩
 have hb1:Below w.heap.size w W1:=by rw [hW1];exact ((Below.refl _ _).alloc (Nat.le_refl _) _).alloc (by simp) _
 have hga:W1.heap[w.heap.size]? =some (.cells (cA d q R st tx no an) 39 (0,0)):=by rw [hW1];exact (Below.heap_alloc _ _ _ (by simp)).trans (heap_alloc_new w _)
 have hge:W1.heap[w.heap.size+1]? =some (.cells zEn 55 (0,0)):=by rw [hW1];have:=heap_alloc_new (w.alloc (.cells (cA d q R st tx no an) 39)) (.cells zEn 55);simpa using this
 have hJ1:=hJ.on hb1
 have HC:Hid (∀V,Below W1.heap.size W1 V→V.heap[w.heap.size]? =some (.cells (cA d q R st tx no an) 39 (0,0))∧V.heap[w.heap.size+1]? =some (.cells zEn 55 (0,0))):=fun V hb=>⟨(hb.block _ (lt_of_block hga)).trans hga,(hb.block _ (lt_of_block hge)).trans hge⟩
 obtain ⟨ms,hp1,hp2,hp3,hp4⟩:=hJ1.mtr R.hd hh
 obtain ⟨PA,Pc0,hpv,hpc0,hps,_⟩:=OwnN.shape fMt_len hp2
 have HPL:Hid ((mts R.hd).length=ms.length):=by show _=_;rw [←hp1];simp
 have HPM:Hid (ms.length≤1000):=by show _≤_;rw [←HPL.out];exact hml
 have HPG:Hid (∀(j:Nat) (p:MtR),ms[j]? =some p→(mts R.hd)[j]? =some (p.e,p.v)):=fun j p h=>by rw [←hp1,List.getElem?_map,h];rfl
 have HLK:Hid (∀V,Below W1.heap.size W1 V→(Instr.lookup 166 (.map (some (s+2))) (.int .i64 R.hd) false).run Tryz.prog V= .ok (.slice PA ms.length Pc0) V):=fun V hb=>by
  rw [←hpv]
  exact (hJ1.on hb).mtm.look (Maps.int_keyed Tryz.underlying3) Tryz.underlying166 (Mee.zero V) (kI_of hh)
 have HCV:Hid (∀V,Below W1.heap.size W1 V→∀p∈ms,Calls Tryz.prog 118 #[.slice p.h.a p.h.n p.h.c,.int .i64 d,.int .i64 q] V fun e w'=>e= .returned (.bool (cvB p.v d q))∧Below V.heap.size V w'):=fun V hb p hp=>by
  obtain ⟨g1,_⟩:=hp4 p hp
  have g2:=hmv (p.e,p.v) (by rw [←hp1];exact List.mem_map_of_mem (f:=fun m:MtR=>(m.e,m.v)) hp)
  have g3:p.v.length=p.h.n:=g1.1
  exact vcovers_any p.h.a p.h.n p.v p.h.c V W1.heap.size (g1.up hb (Nat.le_refl _)) hb.size (by rw [←g3];exact g2) d q
 have HPS:=Lib.hid hps
 have HB1:=Lib.hid hb1
 have HWE:=Lib.hid hW1
 have HBz:Hid (Below W1.heap.size W1 W1):=Below.refl _ _
 obtain ⟨z0,z1,z2,z3,z4,z5⟩:=cellsA (HC.out W1 HBz.out).1
 have v9:=cj9 hJ1.jd
 have hlk:=fun a=>HLK.out (W1.drewN a) (below_drewN' HBz.out _)
 generalize mts R.hd=ml at*
 clear hJ hh hml hmv hb1 hga hge hJ1 hp1 hp2 hp3 hp4 hpv hpc0 hps hW1
 go_enter Tryz.func60,Tryz.ntmps60
 go_upto_region 1 with fail
 rw [←HWE.out]
 go_quiet (fail)
 generalize hW:World.drewN W1 _=W2
 have HB2:Hid (Below W1.heap.size W1 W2):=by show Below ..;rw [←hW];exact below_drewN' HBz.out _
 clear z0 z1 z2 z3 z4 z5 v9 hW hlk HLK HWE
 have HNB:Hid (∀(j:Nat) (m:EnR × List Int),j < 0→ml[j]? =some m→cvB m.2 d q=false):=fun j p hj=>absurd hj (by omega)
 go_wp2_with fail
 go_loopw [17] (fun i wr=>∃k:Nat,k≤ms.length∧i= .int .i64 k∧Hid (∀(j:Nat) (m:EnR × List Int),j < k→ml[j]? =some m→cvB m.2 d q=false)∧Hid (Below W1.heap.size W1 wr)) (fun i _=>ms.length - (intOf i).toNat)
 case atStart=>exact ⟨0,Nat.zero_le _,rfl,HNB,HB2⟩
 case round=>
  clear HNB HB2
  obtain ⟨k,hk,rfl,HNB,HBr⟩:=hrel
  have hpm:=HPM.out
  by_cases hlt:k < ms.length
  ·obtain ⟨b,off,p,rfl,hbB,hp,hat⟩:=(HPS.out.up HBr.out (Nat.le_refl _)).at_ hlt
   have hkI:(k:Int) < (ms.length:Int):=by omega
   have HRA:Hid (wr.rangeAt b (off+k*7) (fMt p)):=fun j v hv=>by rw [Nat.add_assoc];exact hat j v hv
   have HP:=Lib.hid hp
   have HCV1:=Lib.hid (fun V hb=>HCV.out V hb p (List.mem_of_getElem? hp))
   have HGN:Hid ((wr.alloc (.cells zMt 176)).heap[wr.heap.size]? =some (.cells zMt 176 (0,0))):=heap_alloc_new wr _
   clear hat hp
   go_upto_region 4 with (first
    |(with_reducible refine wpList_load_mid rfl 176 (.tmp 19) rfl b (off+k*7) rfl (fMt p) _ HRA.out Tryz.underlying176 rfl (sizeMtL p) ?_)
    |((with_reducible refine wpList_store_but (o:=⟨none,_,_,_,_,_⟩) rfl 176 (.tmp 7) (.tmp 20) rfl wr.heap.size 176 _ _ rfl rfl HGN.out (sizeMtA p) rfl (all_oneCell_toArray (fMt_one p)) ?_);intro W4 HG4 HB4n;(have HB4:Hid (Below wr.heap.size wr W4):=((Below.refl _ wr).alloc (Nat.le_refl _) (.cells zMt 176)).trans (HB4n.out.below (by simp) (fun i hi=>by subst hi;exact Nat.le_refl _)))))
   have HB4w:Hid (Below W1.heap.size W1 W4):=HBr.out.trans (HB4.out.mono HBr.out.size)
   have y6:W4.cell? ⟨wr.heap.size,6,none⟩=some (.slice p.h.a p.h.n p.h.c):=by rw [cell_of_row W4 _ _ _ _ _ HG4.out];rfl
   obtain ⟨z0,z1,z2,z3,z4,z5⟩:=cellsA (HC.out W4 HB4w.out).1
   obtain ⟨cv,hcv⟩:∃t,cvB p.v d q=t:=⟨_,rfl⟩
   rw [hcv] at HCV1
   have HCB:=Lib.hid hcv
   clear hcv
   cases cv with
   |true=>
    have HAK:Hid (akF ml d q=some p.e):=akF_some HNB.out (HPG.out _ _ HP.out) HCB.out
    go_upto_region 5 with (go_at_call 118;(with_reducible refine (HCV1.out _ HB4w.out).mono ?_);rintro e W5 ⟨rfl,hb5⟩;(have HB5:Hid (Below W1.heap.size W1 W5):=HB4w.out.trans (Below.mono hb5 HB4w.out.size));(have HB45:=Lib.hid hb5);clear hb5)
    have HR5:Hid (W5.rangeAt wr.heap.size 0 (fEn p.e)):=rangeMt ((HB45.out.block _ (lt_of_block HG4.out)).trans HG4.out)
    go_wp2_with (first
     |(with_reducible refine wpList_load_mid rfl 55 (.tmp 28) rfl wr.heap.size 0 rfl (fEn p.e) _ HR5.out Tryz.underlying55 rfl (sizeEnL p.e) ?_)
     |((with_reducible refine wpList_store_but (o:=⟨none,_,_,_,_,_⟩) rfl 55 (.tmp 4) (.tmp 29) rfl (w.heap.size+1) 55 _ _ rfl rfl (HC.out W5 HB5.out).2 (sizeEnA p.e) rfl (all_oneCell_toArray (fEn_one p.e)) ?_);intro W6 HG6 HB6n))
    go_goals
    exact bodyPost_ret (ret_cell_tmpS rfl rfl HG6.out Tryz.underlying55 (sizeEnA p.e)) rfl ⟨by rw [HAK.out];rfl,(HB1.out.trans (HB5.out.mono HB1.out.size)).trans (HB6n.out.below (Nat.le_trans HB1.out.size HB5.out.size) (fun i hi=>by subst hi;exact Nat.le_succ _))⟩
   |false=>
    go_wp2_with (go_at_call 118;(with_reducible refine (HCV1.out _ HB4w.out).mono ?_);rintro e W5 ⟨rfl,hb5⟩;(have HB5:Hid (Below W1.heap.size W1 W5):=HB4w.out.trans (Below.mono hb5 HB4w.out.size));clear hb5)
    go_roundw
    case rel=>exact ⟨k+1,by omega,by go_num,fun j r hj hr=>by
     by_cases h:j < k
     ·exact HNB.out j r h hr
     ·obtain rfl:j=k:=by omega
      rw [HPG.out _ _ HP.out] at hr
      injection hr with hr
      rw [←hr];exact HCB.out,HB5.out⟩
    case measure=>simp [intOf];omega
  ·obtain rfl:k=ms.length:=by omega
   have HAK:Hid (akF ml d q=none):=akF_none (fun j m h=>HNB.out j m (by rw [←HPL.out];exact (List.getElem?_eq_some_iff.1 h).1) h)
   go_wp2_with (first
    |(with_reducible refine wpList_built (o:=⟨some 31,_,_,_,_,_⟩) rfl 55 #[] rfl zEn (by kernel_rfl) ?_)
    |((with_reducible refine wpList_store_but (o:=⟨none,_,_,_,_,_⟩) rfl 55 (.tmp 4) (.tmp 31) rfl (w.heap.size+1) 55 _ zEn rfl rfl (HC.out wr HBr.out).2 sizeEnZ rfl zEn_all ?_);intro W6 HG6 HB6n))
   go_goals
   exact bodyPost_ret (ret_cell_tmpS rfl rfl HG6.out Tryz.underlying55 sizeEnZ) rfl ⟨by rw [HAK.out];rfl,(HB1.out.trans (HBr.out.mono HB1.out.size)).trans (HB6n.out.below (Nat.le_trans HB1.out.size HBr.out.size) (fun i hi=>by subst hi;exact Nat.le_succ _))⟩
