/- blame.Against: slices.IndexFunc and slices.DeleteFunc at accusations. slices.DeleteFunc at accusations; blame.Against. versionvector.Get, Covers. judge.acknowledged. blame.Named. -/
import Derived.Test.YtpdledjgbgalcaaGreatDoorPv
namespace Go.Proofs.YtpdledjgbgalcaaGreatDoor
set_option maxRecDepth 100000
set_option maxHeartbeats 16000000
open Go.RowKit Go.Lib
set_option linter.unusedVariables false
set_option linter.unusedSimpArgs false
theorem But.setCells (b:Nat):∀(vs:List Value) (f:Nat) (w:World),But (fun k=>k=b) w (w.setCells b f vs)
 | [],f,w=>But.refl _ _
 |v::r,f,w=>(But.setCell (p:=fun k=>k=b) (x:=⟨b,f,none⟩) (But.refl _ _) (.inl rfl) v).trans (But.setCells b r (f+1) _) (fun i hi=> .inl hi)
section
variable {α:Type} {f:α→List Value} {s:Nat} {e:TypeId} {w:World} {base gb n c:Nat} {xs:List α}
theorem OwnN.len_ (h:OwnN f s e w base (.slice (some ⟨gb,0,none⟩) n c) xs):n=xs.length:=by
 rcases h.2 with ⟨h',_⟩ |⟨g',cap',cur,h',_⟩
 ·cases h'
 ·simp at h';exact h'.2.1
theorem OwnN.cut (hs:∀x,(f x).length=s) (h:OwnN f s e w base (.slice (some ⟨gb,0,none⟩) n c) xs) {k:Nat} (hk:k≤n):OwnN f s e w base (.slice (some ⟨gb,0,none⟩) k c) (xs.take k):=by
 obtain rfl:=h.len_;have hkl:(xs.take k).length=k:=by simp;omega
 unfold OwnN World.ownsRow;rw [hkl];refine ⟨by rw [ycB hs,hkl],?_⟩;rcases h.2 with ⟨h',_⟩ |⟨g',cap',cur,h',h1,h2,h3,h4,h5,h6⟩
 ·cases h'
 ·simp at h'
  obtain ⟨rfl,rfl⟩:=h';refine .inr ⟨gb,c,cur,rfl,h1,h2,by omega,h4,h5,?_⟩;have h7:(cur.toList.take (xs.length*s)).take (k*s)=(xs.flatMap f).take (k*s):=by rw [h6]
  rw [List.take_take,Nat.min_eq_left (Nat.mul_le_mul_right _ hk)] at h7;rw [h7];have h8:xs.flatMap f=(xs.take k).flatMap f++(xs.drop k).flatMap f:=by rw [←List.flatMap_append,List.take_append_drop]
  rw [h8,List.take_append_of_le_length (by rw [ycB hs,hkl];exact Nat.le_refl _),List.take_of_length_le (by rw [ycB hs,hkl];exact Nat.le_refl _)]
end
theorem But.grownBy {g:Nat} {w w':World} (h:But (fun k=>k=g) w w'):w.grownBy w' (some g):=⟨h.os,h.tape,h.output,h.size,fun k hk hne=>h.block k hk (fun e=>hne (by rw [e]))⟩
def DlR (d:Int) (rs:List AcR) (g n c base:Nat) (w:World) (wr:World) (i j:Nat):Prop:=
 But (fun k=>k=g) w wr∧∃ys,OwnN fAr 20 39 wr base (.slice (some ⟨g,0,none⟩) n c) ys∧ys.take i=(rs.take j).filter (fun r=>decide (r.a.R.hd=d))∧ys.drop j=rs.drop j
theorem DlR.row {d:Int} {rs:List AcR} {g n c base:Nat} {w wr:World} {i j:Nat} (h:DlR d rs g n c base w wr i j) (hj:j < n):∃r,rs[j]? =some r∧wr.rangeAt g (j*20) (fAr r):=by
 obtain ⟨_,ys,ho,_,hd⟩:=h;obtain rfl:=ho.len_;refine ⟨ys[j],?_,?_⟩
 ·have h1:(ys.drop j)[0]? =(rs.drop j)[0]? :=by rw [hd]
  rw [List.getElem?_drop,List.getElem?_drop,Nat.add_zero] at h1;rw [←h1,List.getElem?_eq_getElem hj]
 ·obtain ⟨A,c',e,_,hs,_⟩:=OwnN.shape fAr_len ho
  injection e with e1 e2 e3;subst e1;obtain ⟨b,off,x,e4,hb,hx,hat⟩:=hs.at_ hj;have h5:=(hs.2 om);injection e4 with e4;injection e4 with e4 e6 _;subst e4 e6;rw [List.getElem?_eq_getElem hj] at hx;injection hx with hx;subst hx;intro k v hv
  have:=hat k v hv
  rwa [Nat.zero_add] at this
theorem ycx (d:Int) (w:World):Calls Tryz.prog 233 #[.int .i64 d] w fun e w'=>e= .returned (.bool (devB d))∧w=w':=by
 by_cases h:0≤d
 ·go_enter Tryz.func233,Tryz.ntmps233
  go_wp2;go_ret;exact ⟨ya2 (by simp [h,devB]),rfl⟩
 ·have hd:devB d=false:=by simp [devB,h]
  go_enter Tryz.func233,Tryz.ntmps233;go_wp2;go_ret;exact ⟨rfl,rfl⟩
theorem vget_any (A:Option Addr) (n:Nat) (xs:List Int) (c:Nat) (w:World) (B:Nat) (hx:Sl I w B A n xs) (hB:B≤w.heap.size) (hl:n≤1000000) (d:Int):
 Calls Tryz.prog 179 #[.slice A n c,.int .i64 d] w fun e w'=>e= .returned (.int .i64 (if ya5 xs&&devB d then gv xs d else 0))∧Below w.heap.size w w':=by
 have HX:=lh hx;clear hx;obtain ⟨px,hpx⟩:∃p,p=pd xs:=⟨_,rfl⟩
 have c1:Hid (∀W,Sl I W B A n xs→B≤W.heap.size→Calls Tryz.prog 133 #[.slice A n c] W fun e w'=>e= .returned (.tuple #[.agg (av px),.bool (ya5 xs)])∧Below W.heap.size W w'):=fun W h hb=>by rw [hpx];exact padded_any A n xs c W B h hb hl
 have S1:Hid ((Tryz.prog.info? 212).map (·.size)=some (av px).size):=hpx▸pd_size57 xs;have T1:Hid (Z12.toArray.size=(av px).size):=hpx▸pd_sizeZ xs;have L1:Hid (px.length=12):=hpx▸pd_len xs;have HPX:=lh hpx;clear hpx
 by_cases hv:ya5 xs=true
 ·by_cases hd:devB d=true
  ·have hd2:0≤d∧d < 12:=by simpa [devB] using hd
   obtain ⟨k,rfl⟩:∃k:Nat,d=k:=⟨d.toNat,by omega⟩
   obtain ⟨x,hxk⟩:=ybn (xs:=px) (k:=k) (by rw [L1.out];omega);have HR:Hid ((if ya5 xs&&devB (k:Int) then gv xs k else 0)=x):=by show _=_;rw [hv,hd];simp only [Bool.and_self,if_true];rw [gv_nat,←pad_getD,←pd_yes hv,←HPX.out,ybg hxk]
   have hc:∀W:World,W.heap[W.heap.size]? =none:=fun W=>by simp
   have hk12:k < 12:=by omega
   rw [HR.out];go_enter Tryz.func179,Tryz.ntmps179
   go_wp2_with fail
   refine (c1.out _ HX.out hB).mono ?_;rintro e w1 ⟨rfl,hb1⟩;have HB1:=lh hb1;have hs1:=hb1.size;clear hb1;have hcell:=At.zero (f:=I) (At.of_block (heap_alloc_new w1 (.cells (av px) 212))) hxk;clear hxk hc hd2
   go_wp2_with (first
    |(with_reducible refine ya3 (o:=⟨none,.store 212 (.tmp 5) (.tmp 10),_,_,_,_⟩) rfl 212 (.tmp 5) (.tmp 10) rfl 212 Z12.toArray (av px) rfl rfl S1.out T1.out (av_one _) ?_)
    |(go_at_call 233;refine (ycx _ _).mono ?_;rintro e w' ⟨rfl,rfl⟩))
   go_ret;exact ⟨rfl,HB1.out.alloc hs1 _⟩
  ·have hd':devB d=false:=by simpa using hd
   clear hd;go_enter Tryz.func179,Tryz.ntmps179
   go_wp2_with fail
   refine (c1.out _ HX.out hB).mono ?_;rintro e w1 ⟨rfl,hb1⟩;have HB1:=lh hb1;have hs1:=hb1.size;clear hb1
   go_wp2_with (first
    |(with_reducible refine ya3 (o:=⟨none,.store 212 (.tmp 5) (.tmp 10),_,_,_,_⟩) rfl 212 (.tmp 5) (.tmp 10) rfl 212 Z12.toArray (av px) rfl rfl S1.out T1.out (av_one _) ?_)
    |(go_at_call 233;refine (ycx _ _).mono ?_;rintro e w' ⟨rfl,rfl⟩))
   all_goals (go_ret;exact ⟨rfl,HB1.out.alloc hs1 _⟩)
 ·have hv':ya5 xs=false:=by simpa using hv
  clear hv;go_enter Tryz.func179,Tryz.ntmps179
  go_wp2_with fail
  refine (c1.out _ HX.out hB).mono ?_;rintro e w1 ⟨rfl,hb1⟩;have HB1:=lh hb1;have hs1:=hb1.size;clear hb1
  go_wp2_with (first
   |(with_reducible refine ya3 (o:=⟨none,.store 212 (.tmp 5) (.tmp 10),_,_,_,_⟩) rfl 212 (.tmp 5) (.tmp 10) rfl 212 Z12.toArray (av px) rfl rfl S1.out T1.out (av_one _) ?_))
  all_goals (go_ret;exact ⟨rfl,HB1.out.alloc hs1 _⟩)
theorem vcovers_any (A:Option Addr) (n:Nat) (xs:List Int) (c:Nat) (w:World) (B:Nat) (hx:Sl I w B A n xs) (hB:B≤w.heap.size) (hl:n≤1000000) (d s:Int):
 Calls Tryz.prog 118 #[.slice A n c,.int .i64 d,.int .i64 s] w fun e w'=>e= .returned (.bool (decide (1≤s)&&decide (s≤if ya5 xs&&devB d then gv xs d else 0)))∧Below w.heap.size w w':=by
 obtain ⟨r,hr⟩:∃r,r=if ya5 xs&&devB d then gv xs d else 0:=⟨_,rfl⟩
 have c1:Hid (Calls Tryz.prog 179 #[.slice A n c,.int .i64 d] w fun e w'=>e= .returned (.int .i64 r)∧Below w.heap.size w w'):=by rw [hr];exact vget_any A n xs c w B hx hB hl d
 rw [←hr];clear hr
 by_cases h1:1≤s
 ·go_enter Tryz.func118,Tryz.ntmps118
  go_wp2_with (go_at_call 179;refine c1.out.mono ?_;rintro e w' ⟨rfl,hb⟩)
  go_ret;exact ⟨ya2 (by simp [h1]),hb⟩
 ·go_enter Tryz.func118,Tryz.ntmps118
  go_wp2_with fail
  go_ret;exact ⟨ya2 yaW,Below.refl _ _⟩
theorem ydb {P:Program} {w:World} {fn:Func} {p u:Tmp} {ty:TypeId} (hr:fn.results=#[.cell p ty,.tmp u]) {tmps:Array Value} {g:Nat} {t:TypeId} {cs:Array Value} {fr:Nat × Nat} {fs}
 (hp:tmps.getD p undef= .pointer (some ⟨g,0,none⟩)) (hg:w.heap[g]? =some (.cells cs t fr)) (hu:P.underlying ty=some (.struct fs)) (hi:(P.info? ty).map (·.size)=some cs.size):
 (results fn tmps).run P w= .ok (.tuple #[.agg cs,tmps.getD u undef]) w:=by
 rw [results_cell_tmp hr,hp];simp [asAddr,Result.andThen,run_loadVar_row w g t ty cs fr _ hg hu rfl hi]
def cvB (v:List Int) (d s:Int):Bool:=decide (1≤s)&&decide (s≤if ya5 v&&devB d then gv v d else 0)
def akF (ml:List (EnR × List Int)) (d s:Int):Option EnR:=(ml.find? fun m=>cvB m.2 d s).map (·.1)
theorem akF_none {ml:List (EnR × List Int)} {d s:Int} (h:∀(j:Nat) (m:EnR × List Int),ml[j]? =some m→cvB m.2 d s=false):akF ml d s=none:=by
 unfold akF;rw [List.find?_eq_none.2]
 ·rfl
 ·intro m hm
  obtain ⟨j,hj⟩:=List.getElem?_of_mem hm;rw [h j m hj]
  decide
theorem akF_some:∀ {ml:List (EnR × List Int)} {d s:Int} {k:Nat} {m:EnR × List Int},(∀(j:Nat) (m:EnR × List Int),j < k→ml[j]? =some m→cvB m.2 d s=false)→ml[k]? =some m→cvB m.2 d s=true→akF ml d s=some m.1
 | [],d,s,k,m,_,h,_=>by simp at h
 |a::l,d,s,0,m,_,h,hc=>by
  obtain rfl:a=m:=by simpa using h
  unfold akF;rw [List.find?_cons,hc]
  rfl
 |a::l,d,s,k+1,m,hn,h,hc=>by
  have ih:=akF_some (ml:=l) (d:=d) (s:=s) (k:=k) (fun j m hj hm=>hn (j+1) m om (by simpa using hm)) (by simpa using h) hc;unfold akF at ih ⊢;rw [List.find?_cons,hn 0 a om sI];exact ih
abbrev zEn:Array Value:=#[.int .i64 0,.int .i64 0,.int .i64 0,.int .i64 0,.slice none 0 0,.string ⟨#[]⟩]
abbrev zMt:Array Value:=#[.int .i64 0,.int .i64 0,.int .i64 0,.int .i64 0,.slice none 0 0,.string ⟨#[]⟩,.slice none 0 0]
def akC:Option EnR→Array Value
 |some e=>(fEn e).toArray
 |none=>zEn
theorem sizeEnA (e:EnR):(Tryz.prog.info? 55).map (·.size)=some (fEn e).toArray.size:=by kernel_rfl
theorem sizeEnL (e:EnR):(Tryz.prog.info? 55).map (·.size)=some (fEn e).length:=by kernel_rfl
theorem sizeEnZ:(Tryz.prog.info? 55).map (·.size)=some zEn.size:=by kernel_rfl
theorem zEn_all:zEn.all (·.oneCell')=true:=by kernel_rfl
theorem sizeMtA (m:MtR):(Tryz.prog.info? 176).map (·.size)=some (fMt m).toArray.size:=by kernel_rfl
theorem sizeMtL (m:MtR):(Tryz.prog.info? 176).map (·.size)=some (fMt m).length:=by kernel_rfl
theorem rangeMt {w:World} {b:Nat} {t:TypeId} {m:MtR} (h:w.heap[b]? =some (.cells (fMt m).toArray t (0,0))):w.rangeAt b 0 (fEn m.e):=fun j v hv=>by
 rw [Nat.zero_add,cell_of_row w b j _ _ _ h,List.getElem?_toArray,List.getElem?_append_left (List.getElem?_eq_some_iff.1 hv).1];exact hv
theorem ack_any (lab:Nat→Rl) (s k kS kM:Nat) (x:Vw) (l:List EnR) (A:Option Addr) (n c:Nat) (mN mS mM:Lit→Value) (has:Int→Int→Bool) (pcs:Int→Int→Int→List PcX) (mts:Int→List (EnR × List Int)) (d q:Int) (R:Rcp) (st:ByteArray) (tx:Int) (no an:ByteArray) (w:World)
 (hJ:JSt w lab s k kS kM x l A n c mN mS mM has pcs mts) (hh:int64 R.hd) (hml:(mts R.hd).length≤1000) (hmv:∀m∈mts R.hd,m.2.length≤1000000):
 Calls Tryz.prog 60 #[.pointer (some ⟨s+3,0,none⟩),.agg (cA d q R st tx no an)] w fun e w'=>e= .returned (.tuple #[.agg (akC (akF (mts R.hd) d q)),.bool (akF (mts R.hd) d q).isSome])∧Below w.heap.size w w':=by
 obtain ⟨W1,hW1⟩:∃W1:World,W1=(w.alloc (.cells (cA d q R st tx no an) 39)).alloc (.cells zEn 55):=⟨_,rfl⟩
 have hb1:Below w.heap.size w W1:=by rw [hW1];exact bl.alloc sI _
 have hga:W1.heap[w.heap.size]? =some (.cells (cA d q R st tx no an) 39 (0,0)):=by rw [hW1];exact (Below.heap_alloc _ _ _ sI).trans (heap_alloc_new w _)
 have hge:W1.heap[w.heap.size+1]? =some (.cells zEn 55 (0,0)):=by rw [hW1];have:=heap_alloc_new (w.alloc (.cells (cA d q R st tx no an) 39)) (.cells zEn 55);simpa using this
 have hJ1:=hJ.on hb1;have HC:Hid (∀V,Below W1.heap.size W1 V→V.heap[w.heap.size]? =some (.cells (cA d q R st tx no an) 39 (0,0))∧V.heap[w.heap.size+1]? =some (.cells zEn 55 (0,0))):=fun V hb=>⟨(hb.block _ (lt_of_block hga)).trans hga,(hb.block _ (lt_of_block hge)).trans hge⟩
 obtain ⟨ms,hp1,hp2,hp3,hp4⟩:=hJ1.mtr R.hd hh;obtain ⟨PA,Pc0,hpv,hpc0,hps,_⟩:=OwnN.shape fMt_len hp2;have HPL:Hid ((mts R.hd).length=ms.length):=by show _=_;rw [←hp1];simp
 have HPM:Hid (ms.length≤1000):=by show _≤_;rw [←HPL.out];exact hml
 have HPG:Hid (∀(j:Nat) (p:MtR),ms[j]? =some p→(mts R.hd)[j]? =some (p.e,p.v)):=fun j p h=>by rw [←hp1,List.getElem?_map,h];rfl
 have HLK:Hid (∀V,Below W1.heap.size W1 V→(Instr.lookup 166 (.map (some (s+2))) (.int .i64 R.hd) false).run Tryz.prog V= .ok (.slice PA ms.length Pc0) V):=fun V hb=>by
  rw [←hpv];exact (hJ1.on hb).mtm.look (Maps.int_keyed Tryz.underlying3) Tryz.underlying166 (Mee.zero V) (kI_of hh)
 have HCV:Hid (∀V,Below W1.heap.size W1 V→∀p∈ms,Calls Tryz.prog 118 #[.slice p.h.a p.h.n p.h.c,.int .i64 d,.int .i64 q] V fun e w'=>e= .returned (.bool (cvB p.v d q))∧Below V.heap.size V w'):=fun V hb p hp=>by
  obtain ⟨g1,_⟩:=hp4 p hp;have g2:=hmv (p.e,p.v) (by rw [←hp1];exact List.mem_map_of_mem (f:=fun m:MtR=>(m.e,m.v)) hp);have g3:p.v.length=p.h.n:=g1.1;exact vcovers_any p.h.a p.h.n p.v p.h.c V W1.heap.size (g1.up hb nl) hb.size (by rw [←g3];exact g2) d q
 have HPS:=lh hps;have HB1:=lh hb1;have HWE:=lh hW1;have HBz:Hid (Below W1.heap.size W1 W1):=Below.refl _ _;obtain ⟨z0,z1,z2,z3,z4,z5⟩:=ycm (HC.out W1 HBz.out).1;have v9:=cj9 hJ1.jd;have hlk:=fun a=>HLK.out (W1.drewN a) (ya0 HBz.out _)
 generalize mts R.hd=ml at*
 clear hJ hh hml hmv hb1 hga hge hJ1 hp1 hp2 hp3 hp4 hpv hpc0 hps hW1;go_enter Tryz.func60,Tryz.ntmps60
 go_upto_region 1 with fail
 rw [←HWE.out]
 go_quiet (fail)
 generalize hW:World.drewN W1 _=W2;have HB2:Hid (Below W1.heap.size W1 W2):=by show Below ..;rw [←hW];exact ya0 HBz.out _
 clear z0 z1 z2 z3 z4 z5 v9 hW hlk HLK HWE;have HNB:Hid (∀(j:Nat) (m:EnR × List Int),j < 0→ml[j]? =some m→cvB m.2 d q=false):=fun j p hj=>absurd hj om
 go_wp2_with fail
 go_loopw [17] (fun i wr=>∃k:Nat,k≤ms.length∧i= .int .i64 k∧Hid (∀(j:Nat) (m:EnR × List Int),j < k→ml[j]? =some m→cvB m.2 d q=false)∧Hid (Below W1.heap.size W1 wr)) (fun i _=>ms.length - (intOf i).toNat)
 case atStart=>exact ⟨0,Nat.zero_le _,rfl,HNB,HB2⟩
 case round=>
  clear HNB HB2;obtain ⟨k,hk,rfl,HNB,HBr⟩:=hrel;have hpm:=HPM.out
  by_cases hlt:k < ms.length
  ·obtain ⟨b,off,p,rfl,hbB,hp,hat⟩:=(HPS.out.up HBr.out nl).at_ hlt
   have hkI:(k:Int) < (ms.length:Int):=by omega
   have HRA:Hid (wr.rangeAt b (off+k*7) (fMt p)):=fun j v hv=>by rw [Nat.add_assoc];exact hat j v hv
   have HP:=lh hp;have HCV1:=lh (fun V hb=>HCV.out V hb p (List.mem_of_getElem? hp));have HGN:Hid ((wr.alloc (.cells zMt 176)).heap[wr.heap.size]? =some (.cells zMt 176 (0,0))):=heap_alloc_new wr _;clear hat hp
   go_upto_region 4 with (first
    |(with_reducible refine wpList_load_mid rfl 176 (.tmp 19) rfl b (off+k*7) rfl (fMt p) _ HRA.out Tryz.underlying176 rfl (sizeMtL p) ?_)
    |((with_reducible refine yaZ (o:=⟨none,_,_,_,_,_⟩) rfl 176 (.tmp 7) (.tmp 20) rfl wr.heap.size 176 _ _ rfl rfl HGN.out (sizeMtA p) rfl (all_oneCell_toArray (fMt_one p)) ?_);intro W4 HG4 HB4n;(have HB4:Hid (Below wr.heap.size wr W4):=((Below.refl _ wr).alloc nl (.cells zMt 176)).trans (HB4n.out.below sI (fun i hi=>by subst hi;exact Nat.le_refl _)))))
   have HB4w:Hid (Below W1.heap.size W1 W4):=HBr.out.trans (HB4.out.mono HBr.out.size);have y6:W4.cell? ⟨wr.heap.size,6,none⟩=some (.slice p.h.a p.h.n p.h.c):=by rw [cell_of_row W4 _ _ _ _ _ HG4.out];rfl
   obtain ⟨z0,z1,z2,z3,z4,z5⟩:=ycm (HC.out W4 HB4w.out).1;obtain ⟨cv,hcv⟩:∃t,cvB p.v d q=t:=⟨_,rfl⟩
   rw [hcv] at HCV1;have HCB:=lh hcv;clear hcv
   cases cv with
   |true=>
    have HAK:Hid (akF ml d q=some p.e):=akF_some HNB.out (HPG.out _ _ HP.out) HCB.out
    go_upto_region 5 with (go_at_call 118;(with_reducible refine (HCV1.out _ HB4w.out).mono ?_);rintro e W5 ⟨rfl,hb5⟩;(have HB5:Hid (Below W1.heap.size W1 W5):=HB4w.out.trans (Below.mono hb5 HB4w.out.size));(have HB45:=lh hb5);clear hb5)
    have HR5:Hid (W5.rangeAt wr.heap.size 0 (fEn p.e)):=rangeMt ((HB45.out.block _ (lt_of_block HG4.out)).trans HG4.out)
    go_wp2_with (first
     |(with_reducible refine wpList_load_mid rfl 55 (.tmp 28) rfl wr.heap.size 0 rfl (fEn p.e) _ HR5.out Tryz.underlying55 rfl (sizeEnL p.e) ?_)
     |((with_reducible refine yaZ (o:=⟨none,_,_,_,_,_⟩) rfl 55 (.tmp 4) (.tmp 29) rfl (w.heap.size+1) 55 _ _ rfl rfl (HC.out W5 HB5.out).2 (sizeEnA p.e) rfl (all_oneCell_toArray (ydl p.e)) ?_);intro W6 HG6 HB6n))
    go_goals
    exact bodyPost_ret (ydb rfl rfl HG6.out Tryz.underlying55 (sizeEnA p.e)) rfl ⟨by rw [HAK.out];rfl,(HB1.out.trans (HB5.out.mono HB1.out.size)).trans (HB6n.out.below (Nat.le_trans HB1.out.size HB5.out.size) (fun i hi=>by subst hi;exact Nat.le_succ _))⟩
   |false=>
    go_wp2_with (go_at_call 118;(with_reducible refine (HCV1.out _ HB4w.out).mono ?_);rintro e W5 ⟨rfl,hb5⟩;(have HB5:Hid (Below W1.heap.size W1 W5):=HB4w.out.trans (Below.mono hb5 HB4w.out.size));clear hb5)
    go_roundw
    case rel=>exact ⟨k+1,by omega,by go_num,fun j r hj hr=>by
     by_cases h:j < k
     ·exact HNB.out j r h hr
     ·obtain rfl:j=k:=by omega
      rw [HPG.out _ _ HP.out] at hr;injection hr with hr
      rw [←hr];exact HCB.out,HB5.out⟩
    case measure=>simp [intOf];omega
  ·obtain rfl:k=ms.length:=by omega
   have HAK:Hid (akF ml d q=none):=akF_none (fun j m h=>HNB.out j m (by rw [←HPL.out];exact (List.getElem?_eq_some_iff.1 h).1) h)
   go_wp2_with (first
    |(with_reducible refine ya6 (o:=⟨some 31,_,_,_,_,_⟩) rfl 55 #[] rfl zEn yaV ?_)
    |((with_reducible refine yaZ (o:=⟨none,_,_,_,_,_⟩) rfl 55 (.tmp 4) (.tmp 31) rfl (w.heap.size+1) 55 _ zEn rfl rfl (HC.out wr HBr.out).2 sizeEnZ rfl zEn_all ?_);intro W6 HG6 HB6n))
   go_goals
   exact bodyPost_ret (ydb rfl rfl HG6.out Tryz.underlying55 sizeEnZ) rfl ⟨by rw [HAK.out];rfl,(HB1.out.trans (HBr.out.mono HB1.out.size)).trans (HB6n.out.below (Nat.le_trans HB1.out.size HBr.out.size) (fun i hi=>by subst hi;exact Nat.le_succ _))⟩
theorem decV_valid {bs v:List Int} (h:decV bs=some v):ya5 v=true:=by
 unfold decV at h
 split at h
 ·next g=>
  injection h with h;rw [←h];exact g.2.2.1
 ·cases h
theorem mtX_len (e:EnR):(mtX e).v.length≤12:=by
 unfold mtX mtD
 split
 ·split
  ·next q v h=>
   unfold dmV at h
   split at h
   ·obtain ⟨v',h1,h2⟩:=Option.map_eq_some_iff.1 h
    injection h2 with h3 h4;subst h4
    have:=decV_valid h1
    simp [ya5] at this;exact this.2
   ·cases h
  ·exact Nat.zero_le _
 ·exact Nat.zero_le _
theorem mtsE_ok {l:List EnR} {y:Int}:(∀m∈mtsE mtX l y,m.2.length≤1000000∧m.1∈l)∧(mtsE mtX l y).length≤l.length:=by
 refine ⟨fun m hm=>?_,List.length_filterMap_le _ _⟩;obtain ⟨e,he,h⟩:=List.mem_filterMap.1 hm;unfold mtE at h
 split at h
 ·injection h with h
  subst h;exact ⟨Nat.le_trans (mtX_len e) de,he⟩
 ·cases h
def fkB (fks:List Int) (d:Int):Bool:=fks.any fun f=>decide (f=d)&&devB f
def apB (ml:Int→List (EnR × List Int)) (al:List Ac) (d:Int):Bool:=al.any fun a=>decide (a.R.hd=d)&&(akF (ml a.R.hd) a.d a.q).isSome
def nmB (fks:List Int) (ml:Int→List (EnR × List Int)) (al:List Ac) (d:Int):Bool:=fkB fks d||apB ml al d
theorem fkB_hd {fks:List Int} {d:Int} (h:fkB fks d=true):0≤d∧d≤11:=by
 obtain ⟨f,_,h1⟩:=List.any_eq_true.1 h;simp [devB] at h1;omega
theorem nmB_step {fks:List Int} {ml:Int→List (EnR × List Int)} {cl:List (Ac × EnR)} {j:Nat} {p:Ac × EnR} (h:cl[j]? =some p) (d:Int):
 nmB fks ml ((cl.take (j+1)).map (·.1)) d=(nmB fks ml ((cl.take j).map (·.1)) d||(decide (p.1.R.hd=d)&&(akF (ml p.1.R.hd) p.1.d p.1.q).isSome)):=by
 unfold nmB apB;rw [List.take_add_one,h,List.map_append,List.any_append];simp [Bool.or_assoc]
theorem nmB_hd {fks:List Int} {ml:Int→List (EnR × List Int)} {al:List Ac} (h:∀a∈al,0≤a.R.hd∧a.R.hd≤11) (d:Int) (hd:nmB fks ml al d=true):0≤d∧d≤11:=by
 unfold nmB at hd;rcases Bool.or_eq_true _ _▸hd with h1 |h1
 ·exact fkB_hd h1
 ·obtain ⟨a,ha,h2⟩:=List.any_eq_true.1 h1
  rw [Bool.and_eq_true] at h2;rw [←of_decide_eq_true h2.1];exact h a ha
theorem ackE_any (lab:Nat→Rl) (s k kS kM:Nat) (x:Vw) (es:List EnR) (A:Option Addr) (n c:Nat) (mN mS mM:Lit→Value) (hel:es.length≤1000) (r:AcR) (w:World)
 (hJ:JSt w lab s k kS kM x (frE es) A n c mN mS mM (hasE (frE es)) (pcsE aqX (frE es)) (mtsE mtX (frE es))) (hh:int64 r.a.R.hd):
 Calls Tryz.prog 60 #[.pointer (some ⟨s+3,0,none⟩),.agg (cAr r)] w fun e w'=>e= .returned (.tuple #[.agg (akC (akF (mtsE mtX (frE es) r.a.R.hd) r.a.d r.a.q)),.bool (akF (mtsE mtX (frE es) r.a.R.hd) r.a.d r.a.q).isSome])∧Below w.heap.size w w':=
 ack_any lab s k kS kM x (frE es) A n c mN mS mM _ _ _ r.a.d r.a.q r.R r.a.st r.a.ix r.a.no r.a.an w hJ hh (by have h1:=(mtsE_ok (l:=frE es) (y:=r.a.R.hd)).2;have h2:=ycd es;show (mtsE mtX (frE es) r.a.R.hd).length≤1000;omega) (fun m hm=>(mtsE_ok.1 m hm).1)
theorem sizeAk (o:Option EnR):(Tryz.prog.info? 55).map (·.size)=some (akC o).size:=by cases o<;>kernel_rfl
theorem sizeAk6 (o:Option EnR):zEn.size=(akC o).size:=by cases o<;>rfl
theorem akC_all (o:Option EnR):(akC o).all (·.oneCell')=true:=by
 cases o with
 |none=>exact zEn_all
 |some e=>exact all_oneCell_toArray (ydl e)
theorem ycy (x:Vw) (es:List EnR) (vs:List VtR) (pubs drs:List ByteArray) (fks:List Int) (B:Nat) (w:World) (hG:Glob w) (hV:VwIn w B x es vs pubs drs fks) (hB:B≤w.heap.size) (hk:VwOk x es) (hfn:x.F.n≤500) (hen:x.E.n≤400):
 Calls Tryz.prog 24 #[.agg (cVw x)] w (NwI (hdL (nmB fks (mtsE mtX (frE es)) (opnV x es vs pubs drs))) w w.heap.size w):=by
 obtain ⟨W1,hW1⟩:∃W1:World,W1=(w.alloc (.cells (cVw x) 29)).alloc (.map #[] 0):=⟨_,rfl⟩
 have hb1:Below w.heap.size w W1:=by rw [hW1];exact bl.alloc sI _
 have hga:W1.heap[w.heap.size]? =some (.cells (cVw x) 29 (0,0)):=by rw [hW1];exact (Below.heap_alloc _ _ _ sI).trans (heap_alloc_new w _)
 have hm1:MapS W1 (w.heap.size+1) 0 (fun _=>false):=by
  have:=MapS.made (w.alloc (.cells (cVw x) 29))
  rw [hW1];simpa using this
 have HJU:Hid (∀V,Below w.heap.size w V→Calls Tryz.prog 50 #[.agg (cVw x)] V (JdP aqX mtX x es V)):=fun V hb=>judge_of x es vs pubs drs fks B V (hV.up hb hB) (Nat.le_trans hB hb.size) hk
 have HCH:Hid (∀V lab s k kS kM A n c mN mS mM,Below w.heap.size w V→JSt V lab s k kS kM x (frE es) A n c mN mS mM (hasE (frE es)) (pcsE aqX (frE es)) (mtsE mtX (frE es))→Calls Tryz.prog 51 #[.pointer (some ⟨s+3,0,none⟩)] V (CgP (opV x es vs pubs drs) (frE es) V)):=fun V lab s k kS kM A n c mN mS mM h1 hJ=>
  ydn lab _ k kS kM x es vs pubs drs fks A n c mN mS mM _ B V (hG.on h1) hJ (hV.up h1 hB) (Nat.le_trans hB h1.size) hk
 have hel:es.length=x.E.n:=hV.E.1.1
 have HCVW:Hid (∀V,Below W1.heap.size W1 V∨But (fun i=>i=w.heap.size+1) W1 V→V.heap[w.heap.size]? =some (.cells (cVw x) 29 (0,0))):=fun V hb=>by
  have hlt:=lt_of_block hga;rcases hb with hb |hb
  ·exact (hb.block _ hlt).trans hga
  ·exact (hb.block _ hlt om).trans hga
 have HFL:Hid (fks.length=x.F.n):=hV.F.1;have hFS:SL I W1 B x.F.a fks:=(hV.up hb1 hB).F.2;have HFS:=lh hFS;have HBB:Hid (B≤w.heap.size):=hB;have HEL:Hid (es.length≤400):=by show _≤_;omega
 have HACK:Hid (∀V lab s k kS kM A n c mN mS mM,JSt V lab s k kS kM x (frE es) A n c mN mS mM (hasE (frE es)) (pcsE aqX (frE es)) (mtsE mtX (frE es))→∀r:AcR,int64 r.a.R.hd→Calls Tryz.prog 60 #[.pointer (some ⟨s+3,0,none⟩),.agg (cAr r)] V fun e w'=>e= .returned (.tuple #[.agg (akC (akF (mtsE mtX (frE es) r.a.R.hd) r.a.d r.a.q)),.bool (akF (mtsE mtX (frE es) r.a.R.hd) r.a.d r.a.q).isSome])∧Below V.heap.size V w'):=fun V lab s k kS kM A n c mN mS mM hJ r hh=>
  ackE_any lab s k kS kM x es A n c mN mS mM om r V hJ hh
 obtain ⟨cl,hcl⟩:∃l,cgL (opV x es vs pubs drs) (frE es)=l:=⟨_,rfl⟩
 have HHD:Hid (∀p∈cl,0≤p.1.R.hd∧p.1.R.hd≤11):=fun p hp=>(cgL_ok p (by rw [hcl];exact hp)).1.1
 have HLN:Hid (cl.length≤400):=by
  show _≤_
  rw [←hcl];have h1:=cgL_len (opV x es vs pubs drs) (frE es);have h2:=ycd es;omega
 have HCE:=lh hcl;unfold opnV;rw [hcl];have HB1:=lh hb1;have HWE:=lh hW1;have HM1:=lh hm1;have hmm:= @run_makeMap Tryz.prog;obtain ⟨v0,v1,v2,v3,v4,v5,v6⟩:=ybE hga;obtain ⟨fn,hfe⟩:∃n,x.F.n=n:=⟨_,rfl⟩
 obtain ⟨FA,hfa⟩:∃A,x.F.a=A:=⟨_,rfl⟩
 rw [hfe] at HFL v6 hfn;rw [hfa] at HFS v6;clear hG hV hB hk hen hb1 hga hW1 hcl hm1 hel hFS hfe hfa;go_enter Tryz.func24,Tryz.ntmps24
 go_upto_region 2 with fail
 clear hmm;rw [←HWE.out];have HR0:Hid (But (fun i=>i=w.heap.size+1) W1 W1):=But.refl _ _
 go_upto_region 3 with fail
 clear v0 v1 v2 v3 v4 v5 v6
 go_loopw [15] (fun i wr=>∃k:Nat,k≤fn∧i= .int .i64 k∧Hid (But (fun i=>i=w.heap.size+1) W1 wr)∧Hid (MapS wr (w.heap.size+1) k (fkB (fks.take k)))) (fun i _=>fn - (intOf i).toNat)
 case atStart=>exact ⟨0,Nat.zero_le _,rfl,HR0,HM1⟩
 case round=>
  clear HM1 HR0;obtain ⟨k,hk,rfl,HB,HR⟩:=hrel
  by_cases hlt:k < fn
  ·obtain ⟨f,hf⟩:∃f,fks[k]? =some f:=⟨_,List.getElem?_eq_getElem (by rw [HFL.out];exact hlt)⟩
   have hkI:(k:Int) < (fn:Int):=by omega
   obtain ⟨b,off,rfl,hlb,hat⟩:=HFS.out (by rw [HFL.out];omega);have hbl:wr.heap[b]? =W1.heap[b]? :=HB.out.block b (by have h1:=HBB.out;have h2:=HB1.out.size;omega) (by have h1:=HBB.out;omega);have hcell:wr.cell? ⟨b,off+k,none⟩=some (.int .i64 f):=(World.cell?_of_block hbl).trans (hat k f hf)
   have HFK:Hid (∀d,fkB (fks.take (k+1)) d=(fkB (fks.take k) d||(decide (f=d)&&devB f))):=fun d=>by
    unfold fkB;rw [List.take_add_one,hf,List.any_append];simp
   clear hat hbl hf
   by_cases hd:0≤f∧f≤11
   ·have hdv:devB f=true:=by simp [devB];omega
    have HSE:Hid ((fun d=>fkB (fks.take k) d||decide (d=f))=fkB (fks.take (k+1))):=by
     show _=_
     funext d
     rw [HFK.out d,hdv,Bool.and_true];simp only [eq_comm]
    have HFI:Hid (int64 f):=⟨Int.le_trans de hd.1,Int.le_trans hd.2 de⟩;have hdd:decide (0≤f∧f≤11)=true:=decide_eq_true hd;clear hd hdv;obtain ⟨W5,r5,hm5,hg5⟩:=HR.out.store yaS HFI.out (.bool true);have HM5:=lh hm5;have HG5:=lh hg5;clear hm5 hg5
    go_wp2_with (go_at_call 42;(with_reducible refine (ybu f 0 11 _).mono ?_);rintro e w' ⟨rfl,rfl⟩)
    go_roundw
    case rel=>exact ⟨k+1,by omega,by go_num,HB.out.trans (q:=fun i=>i=w.heap.size+1) ⟨HG5.out.os,HG5.out.tape,HG5.out.output,HG5.out.size,fun i hi hne=>HG5.out.block i hi (fun e=>hne (by injection e))⟩ (fun i hi=> .inl hi),by have h:=HM5.out;rw [HSE.out] at h;exact h⟩
    case measure=>simp [intOf];omega
   ·have hdv:devB f=false:=by simp [devB];omega
    have HSE:Hid (fkB (fks.take k)=fkB (fks.take (k+1))):=by
     show _=_
     funext d
     rw [HFK.out d,hdv,Bool.and_false,Bool.or_false]
    have hdd:decide (0≤f∧f≤11)=false:=decide_eq_false hd;clear hd hdv
    go_wp2_with (go_at_call 42;(with_reducible refine (ybu f 0 11 _).mono ?_);rintro e w' ⟨rfl,rfl⟩)
    go_roundw
    case rel=>exact ⟨k+1,by omega,by go_num,HB.out,by have h:=HR.out.mono (Nat.le_succ k);rw [HSE.out] at h;exact h⟩
    case measure=>simp [intOf];omega
  ·obtain rfl:k=fn:=by omega
   obtain ⟨W0,hW0⟩:∃W0,W0=wr:=⟨_,rfl⟩
   subst hW0;rw [List.take_of_length_le (by rw [HFL.out];exact Nat.le_refl _)] at HR;have HBw:Hid (Below w.heap.size w W0):=HB1.out.trans (HB.out.below HB1.out.size (fun i hi=>by subst hi;omega));have HJU1:=lh (HJU.out W0 HBw.out);obtain ⟨v0,v1,v2,v3,v4,v5,v6⟩:=ybE (HCVW.out W0 (.inr HB.out));clear HFS HJU HFL HCVW hlt
   go_upto_region 10 with (first
    |(go_at_call 50;(with_reducible refine HJU1.out.mono ?_);rintro e V2 ⟨rfl,hb2,lab,jk,kS,kM,A,n,c,mN,mS,mM,hJ⟩;(have HC2:=lh (HCH.out V2 lab W0.heap.size jk kS kM A n c mN mS mM (HBw.out.trans (hb2.mono HBw.out.size)) hJ));(have HB2:=lh hb2);(have HJ2:=lh hJ);clear hb2 hJ)
    |(go_at_call 51;(with_reducible refine HC2.out.mono ?_);rintro e V3 ⟨v,rfl,hb3,cs,ho,hr,hm⟩;(obtain ⟨CA,cc,hv,hc,hps,hlo⟩:=OwnN.shape fCg_len ho);subst hv;(have HPS:=lh hps);(have HLO:=lh hlo);(have HMM:Hid (cs.map (fun c=>(c.r.a,c.e))=cl):=hm.trans HCE.out);(have HJ3:=lh (HJ2.out.on hb3));(have HM3:=lh (((HR.out.on HB2.out).on hb3)));(have HB3:Hid (Below w.heap.size w V3):=HBw.out.trans ((HB2.out.trans (hb3.mono HB2.out.size)).mono HBw.out.size));(have HS2:Hid (W0.heap.size≤V2.heap.size):=HB2.out.size);(have HCL:Hid (cs.length=cl.length):=by (show _=_;rw [←HMM.out];simp));clear hb3 ho hr hm hc hps hlo))
   clear v0 v1 v2 v3 v4 v5 v6;have HSM:Hid (w.heap.size+1 < W0.heap.size):=HR.out.lt;have HR0:Hid (But (fun i=>i=w.heap.size+1) V3 V3):=But.refl _ _;have hlen:cs.length≤400:=by have h1:=HLN.out;have h2:=HCL.out;omega
   have HM30:Hid (MapS V3 (w.heap.size+1) (k+0) (nmB fks (mtsE mtX (frE es)) ((cl.take 0).map (·.1)))):=by
    have h:=HM3.out;have e:nmB fks (mtsE mtX (frE es)) ((cl.take 0).map (·.1))=fkB fks:=by funext d;simp [nmB,apB]
    rw [e];exact h
   clear HJU1 HC2 HJ2 HCH HB2 HM3 HR HB
   go_loopw [29] (fun i wr=>∃j:Nat,j≤cs.length∧i= .int .i64 j∧Hid (But (fun i=>i=w.heap.size+1) V3 wr)∧Hid (MapS wr (w.heap.size+1) (k+j) (nmB fks (mtsE mtX (frE es)) ((cl.take j).map (·.1))))) (fun i _=>cs.length - (intOf i).toNat)
   case atStart=>exact ⟨0,Nat.zero_le _,rfl,HR0,HM30⟩
   case round=>
    clear HM30 HR0;obtain ⟨j,hj,rfl,HBr,HR⟩:=hrel
    by_cases hlt:j < cs.length
    ·obtain ⟨b,off,c1,rfl,hbB,hc1,hat⟩:=HPS.out.at_ hlt
     have hjI:(j:Int) < (cs.length:Int):=by omega
     have hcl1:cl[j]? =some (c1.r.a,c1.e):=by rw [←HMM.out,List.getElem?_map,hc1];rfl
     have HNS:=lh (nmB_step (fks:=fks) (ml:=mtsE mtX (frE es)) hcl1);have hblk:wr.heap[b]? =V3.heap[b]? :=HBr.out.block b hbB (by have h1:=HLO.out b rfl;have h2:=HSM.out;have h3:=HS2.out;omega);have HRA:Hid (wr.rangeAt b (off+j*26) (fCg c1)):=fun i v hv=>by rw [Nat.add_assoc];exact (World.cell?_of_block hblk).trans (hat i v hv)
     have HGN:Hid ((wr.alloc (.cells zCg 109)).heap[wr.heap.size]? =some (.cells zCg 109 (0,0))):=heap_alloc_new wr _;have HJq:=lh (HJ3.out.under (HBr.out.mono (fun i hi=> .inl (by have h2:=HSM.out;omega))))
     have HHR:Hid (int64 c1.r.a.R.hd):=by
      have h1:=HHD.out _ (List.mem_of_getElem? hcl1);exact ⟨Int.le_trans de h1.1,Int.le_trans h1.2 de⟩
     clear hat hc1 hblk hcl1
     go_upto_region 12 with (first
      |(with_reducible refine wpList_load_mid rfl 109 (.tmp 31) rfl b (off+j*26) rfl (fCg c1) _ HRA.out Tryz.underlying109 rfl (sizeCgL c1) ?_)
      |((with_reducible refine yaZ (o:=⟨none,_,_,_,_,_⟩) rfl 109 (.tmp 8) (.tmp 32) rfl wr.heap.size 109 _ _ rfl rfl HGN.out (sizeCg c1) rfl (fCg_all c1) ?_);intro W4 HG4 HB4n;(have HB4:Hid (Below wr.heap.size wr W4):=((Below.refl _ wr).alloc nl (.cells zCg 109)).trans (HB4n.out.below sI (fun i hi=>by subst hi;exact Nat.le_refl _)))))
     have HRC:=lh (rangeCg HG4.out);have HAK:=lh (HACK.out W4 lab W0.heap.size jk kS kM A n c mN mS mM (HJq.out.on HB4.out) c1.r HHR.out);obtain ⟨o,ho⟩:∃o,akF (mtsE mtX (frE es) c1.r.a.R.hd) c1.r.a.d c1.r.a.q=o:=⟨_,rfl⟩
     have HNS2:Hid (∀d,nmB fks (mtsE mtX (frE es)) ((cl.take (j+1)).map (·.1)) d=(nmB fks (mtsE mtX (frE es)) ((cl.take j).map (·.1)) d||(decide (c1.r.a.R.hd=d)&&o.isSome))):=fun d=>by rw [HNS.out d,ho]
     rw [ho] at HAK;obtain ⟨fb,hfb⟩:∃b,o.isSome=b:=⟨_,rfl⟩
     rw [hfb] at HAK HNS2;clear HJq HNS ho hfb
     go_upto_region 13 with (first
      |(with_reducible refine wpList_load_mid rfl 39 (.tmp 35) rfl wr.heap.size 0 rfl (fAr c1.r) _ HRC.out Tryz.underlying39 rfl (sizeArL c1.r) ?_)
      |(go_at_call 60;(with_reducible refine HAK.out.mono ?_);rintro e W5 ⟨rfl,hb5⟩;(have HB5:=lh hb5);(have HGE:Hid ((W5.alloc (.cells zEn 55)).heap[W5.heap.size]? =some (.cells zEn 55 (0,0))):=heap_alloc_new W5 _);clear hb5)
      |((with_reducible refine yaZ (o:=⟨none,_,_,_,_,_⟩) rfl 55 (.tmp 9) (.tmp 38) rfl W5.heap.size 55 _ _ rfl rfl HGE.out (sizeAk o) (sizeAk6 o) (akC_all o) ?_);intro W6 HG6 HB6n;(have HB6:Hid (Below W5.heap.size W5 W6):=((Below.refl _ W5).alloc nl (.cells zEn 55)).trans (HB6n.out.below sI (fun i hi=>by subst hi;exact Nat.le_refl _)))))
     have HB46:Hid (Below W4.heap.size W4 W6):=HB5.out.trans (HB6.out.mono HB5.out.size);have HBq6:Hid (Below wr.heap.size wr W6):=HB4.out.trans (HB46.out.mono HB4.out.size);have hhd:W6.cell? ⟨wr.heap.size,2,none⟩=some (.int .i64 c1.r.a.R.hd):=by rw [World.cell?_of_block (HB46.out.block _ (lt_of_block HG4.out)),cell_of_row W4 _ _ _ _ _ HG4.out];rfl
     cases fb with
     |true=>
      obtain ⟨W7,r7,hm7,hg7⟩:=(HR.out.on HBq6.out).store (by have h1:=hlen;unfold maxLen;omega) HHR.out (.bool true);have HM7:=lh hm7;have HG7:=lh hg7;clear hm7 hg7
      go_wp2_with fail
      go_roundw
      case rel=>exact ⟨j+1,by omega,by go_num,(HBr.out.trans (But.of_below (p:=fun _=>False) HBq6.out) (fun i hi=>hi.elim)).trans (q:=fun i=>i=w.heap.size+1) ⟨HG7.out.os,HG7.out.tape,HG7.out.output,HG7.out.size,fun i hi hne=>HG7.out.block i hi (fun e=>hne (by injection e))⟩ (fun i hi=> .inl hi),by
       have h:=HM7.out
       have e:(fun d=>nmB fks (mtsE mtX (frE es)) ((cl.take j).map (·.1)) d||decide (d=c1.r.a.R.hd))=nmB fks (mtsE mtX (frE es)) ((cl.take (j+1)).map (·.1)):=by
        funext d
        rw [HNS2.out d,Bool.and_true];simp only [eq_comm]
       rw [e] at h
       exact h⟩
      case measure=>simp [intOf];omega
     |false=>
      go_wp2_with fail
      go_roundw
      case rel=>exact ⟨j+1,by omega,by go_num,HBr.out.trans (But.of_below (p:=fun _=>False) HBq6.out) (fun i hi=>hi.elim),by
       have h:=(HR.out.on HBq6.out).mono (Nat.le_succ _)
       have e:nmB fks (mtsE mtX (frE es)) ((cl.take j).map (·.1))=nmB fks (mtsE mtX (frE es)) ((cl.take (j+1)).map (·.1)):=by
        funext d
        rw [HNS2.out d,Bool.and_false,Bool.or_false]
       rw [e] at h
       exact h⟩
      case measure=>simp [intOf];omega
    ·obtain rfl:j=cs.length:=by omega
     rw [List.take_of_length_le (by have:=HCL.out;omega)] at HR;have HSO:=lh (sorted_any (w.heap.size+1) (k+cs.length) (nmB fks (mtsE mtX (frE es)) (cl.map (·.1))) (hdL (nmB fks (mtsE mtX (frE es)) (cl.map (·.1)))) wr HR.out om (hdL_sorted _) (hdL_mem (nmB_hd (fun a ha=>by obtain ⟨p,hp,rfl⟩:=List.mem_map.1 ha;exact HHD.out p hp))));have HBw2:Hid (Below w.heap.size w wr):=HB3.out.trans (HBr.out.below HB3.out.size (fun i hi=>by subst hi;omega))
     go_wp2_with (first
      |(go_at_call 54;(with_reducible refine (keys_any _ _).mono ?_);rintro e w5 ⟨rfl,rfl⟩)
      |(go_at_call 53;(with_reducible refine HSO.out.mono ?_);rintro e w6 ⟨v,rfl,hv,hb6⟩;(have HV:=lh hv);(have HB6:=lh hb6);clear hv hb6))
     go_ret;exact ⟨v,rfl,World.ownsRow.mono HV.out HBw2.out.size,HBw2.out.trans (HB6.out.mono HBw2.out.size)⟩
