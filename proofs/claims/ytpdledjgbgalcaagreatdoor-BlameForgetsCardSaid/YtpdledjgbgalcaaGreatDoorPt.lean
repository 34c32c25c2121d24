/- judge.open. A slice literal of one great struct; a row of great structs. -/
import Derived.Test.YtpdledjgbgalcaaGreatDoorPs
import Derived.Test.YtpdledjgbgalcaaGreatDoorJ5
import Derived.Test.YtpdledjgbgalcaaGreatDoorPo
import Derived.Test.YtpdledjgbgalcaaGreatDoorPg
namespace Go.Proofs.YtpdledjgbgalcaaGreatDoor
set_option maxRecDepth 100000
set_option maxHeartbeats 8000000
open Go.RowKit Go.Lib
set_option linter.unusedVariables false
set_option linter.unusedSimpArgs false
def drB (drs:List ByteArray) (s:ByteArray):Bool:=drs.any fun y=>decide (y=s)
theorem drB_iff {drs:List ByteArray} {s:ByteArray}:drB drs s=true↔s∈drs:=by simp [drB]
theorem containsT_any (A:Option Addr) (n c B:Nat) (xs:List ByteArray) (s:ByteArray) (w:World) (hx:Sl fT w B A n xs) (hl:n≤9223372036854775807):
 Calls Tryz.prog 173 #[.slice A n c,.string s] w fun e w'=>e= .returned (.bool (drB xs s))∧w=w':=by
 obtain ⟨rfl,hx⟩:=hx
 by_cases h0:0 < xs.length
 ·obtain ⟨b,off,rfl,hb,hat⟩:=hx h0
  refine (Tryz.slices_Contains_string b off xs.length c xs s w nl hl (fun j hj=>?_)).mono ?_
  ·have h1:=hat j xs[j] (List.getElem?_eq_getElem hj)
   rw [List.getD_eq_getElem?_getD,List.getElem?_eq_getElem hj];exact h1
  ·rintro e w' ⟨rfl,rfl⟩
   refine ⟨?_,rfl⟩;rw [List.take_length]
   have:containsS xs s=drB xs s:=by
    rw [Bool.eq_iff_iff,containsS_iff,drB_iff]
   rw [this]
 ·obtain rfl:xs=[]:=List.eq_nil_of_length_eq_zero om
  refine (Tryz.slices_Contains_string_empty A c s w).mono ?_;rintro e w' ⟨rfl,rfl⟩;exact ⟨rfl,rfl⟩
theorem cjv {w:World} {g:Nat} {x:Vw} {A:Option Addr} {n c b1 b2:Nat} {t:TypeId} (h:w.heap[g]? =some (.cells (cJ x A n c b1 b2) t (0,0))):w.cell? ⟨g,0,none⟩=some (.slice x.E.a x.E.n x.E.c)∧w.cell? ⟨g,1,none⟩=some (.slice x.V.a x.V.n x.V.c)∧w.cell? ⟨g,2,none⟩=some (.slice x.P.a x.P.n x.P.c)∧w.cell? ⟨g,3,none⟩=some (.int .i64 x.b)∧w.cell? ⟨g,4,none⟩=some (.int .i64 x.h)∧w.cell? ⟨g,5,none⟩=some (.slice x.D.a x.D.n x.D.c)∧w.cell? ⟨g,6,none⟩=some (.slice x.F.a x.F.n x.F.c):=by
 refine ⟨?_,?_,?_,?_,?_,?_,?_⟩<;>(rw [cell_of_row w _ _ _ _ _ h];rfl)
def opB (drs:List ByteArray) (pl:List PcX) (R:Rcp) (cn:Bool):Bool:= !drB drs R.s&&(!(pl.any fun p=>aqB R p.st p.ix p.xs p.ys)&&cn)
theorem opB_dropped {drs:List ByteArray} {pl:List PcX} {R:Rcp} {cn:Bool} (h:drB drs R.s=true):opB drs pl R cn=false:=by simp [opB,h]
theorem opB_shown {drs:List ByteArray} {pl:List PcX} {R:Rcp} {cn:Bool} {k:Nat} {p:PcX} (h:pl[k]? =some p) (ha:aqB R p.st p.ix p.xs p.ys=true):opB drs pl R cn=false:=by
 have:pl.any (fun p=>aqB R p.st p.ix p.xs p.ys)=true:=List.any_eq_true.2 ⟨p,List.mem_of_getElem? h,ha⟩
 simp [opB,this]
theorem opB_rest {drs:List ByteArray} {pl:List PcX} {R:Rcp} {cn:Bool} (hd:drB drs R.s=false) (h:∀(k:Nat) (p:PcX),pl[k]? =some p→aqB R p.st p.ix p.xs p.ys=false):opB drs pl R cn=cn:=by
 have:pl.any (fun p=>aqB R p.st p.ix p.xs p.ys)=false:=by
  rw [List.any_eq_false];intro p hp;obtain ⟨k,hk⟩:=List.getElem?_of_mem hp;rw [h k p hk]
  decide
 simp [opB,this,hd]
theorem jopen_any (x:Vw) (es:List EnR) (vs:List VtR) (pubs drs:List ByteArray) (fks:List Int) (lab:Nat→Rl) (s k kS kM:Nat) (l:List EnR) (A:Option Addr) (n c:Nat) (mN mS mM:Lit→Value) (has:Int→Int→Bool) (pcs:Int→Int→Int→List PcX) (mts:Int→List (EnR × List Int)) (d q:Int) (R:Rcp) (st:ByteArray) (tx:Int) (no an:ByteArray) (ps qs rs:List ByteArray) (B:Nat) (w:World) (hG:Glob w)
 (hJ:JSt w lab s k kS kM x l A n c mN mS mM has pcs mts) (hV:VwIn w B x es vs pubs drs fks) (hR:RcIn w B R ps qs rs) (hB:B≤w.heap.size) (hvn:x.V.n≤1000∧x.P.n≤1000∧x.D.n≤1000) (hpa:R.pa.n≤R.pa.c) (hd:int64 d) (hq:int64 q) (hh:int64 R.hd) (hpc:∀p∈pcs d q R.hd,p.xs.length≤1000000∧p.ys.length≤1000000∧Byt p.xs) (hpl:(pcs d q R.hd).length≤1000000):
 Calls Tryz.prog 104 #[.pointer (some ⟨s+3,0,none⟩),.agg (cA d q R st tx no an)] w fun e w'=>e= .returned (.bool (opB drs (pcs d q R.hd) R (cnB pubs x.b x.h vs d q R st tx no an ps qs rs)))∧Below w.heap.size w w':=by
 obtain ⟨W1,hW1⟩:∃W1:World,W1=w.alloc (.cells (cA d q R st tx no an) 39):=⟨_,rfl⟩
 have hb1:Below w.heap.size w W1:=by rw [hW1];exact bl
 have hs1:W1.heap.size=w.heap.size+1:=by rw [hW1];simp
 have hga:W1.heap[w.heap.size]? =some (.cells (cA d q R st tx no an) 39 (0,0)):=by rw [hW1];exact heap_alloc_new w _
 have hJ1:=hJ.on hb1;have HC:Hid (∀V,Below W1.heap.size W1 V→V.heap[w.heap.size]? =some (.cells (cA d q R st tx no an) 39 (0,0))∧V.heap[s+3]? =some (.cells (cJ x A n c (s+1) (s+2)) 168 (0,0))):=fun V hb=>⟨(hb.block _ (lt_of_block hga)).trans hga,(hJ1.on hb).jd⟩
 have HX:Hid (∀V,Below W1.heap.size W1 V→VwIn V B x es vs pubs drs fks∧RcIn V B R ps qs rs∧Glob V∧B≤V.heap.size):=fun V hb=>by
  have h1:Below w.heap.size w V:=hb1.trans (hb.mono hb1.size);exact ⟨hV.up h1 hB,hR.up h1 hB,hG.on h1,Nat.le_trans hB h1.size⟩
 obtain ⟨cn,hcn⟩:∃b,cnB pubs x.b x.h vs d q R st tx no an ps qs rs=b:=⟨_,rfl⟩
 have HVD:Hid (∀V,Below W1.heap.size W1 V→Calls Tryz.prog 12 #[.agg (cVw x),.agg (cA d q R st tx no an)] V fun e w'=>e= .returned (.bool cn)∧Below V.heap.size V w'):=fun V hb=>by
  obtain ⟨h1,h2,h3,h4⟩:=HX.out V hb;rw [←hcn];exact bvalid_any x pubs vs d q R st tx no an ps qs rs B V h3 h1.V h1.P h2 h4 hvn.1 hvn.2.1 hpa
 have HCT:Hid (∀V,Below W1.heap.size W1 V→Calls Tryz.prog 173 #[.slice x.D.a x.D.n x.D.c,.string R.s] V fun e w'=>e= .returned (.bool (drB drs R.s))∧V=w'):=fun V hb=>containsT_any _ _ _ B _ _ V (HX.out V hb).1.D (by have:=hvn.2.2;omega)
 obtain ⟨prs,hp1,hp2,hp3,hp4⟩:=hJ1.shr d q R.hd hd hq hh;obtain ⟨PA,Pc0,hpv,hpc0,hps,_⟩:=OwnN.shape fPc_len hp2;have HPL:Hid ((pcs d q R.hd).length=prs.length):=by show _=_;rw [←hp1];simp
 have HPM:Hid (prs.length≤1000000):=by show _≤_;rw [←HPL.out];exact hpl
 have HPG:Hid (∀(j:Nat) (p:PcR),prs[j]? =some p→(pcs d q R.hd)[j]? =some p.x):=fun j p h=>by rw [←hp1,List.getElem?_map,h];rfl
 have HPQ:Hid (∀(j:Nat) (p:PcX),(pcs d q R.hd)[j]? =some p→∃r:PcR,prs[j]? =some r∧r.x=p):=fun j p h=>by
  rw [←hp1,List.getElem?_map] at h;obtain ⟨r,h1,h2⟩:=Option.map_eq_some_iff.1 h;exact ⟨r,h1,h2⟩
 have HLK:Hid (∀V,Below W1.heap.size W1 V→(Instr.lookup 165 (.map (some (s+1))) (pR d q R.hd) false).run Tryz.prog V= .ok (.slice PA prs.length Pc0) V):=fun V hb=>by
  rw [←hpv];exact (hJ1.on hb).shm.look (Maps.Keyed.of_law Rep.law) Tryz.underlying165 (Rep.zero V) (kR_of hd hq hh)
 have HAQ:Hid (∀V,Below W1.heap.size W1 V→∀p∈prs,Calls Tryz.prog 15 #[.agg (cA d q R st tx no an),.agg #[.string p.x.st,.int .i64 p.x.ix,.slice p.d.a p.d.n p.d.c,.slice p.q.a p.q.n p.q.c]] V fun e w'=>e= .returned (.bool (aqB R p.x.st p.x.ix p.x.xs p.x.ys))∧Below V.heap.size V w'):=fun V hb p hp=>by
  obtain ⟨h1,h2,h3,h4⟩:=HX.out V hb;obtain ⟨⟨g1,_⟩,⟨g2,_⟩,g3,g4⟩:=hp4 p hp;have g5:p.x∈pcs d q R.hd:=by rw [←hp1];exact List.mem_map_of_mem hp
  obtain ⟨g6,g7,g8⟩:=hpc _ g5;exact acquits_any d q R st tx no an p.x.st p.x.ix p.d.a p.q.a p.d.n p.d.c p.q.n p.q.c W1.heap.size p.x.xs p.x.ys V h3 g3 g4 (g1.up hb nl) (g2.up hb nl) hb.size (by have:=g1.1;omega) (by have:=g2.1;omega) g8
 have HPS:=lh hps;have HB1:=lh hb1;have HS1:=lh hs1;have HWE:=lh hW1;have HBz:Hid (Below W1.heap.size W1 W1):=Below.refl _ _;obtain ⟨z0,z1,z2,z3,z4,z5⟩:=ycm (HC.out W1 HBz.out).1;obtain ⟨v0,v1,v2,v3,v4,v5,v6⟩:=cjv (HC.out W1 HBz.out).2;have v8:=cj8 (HC.out W1 HBz.out).2;rw [hcn]
 generalize pcs d q R.hd=pl at*
 clear hG hJ hV hR hB hvn hpa hd hq hh hpc hpl hb1 hs1 hga hJ1 hcn hp1 hp2 hp3 hp4 hpv hpc0 hps hW1;rcases Bool.eq_false_or_eq_true (drB drs R.s) with hdr |hdr
 ·rw [hdr] at HCT
  have HOP:Hid (opB drs pl R cn=false):=opB_dropped hdr;clear hdr;go_enter Tryz.func104,Tryz.ntmps104
  go_upto_region 1 with fail
  rw [←HWE.out]
  go_quiet ((go_at_call 173;with_reducible exact Calls.quiet_of_same (same_of (HCT.out _ (ya0 HBz.out _)))))
  go_wp2_with fail
  go_ret;exact ⟨by rw [HOP.out];rfl,ya0 HB1.out _⟩
 ·rw [hdr] at HCT
  have HNB:Hid (∀(j:Nat) (p:PcR),j < 0→prs[j]? =some p→aqB R p.x.st p.x.ix p.x.xs p.x.ys=false):=fun j p hj=>absurd hj om
  have HDR:=lh hdr;clear hdr;go_enter Tryz.func104,Tryz.ntmps104
  go_upto_region 1 with fail
  rw [←HWE.out]
  go_quiet ((go_at_call 173;with_reducible exact Calls.quiet_of_same (same_of (HCT.out _ (ya0 HBz.out _)))))
  go_wp2_with fail
  generalize hW:World.drewN W1 _=W2;have HB2:Hid (Below W1.heap.size W1 W2):=by show Below ..;rw [←hW];exact ya0 HBz.out _
  clear z0 z1 z2 z3 z4 z5 v0 v1 v2 v3 v4 v5 v6 v8 hW;obtain ⟨z0,z1,z2,z3,z4,z5⟩:=ycm (HC.out W2 HB2.out).1;have v8:=cj8 (HC.out W2 HB2.out).2;have hlk:=fun a=>HLK.out (W2.drewN a) (ya0 HB2.out _)
  unfold pR at hlk
  go_quiet (fail)
  generalize hW:World.drewN W2 _=W3;have HB3:Hid (Below W1.heap.size W1 W3):=by show Below ..;rw [←hW];exact ya0 HB2.out _
  clear z0 z1 z2 z3 z4 z5 v8 hW hlk HB2 HLK HCT
  go_wp2_with fail
  go_loopw [32] (fun i wr=>∃k:Nat,k≤prs.length∧i= .int .i64 k∧Hid (∀(j:Nat) (p:PcR),j < k→prs[j]? =some p→aqB R p.x.st p.x.ix p.x.xs p.x.ys=false)∧Hid (Below W1.heap.size W1 wr)) (fun i _=>prs.length - (intOf i).toNat)
  case atStart=>exact ⟨0,Nat.zero_le _,rfl,HNB,HB3⟩
  case round=>
   clear HNB HB3;obtain ⟨k,hk,rfl,HNB,HBr⟩:=hrel;have hpm:=HPM.out
   by_cases hlt:k < prs.length
   ·
    obtain ⟨b,off,p,rfl,hbB,hp,hat⟩:=(HPS.out.up HBr.out nl).at_ hlt;have hkI:(k:Int) < (prs.length:Int):=by omega
    have x0:wr.cell? ⟨b,off+k*4,none⟩=some (.string p.x.st):=by rw [show off+k*4=off+(k*4+0) by omega];exact hat 0 _ rfl
    have x1:wr.cell? ⟨b,off+k*4+1,none⟩=some (.int .i64 p.x.ix):=by rw [show off+k*4+1=off+(k*4+1) by omega];exact hat 1 _ rfl
    have x2:wr.cell? ⟨b,off+k*4+2,none⟩=some (.slice p.d.a p.d.n p.d.c):=by rw [show off+k*4+2=off+(k*4+2) by omega];exact hat 2 _ rfl
    have x3:wr.cell? ⟨b,off+k*4+3,none⟩=some (.slice p.q.a p.q.n p.q.c):=by rw [show off+k*4+3=off+(k*4+3) by omega];exact hat 3 _ rfl
    have HP:=lh hp;have HAQ1:=lh (fun V hb=>HAQ.out V hb p (List.mem_of_getElem? hp));clear hat hp
    go_upto_region 6 with fail
    obtain ⟨W4,hW⟩:∃W4:World,W4=wr.alloc (.cells #[.string p.x.st,.int .i64 p.x.ix,.slice p.d.a p.d.n p.d.c,.slice p.q.a p.q.n p.q.c] 42):=⟨_,rfl⟩
    have hg4:W4.heap[wr.heap.size]? =some (.cells #[.string p.x.st,.int .i64 p.x.ix,.slice p.d.a p.d.n p.d.c,.slice p.q.a p.q.n p.q.c] 42 (0,0)):=by rw [hW];exact heap_alloc_new wr _
    have HB4:Hid (Below W1.heap.size W1 W4):=by show Below ..;rw [hW];exact HBr.out.alloc HBr.out.size _
    rw [←hW];obtain ⟨q0,q1,q2,q3⟩:=c4rows hg4;have HR4:=lh (rangeA (HC.out W4 HB4.out).1);obtain ⟨ab,hab⟩:∃t,aqB R p.x.st p.x.ix p.x.xs p.x.ys=t:=⟨_,rfl⟩
    rw [hab] at HAQ1;have HAB:=lh hab;clear hW hg4 x0 x1 x2 x3 hab HAQ
    cases ab with
    |true=>
     have HOP:Hid (opB drs pl R cn=false):=opB_shown (HPG.out _ _ HP.out) HAB.out
     go_wp2_with (first |(with_reducible refine wpList_load_mid rfl 39 (.tmp 3) rfl w.heap.size 0 rfl (cA d q R st tx no an).toList _ HR4.out Tryz.underlying39 rfl (sizeAL d q R st tx no an) ?_) |(go_at_call 15;(with_reducible refine (HAQ1.out _ HB4.out).mono ?_);rintro e W5 ⟨rfl,hb5⟩;(have HB5:Hid (Below W1.heap.size W1 W5):=HB4.out.trans (Below.mono hb5 HB4.out.size));clear hb5))
     go_ret;exact ⟨by rw [HOP.out];rfl,HB1.out.trans (HB5.out.mono HB1.out.size)⟩
    |false=>
     go_wp2_with (first |(with_reducible refine wpList_load_mid rfl 39 (.tmp 3) rfl w.heap.size 0 rfl (cA d q R st tx no an).toList _ HR4.out Tryz.underlying39 rfl (sizeAL d q R st tx no an) ?_) |(go_at_call 15;(with_reducible refine (HAQ1.out _ HB4.out).mono ?_);rintro e W5 ⟨rfl,hb5⟩;(have HB5:Hid (Below W1.heap.size W1 W5):=HB4.out.trans (Below.mono hb5 HB4.out.size));clear hb5))
     go_roundw
     case rel=>exact ⟨k+1,by omega,by go_num,fun j r hj hr=>by
      by_cases h:j < k
      ·exact HNB.out j r h hr
      ·obtain rfl:j=k:=by omega
       rw [HP.out] at hr;injection hr with hr
       rw [←hr];exact HAB.out,HB5.out⟩
     case measure=>simp [intOf];omega
   ·
    obtain rfl:k=prs.length:=by omega
    have HBx:=HBr
    have HOP:Hid (opB drs pl R cn=cn):=opB_rest HDR.out (fun j p h=>by
     obtain ⟨r,h1,h2⟩:=HPQ.out j p h;rw [←h2]
     exact HNB.out j r (List.getElem?_eq_some_iff.1 h1).1 h1)
    clear HAQ HPS HPG HPQ HNB
    go_upto_region 9 with fail
    refine wp_region_held_drew (S:=(fun w'=>w'.heap[w.heap.size]? =some (.cells (cA d q R st tx no an) 39 (0,0))∧w'.heap[s+3]? =some (.cells (cJ x A n c (s+1) (s+2)) 168 (0,0)))) yaV (by exact HC.out _ yau) (fun hHeld=>?_);refine tkY 0 ?_;refine tkY 1 ?_;refine tkY 2 ?_;refine tkH (i:=3) (v:=?o4v) (y:=(Or.inl ⟨by rfl,?o4y⟩)) (h:=?o4r)
    case o4y=>(intro w hSw;(try dsimp only at hSw);obtain ⟨v0,v1,v2,v3,v4,v5,v6⟩:=cjv hSw.2;go_simp;try (with_reducible rfl))
    try simp only [pt]
    refine tkH (i:=4) (v:=_) (y:=(yieldsIf_load_mid (by rfl) 39 (.tmp 3) rfl w.heap.size 0 (by rfl) (cA d q R st tx no an).toList _ (fun _ h=>rangeA h.1) Tryz.underlying39 rfl (sizeAL d q R st tx no an))) (h:=?_)
    try simp only [pt]
    refine rd1 5 (fun K hK=>?_)
    (go_simp;go_at_call 12;(with_reducible refine (HVD.out _ yau).mono ?_);rintro e w9 ⟨rfl,hb9⟩;(have HBy:Hid (Below W1.heap.size W1 w9):=Below.trans yau (Below.mono hb9 (by have:=HBx.out.size;exact this)));clear hb9;go_wp2_with fail)
    refine hK.out _ _ (by first |exact HC.out _ HBy.out |exact HC.out _ yau) (fun hHeldo6=>?_);clear hK K hHeld
    try simp only [pt]
    refine tkY 6 ?_;refine wpAnyH_done yaV ?_ _
    go_wp2_with fail
    go_ret;exact ⟨by rw [HOP.out];rfl,by first |exact HB1.out.trans (HBy.out.mono HB1.out.size) |exact (HB1.out.trans (HBy.out.mono HB1.out.size)).drew⟩
theorem foldl_set:∀(l:List Value) (k:Nat) (cs:Array Value),k+l.length≤cs.size→
 (((l.zipIdx k).foldl (fun cs (p:Value × Nat)=>cs.setIfInBounds (0+p.2) p.1) cs).size=cs.size∧∀i,((l.zipIdx k).foldl (fun cs (p:Value × Nat)=>cs.setIfInBounds (0+p.2) p.1) cs)[i]? =if k≤i∧i < k+l.length then l[i - k]? else cs[i]?)
 | [],k,cs,_=>by
   refine ⟨rfl,fun i=>?_⟩;rw [if_neg (by simp only [List.length_nil];omega)]
   rfl
 |v::l,k,cs,h=>by
  simp only [List.length_cons] at h;obtain ⟨h1,h2⟩:=foldl_set l (k+1) (cs.setIfInBounds (0+k) v) yaW;rw [List.zipIdx_cons,List.foldl_cons];refine ⟨by rw [h1];simp,fun i=>?_⟩;rw [h2 i]
  by_cases hi:i=k
  ·subst hi
   rw [if_neg om,if_pos sI,Nat.zero_add,Nat.sub_self,Array.getElem?_setIfInBounds,if_pos rfl,if_pos om]
   rfl
  ·by_cases h3:k+1≤i∧i < k+1+l.length
   ·rw [if_pos h3,if_pos yaW]
    have:i - k=(i - (k+1))+1:=by omega
    rw [this,List.getElem?_cons_succ]
   ·rw [if_neg h3,if_neg yaW,Nat.zero_add,Array.getElem?_setIfInBounds_ne om]
theorem foldl_all (cs base:Array Value) (h:cs.size=base.size):cs.zipIdx.foldl (fun a (p:Value × Nat)=>a.setIfInBounds (0+p.2) p.1) base=cs:=by
 obtain ⟨l⟩:=cs;have h':l.length=base.size:=h;rw [←Array.foldl_toList,Array.toList_zipIdx];obtain ⟨h1,h2⟩:=foldl_set l 0 base om;apply Array.ext_getElem?;intro i;rw [h2 i]
 by_cases hi:i < l.length
 ·rw [if_pos ⟨Nat.zero_le _,by omega⟩];simp
 ·rw [if_neg om,Array.getElem?_eq_none om,Array.getElem?_eq_none (by simpa using hi)]
theorem yb1 {P:Program} {t e:TypeId} {i:TypeInfo} {z:Value} {s:Nat} (ht:P.underlying t=some (.slice e)) (hi:P.info? e=some i) (hz:i.zero=some z) (hs:i.size=s) (hzs:z.cells.size=s) (h0:0 < s) (h24:s≤16777216) (v:Value) (hv:v.cells.size=s) (w:World):
 (Instr.buildSlice t 1 #[(0,v)]).run P w= .ok (.slice (some ⟨w.heap.size,0,none⟩) 1 1) (w.alloc (.cells v.cells e)):=by
 have h1:¬16777216 < s:=by omega
 have h2:¬s=0:=by omega
 have hf:Instr.fill (fun i=>some (i*s,s)) ((Array.range (1*s)).map (z.cells[· % z.cells.size]!)) [(0,v)]=some v.cells:=by
  unfold Instr.fill;simp only [Nat.zero_mul,hv,ne_eq,not_true_eq_false,decide_false,Bool.false_or,Nat.zero_add,Array.size_map,Array.size_range,Nat.one_mul,Nat.lt_irrefl,gt_iff_lt]
  have:=foldl_all v.cells ((Array.range s).map (z.cells[· % z.cells.size]!)) (by simp [hv])
  simp only [Nat.zero_add] at this;unfold Instr.fill;exact congrArg some this
 simp only [Nat.one_mul] at hf;simp [Instr.buildSlice,run_underlying ht,sizeOf,typeInfo,zeroValue,hi,hz,hs,h1,h2,hf,newRow]
theorem ybc {P:Program} {ops:Array Oper} {rest:List Oper} {op:Oper} {a:Act} {w:World} {Q:Exit→Act→World→Prop} (hw:Region.wanted op (yielded ops a.tmps)=true) (ty:TypeId) (x:Operand) (ho:op.op= .load ty x)
 (b o:Nat) (hx:a.eval x= .pointer (some ⟨b,o,none⟩)) (cs:List Value) (d:TypeDesc) (hc:w.rangeAt b o cs)
 (hu:P.underlying ty=some d) (hd:d.isRow=true) (hi:(P.info? ty).map (·.size)=some cs.length)
 (h:wpList P ops Q rest (a.put op.dst (.agg cs.toArray)) w):wpList P ops Q (op::rest) a w:=
 BigFrame.wpList_want hw fun _ hK=>wp_load_mid ty x ho b o hx cs d hc hu hd hi (hK _ _ h)
theorem ybf {P:Program} {ops:Array Oper} {rest:List Oper} {o:Oper} {a:Act} {w:World} {Q:Exit→Act→World→Prop} (hgd:o.guard=none) (t:TypeId) (x:Operand) (ho:o.op= .buildSlice t 1 #[(0,x)])
 (e:TypeId) (i:TypeInfo) (z:Value) (s:Nat) (ht:P.underlying t=some (.slice e)) (hi:P.info? e=some i) (hz:i.zero=some z) (hs:i.size=s) (hzs:z.cells.size=s) (h0:0 < s) (h24:s≤16777216) (cs:Array Value) (hx:a.eval x= .agg cs) (hv:cs.size=s)
 (h:wpList P ops Q rest (a.put o.dst (.slice (some ⟨w.heap.size,0,none⟩) 1 1)) (w.alloc (.cells cs e))):wpList P ops Q (o::rest) a w:=by
 refine wpList_plain hgd fun K hK=>?_
 have hrun:=yb1 ht hi hz hs hzs h0 h24 (.agg cs) hv w;unfold Oper.wp;simp [execOp,ho,hx,hrun,Result.andThen];exact hK _ _ h
structure AcR where
 a:Ac
 pa:Hd
 pb:Hd
 pc:Hd
abbrev AcR.R (r:AcR):Rcp:=rHd r.a.R r.pa r.pb r.pc
abbrev cAr (r:AcR):Array Value:=cA r.a.d r.a.q r.R r.a.st r.a.ix r.a.no r.a.an
abbrev fAr (r:AcR):List Value:=(cAr r).toList
theorem fAr_len:∀r,(fAr r).length=20:=fun _=>rfl
theorem fAr_one (r:AcR):∀u∈fAr r,u.oneCell'=true:=fun u hu=>by
 simp only [fAr,cAr,cA,List.mem_cons,List.not_mem_nil,or_false] at hu;rcases hu with rfl |rfl |rfl |rfl |rfl |rfl |rfl |rfl |rfl |rfl |rfl |rfl |rfl |rfl |rfl |rfl |rfl |rfl |rfl |rfl<;>rfl
def ArO (w:World) (base:Nat) (r:AcR):Prop:=RcO w base r.R r.a.ps r.a.qs r.a.rs
theorem ArO.rcIn {w:World} {base:Nat} {r:AcR} (h:ArO w base r):RcIn w w.heap.size r.R r.a.ps r.a.qs r.a.rs∧r.R.pa.n≤r.R.pa.c:=by
 refine ⟨RcO.rcIn h,?_⟩;obtain ⟨A,c,h5,h6,_⟩:=h.1.shape;injection h5 with h7 h8 h9
 show r.pa.n≤r.pa.c
 have h10:r.pa.n=r.a.ps.length:=h8;have h11:r.pa.c=c:=h9;omega
theorem ArO.on {w w':World} {base:Nat} {r:AcR} (h:ArO w base r) (hb:Below w.heap.size w w'):ArO w' base r:=RcO.on h hb
theorem ycc {α β:Type} {f:α→Value} {f':β→List Value} {s:Nat} {w:World} {base base':Nat} {e e':TypeId} {v v':Value} {xs:List α} {ys:List β} (h:Own f e w base v xs) (h':OwnN f' s e' w base' v' ys) (hne:e≠e'):v.ownBlock=none∨v.ownBlock≠v'.ownBlock:=by
 rcases h.2 with ⟨rfl,h0⟩ |⟨g,cap,cur,rfl,h1,hg,h2⟩
 ·exact .inl rfl
 ·right
  rcases h'.2 with ⟨rfl,h0⟩ |⟨g',cap',cur',rfl,h1',hg',h2'⟩
  ·intro e;cases e
  ·intro e
   have e1:g=g':=by injection e
   subst e1;rw [hg] at hg';injection hg' with hg';injection hg' with _ ht _;exact hne ht
theorem ArO.grown {α:Type} {f:α→List Value} {s:Nat} {t:TypeId} {w w':World} {base base':Nat} {v:Value} {xs:List α} {r:AcR} (h:ArO w base r) (ho:OwnN f s t w base' v xs) (hg:w.grownBy w' v.ownBlock) (hne:9≠t):ArO w' base r:=
 ⟨World.ownsRow.kept h.1 hg (ycc h.1 ho hne),World.ownsRow.kept h.2.1 hg (ycc h.2.1 ho hne),World.ownsRow.kept h.2.2 hg (ycc h.2.2 ho hne)⟩
structure CgR where
 r:AcR
 e:EnR
abbrev fCg (c:CgR):List Value:=fAr c.r++fEn c.e
theorem fCg_len:∀c,(fCg c).length=26:=fun _=>rfl
theorem fCg_one (c:CgR):∀u∈fCg c,u.oneCell'=true:=fun u hu=>by
 rcases List.mem_append.1 hu with h |h
 ·exact fAr_one _ u h
 ·exact ydl _ u h
theorem Tryz.infoCg:(Tryz.prog.info? 109).map (fun i=>(i.zero.map (·.cells.size),i.size,i.bytes))=some (some 26,26,320):=by kernel_rfl
theorem Tryz.infoAr:(Tryz.prog.info? 39).map (fun i=>(i.zero.map (·.cells.size),i.size,i.bytes))=some (some 20,20,248):=by kernel_rfl
theorem ybt {P:Program} {e:TypeId} {n s b:Nat} (h:(P.info? e).map (fun i=>(i.zero.map (·.cells.size),i.size,i.bytes))=some (some n,s,b)):∃i z,P.info? e=some i∧i.zero=some z∧i.size=s∧i.bytes=b∧z.cells.size=n:=by
 obtain ⟨i,h1,h2⟩:=Option.map_eq_some_iff.1 h;injection h2 with h3 h4;injection h4 with h5 h6;obtain ⟨z,h7,h8⟩:=Option.map_eq_some_iff.1 h3;exact ⟨i,z,h1,h7,h5,h6,h8⟩
