/- The reference's Verify of a piece. Acquits, both. Lists of integers of any length; vaults in memory. -/
import Derived.Test.YtpdledjgbgalcaaGreatDoorU6
import Derived.Test.YtpdledjgbgalcaaGreatDoorS4
import Derived.Test.YtpdledjgbgalcaaGreatDoorNK
namespace Go.Proofs.YtpdledjgbgalcaaGreatDoor
set_option maxRecDepth 100000
set_option maxHeartbeats 16000000
open Go.RowKit Go.Lib
set_option linter.unusedVariables false
set_option linter.unusedSimpArgs false
abbrev cPi (s:ByteArray) (ix:Int) (A:Option Addr) (n c:Nat) (A':Option Addr) (m c':Nat):Array Value:=#[.string s,.int .i64 ix,.slice A n c,.slice A' m c']
def aqB (R:Rcp) (s:ByteArray) (ix:Int) (xs:List Int) (ys:List ByteArray):Bool:=decide (s=R.s)&&(decide (ix=R.ix)&&(decide ((xs.length:Int)=R.sz)&&vrB s ix xs ys))
theorem acquits_any (d q:Int) (R:Rcp) (st:ByteArray) (tx:Int) (no an:ByteArray) (s:ByteArray) (ix:Int) (A A':Option Addr) (n c m c' B:Nat) (xs:List Int) (ys:List ByteArray) (w:World) (hG:Glob w) (hc:n≤c) (hc':m≤c') (hx:Sl fB w B A n xs) (hy:Sl fT w B A' m ys) (hB:B≤w.heap.size) (hn:n≤1000000) (hm:m≤1000000) (hxb:Byt xs):
 Calls Tryz.prog 15 #[.agg (cA d q R st tx no an),.agg (cPi s ix A n c A' m c')] w fun e w'=>e= .returned (.bool (aqB R s ix xs ys))∧Below w.heap.size w w':=by
 have HF:Hid (aqB R s ix xs ys=(decide (s=R.s)&&(decide (ix=R.ix)&&(decide ((xs.length:Int)=R.sz)&&vrB s ix xs ys)))):=rfl
 have hxl:xs.length=n:=hx.1
 have hb1:Below w.heap.size w ((w.alloc (.cells (cA d q R st tx no an) 39)).alloc (.cells (cPi s ix A n c A' m c') 42)):=((Below.refl _ _).alloc (Nat.le_refl _) _).alloc (by simp) _
 have HV:Hid (∀V,Below w.heap.size w V→Calls Tryz.prog 48 #[.agg (cPi s ix A n c A' m c')] V fun e w'=>e= .returned (.bool (vrB s ix xs ys))∧Below V.heap.size V w'):=fun V hb=>sverify_any s ix A A' n c m c' B xs ys V (hG.on hb) hc hc' (hx.up hb hB) (hy.up hb hB) (Nat.le_trans hB hb.size) hn hm hxb
 have HB1:=Lib.hid hb1
 have HC:=Lib.hid (HV.out _ hb1)
 rw [hxl] at HF
 obtain ⟨vb,hvb⟩:∃v,vrB s ix xs ys=v:=⟨_,rfl⟩
 rw [hvb] at HC HF
 clear HV hx hy hxb hxl hvb hb1 hG
 obtain ⟨hd,vt,rst,rix,sz,dy,sr,ct,pl,rt,pa,si,pb,pc⟩:=R
 dsimp only at HF HC HB1 ⊢
 by_cases h1:s=rst
 ·subst h1
  rw [decide_eq_true rfl,Bool.true_and] at HF
  by_cases h2:ix=rix
  ·subst h2
   rw [decide_eq_true rfl,Bool.true_and] at HF
   by_cases h3:(n:Int)=sz
   ·subst h3
    rw [decide_eq_true rfl,Bool.true_and] at HF
    go_enter Tryz.func15,Tryz.ntmps15
    go_wp2_with (go_at_call 48;(with_reducible refine HC.out.mono ?_);rintro e w1 ⟨rfl,hb2⟩;(have HB2:=Lib.hid hb2);clear hb2)
    go_ret
    exact ⟨by rw [HF.out];rfl,HB1.out.trans (HB2.out.mono (by simp;omega))⟩
   ·rw [decide_eq_false h3,Bool.false_and] at HF
    have h3I:((n:Int)==sz)=false:=by simp [h3]
    go_enter Tryz.func15,Tryz.ntmps15
    go_wp2
    go_ret
    exact ⟨by rw [HF.out];rfl,HB1.out⟩
  ·rw [decide_eq_false h2,Bool.false_and] at HF
   have h2I:(ix==rix)=false:=by simp [h2]
   go_enter Tryz.func15,Tryz.ntmps15
   go_wp2
   go_ret
   exact ⟨by rw [HF.out];rfl,HB1.out⟩
 ·rw [decide_eq_false h1,Bool.false_and] at HF
  have h1t:¬s.toList=rst.toList:=fun h=>h1 (by have:=beqD s rst;rw [decide_eq_false h1] at this;simp [h] at this)
  have h1I:(s.toList==rst.toList)=false:=by rw [←beqD,decide_eq_false h1]
  have h1D:decide (s.toList=rst.toList)=false:=by simp [h1t]
  go_enter Tryz.func15,Tryz.ntmps15
  go_wp2
  go_ret
  exact ⟨by rw [HF.out];rfl,HB1.out⟩
theorem indexJ_any (A:Option Addr) (n c B:Nat) (xs:List Int) (h:Int) (w:World) (hx:Sl I w B A n xs) (hl:n≤9223372036854775807):
 Calls Tryz.prog 86 #[.slice A n c,.int .i64 h] w fun e w'=>∃z:Int,e= .returned (.int .i64 z)∧(decide (0≤z)=xs.contains h)∧w=w':=by
 have HX:=Lib.hid hx
 have HXN:Hid (xs.length=n):=hx.1
 clear hx
 go_enter Tryz.func86,Tryz.ntmps86
 go_wp2
 go_loopw [8] (fun i wr=>IdxP h xs w i wr) (fun i _=>n - (intOf i).toNat)
 case atStart=>exact ⟨0,by omega,rfl,by show h∉xs.take 0;simp,rfl⟩
 case round=>
  obtain ⟨k,hk,rfl,HN,rfl⟩:=hrel
  rw [HXN.out] at hk
  by_cases hlt:k < n
  ·obtain ⟨b,off,x,rfl,_,hg,hc⟩:=HX.out.2.at_ (k:=k) (by rw [HXN.out];exact hlt)
   have hkI:(k:Int) < (n:Int):=by omega
   by_cases hxe:h=x
   ·subst hxe
    have HIn:Hid (xs.contains h=true):=by
     show _=_
     simp only [List.contains_iff_mem]
     exact List.mem_of_getElem? hg
    clear hg
    go_wp2
    go_ret
    exact ⟨_,rfl,by rw [HIn.out];simp,rfl⟩
   ·have HG:=Lib.hid hg
    have HNE:=Lib.hid hxe
    clear hg
    go_wp2
    refine ⟨?rel,?measure⟩
    case rel=>exact ⟨k+1,by rw [HXN.out];omega,by go_num,notin_snoc HG.out HN.out HNE.out,rfl⟩
    case measure=>simp [intOf];omega
  ·obtain rfl:k=n:=by omega
   go_wp2
   go_ret
   refine ⟨-1,rfl,?_,rfl⟩
   have h1:=HN.out
   rw [List.take_of_length_le (by rw [HXN.out];exact Nat.le_refl _)] at h1
   have h2:xs.contains h=false:=by
    cases hc:xs.contains h
    ·rfl
    ·rw [List.contains_iff_mem] at hc;exact absurd hc h1
   rw [h2];rfl
theorem containsJ_any (A:Option Addr) (n c B:Nat) (xs:List Int) (h:Int) (w:World) (hx:Sl I w B A n xs) (hl:n≤9223372036854775807):
 Calls Tryz.prog 41 #[.slice A n c,.int .i64 h] w fun e w'=>e= .returned (.bool (xs.contains h))∧w=w':=by
 have HC:=Lib.hid (indexJ_any A n c B xs h w hx hl)
 clear hx
 go_enter Tryz.func41,Tryz.ntmps41
 go_wp2_with (first
  |(go_at_call 86;(with_reducible refine HC.out.mono ?_);rintro e w1 ⟨z,rfl,hz,rfl⟩;(have HZ:=Lib.hid hz);clear hz))
 go_ret
 exact ⟨ret_bool HZ.out,rfl⟩
theorem inJ_any (A:Option Addr) (n c B:Nat) (xs:List Int) (h:Int) (w:World) (hx:Sl I w B A n xs) (hl:n≤9223372036854775807):
 Calls Tryz.prog 20 #[.slice A n c,.int .i64 h] w fun e w'=>e= .returned (.bool (xs.contains h))∧w=w':=by
 have HX:=Lib.hid hx
 have HXN:Hid (xs.length=n):=hx.1
 clear hx
 go_enter Tryz.func20,Tryz.ntmps20
 go_wp2
 go_loopw [5] (fun i wr=>IdxP h xs w i wr) (fun i _=>n - (intOf i).toNat)
 case atStart=>exact ⟨0,by omega,rfl,by show h∉xs.take 0;simp,rfl⟩
 case round=>
  obtain ⟨k,hk,rfl,HN,rfl⟩:=hrel
  rw [HXN.out] at hk
  by_cases hlt:k < n
  ·obtain ⟨b,off,x,rfl,_,hg,hc⟩:=HX.out.2.at_ (k:=k) (by rw [HXN.out];exact hlt)
   have hkI:(k:Int) < (n:Int):=by omega
   by_cases hxe:x=h
   ·subst hxe
    have HIn:Hid (xs.contains x=true):=by
     show _=_
     simp only [List.contains_iff_mem]
     exact List.mem_of_getElem? hg
    clear hg
    go_wp2
    go_ret
    exact ⟨by rw [HIn.out];rfl,rfl⟩
   ·have HG:=Lib.hid hg
    have HNE:=Lib.hid hxe
    clear hg
    go_wp2
    refine ⟨?rel,?measure⟩
    case rel=>exact ⟨k+1,by rw [HXN.out];omega,by go_num,notin_snoc HG.out HN.out (fun e=>HNE.out e.symm),rfl⟩
    case measure=>simp [intOf];omega
  ·obtain rfl:k=n:=by omega
   go_wp2
   go_ret
   have h1:=HN.out
   rw [List.take_of_length_le (by rw [HXN.out];exact Nat.le_refl _)] at h1
   have h2:xs.contains h=false:=by
    cases hc:xs.contains h
    ·rfl
    ·rw [List.contains_iff_mem] at hc;exact absurd hc h1
   exact ⟨by rw [h2];rfl,rfl⟩
structure VtR where
 num:Int
 wr:Hd
 dt:Int
 tt:Int
 th:Int
 pr:ByteArray
 c0:Int
 c1:Int
 c2:Int
 c3:Int
 c4:Int
 r0:Int
 r1:Int
 r2:Int
 r3:Int
 xs:List Int
abbrev fVt (v:VtR):List Value:=[.int .i64 v.num,.slice v.wr.a v.wr.n v.wr.c,.int .i64 v.dt,.int .i64 v.tt,.int .i64 v.th,.string v.pr,.int .i64 v.c0,.int .i64 v.c1,.int .i64 v.c2,.int .i64 v.c3,.int .u64 v.c4,.int .i64 v.r0,.int .i64 v.r1,.int .i64 v.r2,.int .i64 v.r3]
theorem fVt_len:∀v,(fVt v).length=15:=fun _=>rfl
def VtIn (w:World) (B:Nat) (A:Option Addr) (n:Nat) (vs:List VtR):Prop:=SlN fVt 15 w B A n vs∧∀v∈vs,Sl I w B v.wr.a v.wr.n v.xs∧v.wr.n≤9223372036854775807
theorem VtIn.up {w w':World} {B B' n:Nat} {A:Option Addr} {vs:List VtR} (h:VtIn w B A n vs) (hb:Below B' w w') (hB:B≤B'):VtIn w' B A n vs:=⟨h.1.up hb hB,fun v hv=>⟨(h.2 v hv).1.up hb hB,(h.2 v hv).2⟩⟩
theorem Tryz.sizeVt:(Tryz.prog.info? 99).map (·.size)=some 15:=by kernel_rfl
theorem sizeVtL (v:VtR):(Tryz.prog.info? 99).map (·.size)=some (fVt v).length:=Tryz.sizeVt
def fiV (vt:Int):List VtR→Option VtR
 | []=>none
 |v::t=>if v.num=vt then some v else fiV vt t
theorem fiV_skip {vt:Int}:∀ {vs:List VtR} {k:Nat} {v:VtR},vs[k]? =some v→(∀(j:Nat) (u:VtR),j < k→vs[j]? =some u→u.num≠vt)→fiV vt vs=fiV vt (vs.drop k)
 | [],k,v,h,_=>by simp at h
 |u::t,0,v,h,_=>rfl
 |u::t,k+1,v,h,hn=>by
  have h0:=hn 0 u (by omega) rfl
  rw [fiV,if_neg h0,List.drop_succ_cons]
  exact fiV_skip (vs:=t) (k:=k) (v:=v) (by simpa using h) (fun j y hj hy=>hn (j+1) y (by omega) (by simpa using hy))
theorem fiV_at {vt:Int} {vs:List VtR} {k:Nat} {v:VtR} (h:vs[k]? =some v) (hv:v.num=vt) (hn:∀(j:Nat) (u:VtR),j < k→vs[j]? =some u→u.num≠vt):fiV vt vs=some v:=by
 rw [fiV_skip h hn]
 have hk:=(List.getElem?_eq_some_iff.1 h)
 rw [List.drop_eq_getElem_cons hk.1,hk.2,fiV,if_pos hv]
theorem fiV_none {vt:Int}:∀ {vs:List VtR},(∀(j:Nat) (u:VtR),vs[j]? =some u→u.num≠vt)→fiV vt vs=none
 | [],_=>rfl
 |u::t,hn=>by
  rw [fiV,if_neg (hn 0 u rfl)]
  exact fiV_none (vs:=t) (fun j y hy=>hn (j+1) y (by simpa using hy))
theorem vcl_any (v:VtR) (g:Nat) (vt:Int) (w:World) (hg:∀V,Below w.heap.size w V→V.cell? ⟨g,3,none⟩=some (.int .i64 vt)):
 Calls Tryz.prog 40 #[.agg (fVt v).toArray,.pointer (some ⟨g,0,none⟩)] w fun e w'=>e= .returned (.bool (decide (v.num=vt)))∧Below w.heap.size w w':=by
 have hb:Below w.heap.size w (w.alloc (.cells (fVt v).toArray 99)):=(Below.refl _ _).alloc (Nat.le_refl _) _
 have k3:=hg _ hb
 have HB:=Lib.hid hb
 have HE:Hid (decide (v.num=vt)=(v.num==vt)):=by show _=_;by_cases h:v.num=vt<;>simp [h]
 rw [HE.out]
 obtain ⟨num,wr,dt,tt,th,pr,c0,c1,c2,c3,c4,r0,r1,r2,r3,xs⟩:=v
 dsimp only at HE HB k3 ⊢
 clear hg hb
 go_enter Tryz.func40,Tryz.ntmps40
 go_wp2
 go_ret
 exact ⟨rfl,HB.out⟩
def FiP (vt:Int) (vs:List VtR) (w:World) (e:Ending) (w':World):Prop:=
 ∃z:Int,e= .returned (.int .i64 z)∧((∃(k:Nat) (v:VtR),z=(k:Int)∧vs[k]? =some v∧fiV vt vs=some v)∨(z= -1∧fiV vt vs=none))∧Below w.heap.size w w'
theorem indexV_any (A:Option Addr) (n c B:Nat) (vs:List VtR) (g:Nat) (vt:Int) (w:World) (hx:SlN fVt 15 w B A n vs) (hB:B≤w.heap.size) (hn:n≤1000000) (hg:∀V,Below w.heap.size w V→V.cell? ⟨g,3,none⟩=some (.int .i64 vt)):
 Calls Tryz.prog 39 #[.slice A n c,.func (.func 40) #[] #[.pointer (some ⟨g,0,none⟩)]] w (FiP vt vs w):=by
 have HX:Hid (∀V,Below w.heap.size w V→SlN fVt 15 V B A n vs):=fun V hb=>hx.up hb hB
 have HXN:Hid (vs.length=n):=hx.1
 have HC:Hid (∀v V,Below w.heap.size w V→Calls Tryz.prog 40 #[.agg (fVt v).toArray,.pointer (some ⟨g,0,none⟩)] V fun e w'=>e= .returned (.bool (decide (v.num=vt)))∧Below V.heap.size V w'):=fun v V hb=>vcl_any v g vt V (fun V2 h2=>hg V2 (hb.trans (h2.mono hb.size)))
 have HB0:Hid (Below w.heap.size w w):=Below.refl _ _
 clear hx hg
 go_enter Tryz.func39,Tryz.ntmps39
 go_wp2
 go_loopw [8] (fun i wr=>∃k:Nat,k≤n∧i= .int .i64 k∧Hid (∀(j:Nat) (u:VtR),j < k→vs[j]? =some u→u.num≠vt)∧Hid (Below w.heap.size w wr)) (fun i _=>n - (intOf i).toNat)
 case atStart=>exact ⟨0,by omega,rfl,fun j u hj=>absurd hj (by omega),HB0⟩
 case round=>
  clear HB0
  obtain ⟨k,hk,rfl,HK,HBr⟩:=hrel
  by_cases hlt:k < n
  ·obtain ⟨b1,o1,v,hA,_,hgv,hcv⟩:=(HX.out wr HBr.out).at_ (k:=k) hlt
   subst hA
   have hkI:(k:Int) < (n:Int):=by omega
   have hk0:(0:Int)≤(k:Int):=by omega
   have HRG:Hid (wr.rangeAt b1 (o1+k*15) (fVt v)):=fun j u hj=>by
    have:=hcv j u hj
    rw [←Nat.add_assoc] at this
    exact this
   have HCV:=Lib.hid (HC.out v wr HBr.out)
   clear hcv
   by_cases hv:v.num=vt
   ·rw [decide_eq_true hv] at HCV
    have HF:Hid (fiV vt vs=some v):=fiV_at hgv hv HK.out
    have HGV:=Lib.hid hgv
    clear hv hgv
    go_wp2_with (first
     |(with_reducible refine wpList_load_mid (op:=⟨some 15,_,_,_,_,_⟩) rfl 99 (.tmp 14) rfl b1 (o1+k*15) rfl (fVt v) _ HRG.out Tryz.underlying99 rfl (sizeVtL v) ?_)
     |(go_at_call 40;(with_reducible refine HCV.out.mono ?_);rintro e w1 ⟨rfl,hb1⟩;(have HB1:=Lib.hid (HBr.out.trans (hb1.mono HBr.out.size)));clear hb1))
    go_ret
    exact ⟨_,rfl,Or.inl ⟨k,v,rfl,HGV.out,HF.out⟩,HB1.out⟩
   ·rw [decide_eq_false hv] at HCV
    have HK2:Hid (∀(j:Nat) (u:VtR),j < k+1→vs[j]? =some u→u.num≠vt):=fun j u hj h=>by
     rcases Nat.lt_or_ge j k with c |c
     ·exact HK.out j u c h
     ·obtain rfl:j=k:=by omega
      rw [hgv] at h;cases h;exact hv
    clear hv hgv
    go_wp2_with (first
     |(with_reducible refine wpList_load_mid (op:=⟨some 15,_,_,_,_,_⟩) rfl 99 (.tmp 14) rfl b1 (o1+k*15) rfl (fVt v) _ HRG.out Tryz.underlying99 rfl (sizeVtL v) ?_)
     |(go_at_call 40;(with_reducible refine HCV.out.mono ?_);rintro e w1 ⟨rfl,hb1⟩;(have HB1:=Lib.hid (HBr.out.trans (hb1.mono HBr.out.size)));clear hb1))
    refine ⟨?rel,?measure⟩
    case rel=>exact ⟨k+1,by omega,by go_num,HK2,HB1⟩
    case measure=>(simp [intOf]<;>omega)
  ·obtain rfl:k=n:=by omega
   have HF:Hid (fiV vt vs=none):=fiV_none (fun j u h=>HK.out j u (by have:=(List.getElem?_eq_some_iff.1 h).1;have:=HXN.out;omega) h)
   go_wp2
   go_ret
   exact ⟨_,rfl,Or.inr ⟨rfl,HF.out⟩,HBr.out⟩
