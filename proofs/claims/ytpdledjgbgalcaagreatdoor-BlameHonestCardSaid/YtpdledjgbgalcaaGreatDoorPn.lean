/- Signatures verified; the reference's root. The reference's signatures. Merkle paths, both. Merkle proofs verified, both. The leaf of a receipt, the digest of a batch. The reference of receipts: number, sum, list, signed. The reference's leaf of a receipt, digest of a batch. -/
import Derived.Test.YtpdledjgbgalcaaGreatDoorND
import Derived.Test.YtpdledjgbgalcaaGreatDoorPk
import Derived.Test.YtpdledjgbgalcaaGreatDoorPo
import Derived.Test.YtpdledjgbgalcaaGreatDoorPf
namespace Go.Proofs.YtpdledjgbgalcaaGreatDoor
set_option maxRecDepth 100000
set_option maxHeartbeats 8000000
open Go.RowKit Go.Lib
set_option linter.unusedVariables false
set_option linter.unusedSimpArgs false
theorem beqN (a b:ByteArray):decide (a=b)=(a.toList==b.toList):=by
 rw [←beq_toListBytes]
 show decide (a=b)=(a.data==b.data)
 by_cases h:a=b
 ·subst h;simp
 ·rw [decide_eq_false h]
  symm
  rw [beq_eq_false_iff_ne]
  exact fun h2=>h (ByteArray.ext h2)
theorem sgverify_any (b h:Int) (dg:ByteArray) (hdg:dg.size=32) (ix:Nat) (hix:ix < 256) (Ap Aq:Option Addr) (np nq cp cq B:Nat) (ps qs:List ByteArray) (w:World) (hG:Glob w) (hp:Sl fT w B Ap np ps) (hq:Sl fT w B Aq nq qs) (hB:B≤w.heap.size) (hn:np≤300) (hm:nq≤8) (hps:∀s∈ps,s.size=32) (hqs:∀s∈qs,s.size=32) (pub:ByteArray):
 Calls Tryz.prog 90 #[.agg (cSc b h),.string pub,.string dg,.agg (cSg ix Ap np cp Aq nq cq)] w fun e w'=>e= .returned (.bool (sgF b h ix np nq&&decide (sgR b dg ix ps qs=pub)))∧Below w.heap.size w w':=by
 have HR:Hid (∀V,Below w.heap.size w V→Calls Tryz.prog 152 #[.agg (cSc b h),.string dg,.agg (cSg ix Ap np cp Aq nq cq)] V fun e w'=>∃r er,e= .returned (.tuple #[.string r,.int .i64 er])∧(er=0∧sgF b h ix np nq=true∧r=sgR b dg ix ps qs∨er=1∧sgF b h ix np nq=false)∧Below V.heap.size V w'):=fun V hb=>sgroot_any b h dg hdg ix hix Ap Aq np nq cp cq B ps qs V (hG.on hb) (hp.up hb hB) (hq.up hb hB) (Nat.le_trans hB hb.size) hn hm hps hqs
 have HB:Hid (Below w.heap.size w ((w.alloc (.cells (cSc b h) 26)).alloc (.cells (cSg ix Ap np cp Aq nq cq) 33))):=((Below.refl _ _).alloc (Nat.le_refl _) _).alloc (by simp) _
 have HC:=Lib.hid (HR.out _ HB.out)
 clear hp hq hps hqs hG HR
 go_enter Tryz.func90,Tryz.ntmps90
 go_wp2_with (go_at_call 152;(with_reducible refine HC.out.mono ?_);rintro e w4 ⟨r,er,rfl,hr,hb4⟩;(have HB4:=Lib.hid (HB.out.trans (hb4.mono HB.out.size)));clear hb4;rcases hr with ⟨rfl,hf,rfl⟩ |⟨rfl,hf⟩)
 all_goals
  have HF:=Lib.hid hf
  clear hf
  go_wp2
  go_ret
  exact ⟨by rw [HF.out];first |rfl |(rw [beqN];rfl),HB4.out⟩
theorem upF_size (x:ByteArray) (hx:x.size≤32):∀(k i n:Nat) (ps:List ByteArray),(upF k x i n ps).1.size≤32
 |0,i,n,ps=>by
  rw [upF]
  split
  ·exact hx
  ·split<;>exact Nat.zero_le _
 |k+1,i,n,ps=>by
  rw [upF]
  split
  ·exact hx
  ·split
   ·exact Nat.zero_le _
   ·split<;>(dsimp only;rw [ndS_size];exact Nat.le_refl _)
theorem last_of {ps:List ByteArray} {m:Nat} (h:ps.length=m+1):ps.dropLast=ps.take m∧ps.getLastD ⟨#[]⟩=ps.getD m ⟨#[]⟩:=by
 refine ⟨by rw [List.dropLast_eq_take,h];rfl,?_⟩
 rw [List.getLastD_eq_getLast?,List.getLast?_eq_getElem?,h,List.getD_eq_getElem?_getD]
 rfl
theorem climb_any:∀(k:Nat) (x:ByteArray) (i n:Nat) (A:Option Addr) (m c B:Nat) (ps:List ByteArray) (w:World) (hG:Glob w),x.size=32→i < n→n≤256→Sl fT w B A m ps→B≤w.heap.size→m≤c→m≤k→m≤1000→(∀s∈ps,s.size=32)→
 Calls Tryz.prog 149 #[.string x,.int .i64 i,.int .i64 n,.slice A m c] w fun e w'=>e= .returned (.tuple #[.string (upF k x i n ps).1,.bool (upF k x i n ps).2])∧Below w.heap.size w w':=fun k=>by
 induction k with
 |zero=>
  intro x i n A m c B ps w hG hx hin hn hp hB hmc hmk hmm hps
  obtain rfl:m=0:=by omega
  have hpl:ps.length=0:=hp.1
  by_cases hn1:n=1
  ·subst hn1
   have HV:Hid (upF 0 x i 1 ps=(x,true)):=by show _=_;rw [upF,if_pos rfl,decide_eq_true hpl]
   rw [HV.out]
   clear hp hps hG
   go_enter Tryz.func149,Tryz.ntmps149
   go_wp2
   go_ret2
   exact ⟨rfl,Below.refl _ _⟩
  ·have HV:Hid (upF 0 x i n ps=(⟨#[]⟩,false)):=by show _=_;rw [upF,if_neg hn1,if_pos hpl]
   rw [HV.out]
   have hn1I:((n:Int)==1)=false:=by simp;omega
   clear hp hps hG
   go_enter Tryz.func149,Tryz.ntmps149
   go_wp2
   go_ret2
   exact ⟨rfl,Below.refl _ _⟩
 |succ k ih=>
  intro x i n A m c B ps w hG hx hin hn hp hB hmc hmk hmm hps
  have hpl:ps.length=m:=hp.1
  by_cases hn1:n=1
  ·subst hn1
   have HV:Hid (upF (k+1) x i 1 ps=(x,decide (m=0))):=by show _=_;rw [upF,if_pos rfl,hpl]
   rw [HV.out]
   have hmI:((m:Int)==0)=decide (m=0):=by by_cases h:m=0<;>simp [h]
   clear hp hps hG
   go_enter Tryz.func149,Tryz.ntmps149
   go_wp2
   go_ret2
   exact ⟨by rw [←hmI];rfl,Below.refl _ _⟩
  ·have hn1I:((n:Int)==1)=false:=by simp;omega
   by_cases hm0:m=0
   ·subst hm0
    have HV:Hid (upF (k+1) x i n ps=(⟨#[]⟩,false)):=by show _=_;rw [upF,if_neg hn1,if_pos hpl]
    rw [HV.out]
    clear hp hps hG
    go_enter Tryz.func149,Tryz.ntmps149
    go_wp2
    go_ret2
    exact ⟨rfl,Below.refl _ _⟩
   ·obtain ⟨m,rfl⟩:∃m',m=m'+1:=⟨m - 1,by omega⟩
    obtain ⟨hlt1,hlt2⟩:=last_of hpl
    obtain ⟨b1,o1,z,rfl,hb1,hgz,hcz⟩:=hp.2.at_ (k:=m) (by omega)
    have hz32:=hps z (List.mem_of_getElem? hgz)
    rw [getD_of hgz] at hlt2
    obtain ⟨f1,f2,f3,f4,f5⟩:=spl_facts (n:=n) (by omega) hn
    have HSPL:=Lib.hid (fun W=>msplit_any n (by omega) hn W)
    have HV:Hid (upF (k+1) x i n ps=if i < spl n then (ndS (upF k x i (spl n) (ps.take m)).1 z,(upF k x i (spl n) (ps.take m)).2) else (ndS z (upF k x (i - spl n) (n - spl n) (ps.take m)).1,(upF k x (i - spl n) (n - spl n) (ps.take m)).2)):=by
     show _=_
     rw [upF,if_neg hn1,if_neg (by omega),hlt1,hlt2]
    obtain ⟨p,hp1⟩:∃p,spl n=p:=⟨_,rfl⟩
    rw [hp1] at HSPL HV f3 f4 f5
    obtain ⟨iS,hS0,_,hS1,_⟩:=info_parts Tryz.infoS
    obtain ⟨A1,hA1⟩:∃A1:Option Addr,(if c=0 then (some ⟨b1,o1,none⟩:Option Addr) else (some ⟨b1,o1,none⟩:Option Addr).map (·.add 0))=A1:=⟨_,rfl⟩
    have hsl1:=run_slice_hi (P:=Tryz.prog) 24 9 iS Tryz.underlying24 hS0 hS1 (some ⟨b1,o1,none⟩) (m+1) c m (by omega)
    rw [hA1] at hsl1
    have HSL:Hid (∀V,Below w.heap.size w V→Sl fT V B A1 m (ps.take m)):=fun V hb=>by
     have:=(hp.up hb hB).partT (c:=c) 0 m (by omega) hmc
     rw [hA1,List.drop_zero] at this
     exact this
    have hmI:((m+1:Nat):Int) - 1=(m:Int):=by omega
    have hmI2:(m:Int)+1 - 1=(m:Int):=by omega
    have hm0I:(((m+1:Nat):Int)==0)=false:=by simp;omega
    have hm1I:(((m:Int)+1)==0)=false:=by simp;omega
    have hwm:IntKind.i64.wrap (m:Int)=m:=IntWalk.i64_in _ (by omega)
    have hmlt:(m:Int) < (m:Int)+1:=by omega
    have hmlt2:(m:Int) < ((m+1:Nat):Int):=by omega
    have hps':∀s∈ps.take m,s.size=32:=fun s h=>hps s (List.mem_of_mem_take h)
    have HB:Hid (Below w.heap.size w w):=Below.refl _ _
    have hkm:m≤k:=by omega
    by_cases hip:i < p
    ·have hipI:(i:Int) < (p:Int):=by omega
     have HR:Hid (∀V,Below w.heap.size w V→Calls Tryz.prog 149 #[.string x,.int .i64 i,.int .i64 p,.slice A1 m c] V fun e w'=>e= .returned (.tuple #[.string (upF k x i p (ps.take m)).1,.bool (upF k x i p (ps.take m)).2])∧Below V.heap.size V w'):=fun V hb=>
      ih x i p A1 m c B (ps.take m) V (hG.on hb) hx hip (by omega) (HSL.out V hb) (Nat.le_trans hB hb.size) (by omega) hkm (by omega) hps'
     have hrs:=upF_size x (Nat.le_of_eq hx) k i p (ps.take m)
     rw [if_pos hip] at HV
     obtain ⟨⟨r,ok⟩,hr⟩:∃r,upF k x i p (ps.take m)=r:=⟨_,rfl⟩
     rw [hr] at HR HV hrs
     dsimp only at hrs
     have HND:Hid (∀V,Below w.heap.size w V→Calls Tryz.prog 168 #[.string r,.string z] V fun e w'=>e= .returned (.string (ndS r z))∧Below V.heap.size V w'):=fun V hb=>mnode_any r z V (hG.on hb) (by omega) (by omega)
     rw [HV.out]
     clear hp hps hx hgz hz32 hlt1 hlt2 hp1 hA1 hS0 hS1 hr hrs hps' ih f1 f2 HSL hG hb1 hip
     go_enter Tryz.func149,Tryz.ntmps149
     go_wp2_with fail
     refine wp_region_held_drew (S:=(fun w'=>w'.cell? ⟨b1,o1+m,none⟩=some (.string z))) (by kernel_rfl) (by first |exact hcz |go_keep) (fun hHeld=>?_)
     refine tkY (i:=0) ?_
     try simp only [pt]
     refine tkY (i:=1) ?_
     try simp only [pt]
     refine tkY (i:=2) ?_
     try simp only [pt]
     refine tkY (i:=3) ?_
     try simp only [pt]
     refine tkY (i:=4) ?_
     try simp only [pt]
     refine tkY (i:=5) ?_
     try simp only [pt]
     refine tkY (i:=6) ?_
     try simp only [pt]
     refine tkY (i:=7) ?_
     try simp only [pt]
     refine tkY (i:=8) ?_
     try simp only [pt]
     refine tkY (i:=9) ?_
     try simp only [pt]
     refine tkY (i:=10) ?_
     try simp only [pt]
     refine tkY (i:=11) ?_
     try simp only [pt]
     refine tkY (i:=12) ?_
     try simp only [pt]
     refine wpAnyH_done (by kernel_rfl) ?_ _
     clear hwm hmI hmI2 hsl1 hmlt hmlt2
     go_wp2_with (first
      |(go_at_call 167;(with_reducible refine (HSPL.out _).mono ?_);rintro e W1 ⟨rfl,rfl⟩)
      |(go_at_call 149;(with_reducible refine (HR.out _ (by repeat (first |exact HB.out |exact Below.refl _ _ |refine Below.drew ?_ |refine below_dN' ?_ _ |refine below_drewN' ?_ _))).mono ?_);rintro e w2 ⟨rfl,hb2⟩;(have HB:Hid (Below w.heap.size w w2):=Below.trans (B:=w.heap.size) (by repeat (first |exact HB.out |exact Below.refl _ _ |refine Below.drew ?_ |refine below_dN' ?_ _ |refine below_drewN' ?_ _)) (hb2.mono (Nat.le_refl _)));(have HN2:=Lib.hid (HND.out w2 HB.out));clear hb2)
      |(go_at_call 168;(with_reducible refine HN2.out.mono ?_);rintro e w3 ⟨rfl,hb3⟩;(have HB:Hid (Below w.heap.size w w3):=HB.out.trans (hb3.mono HB.out.size));clear hb3))
     go_ret2
     exact ⟨rfl,HB.out⟩
    ·have hipI:¬(i:Int) < (p:Int):=by omega
     have hpiI:(i:Int) - (p:Int)=((i - p:Nat):Int):=by omega
     have hpnI:(n:Int) - (p:Int)=((n - p:Nat):Int):=by omega
     have HR:Hid (∀V,Below w.heap.size w V→Calls Tryz.prog 149 #[.string x,.int .i64 ((i - p:Nat):Int),.int .i64 ((n - p:Nat):Int),.slice A1 m c] V fun e w'=>e= .returned (.tuple #[.string (upF k x (i - p) (n - p) (ps.take m)).1,.bool (upF k x (i - p) (n - p) (ps.take m)).2])∧Below V.heap.size V w'):=fun V hb=>
      ih x (i - p) (n - p) A1 m c B (ps.take m) V (hG.on hb) hx (by omega) (by omega) (HSL.out V hb) (Nat.le_trans hB hb.size) (by omega) hkm (by omega) hps'
     have hrs:=upF_size x (Nat.le_of_eq hx) k (i - p) (n - p) (ps.take m)
     rw [if_neg hip] at HV
     obtain ⟨⟨r,ok⟩,hr⟩:∃r,upF k x (i - p) (n - p) (ps.take m)=r:=⟨_,rfl⟩
     rw [hr] at HR HV hrs
     dsimp only at hrs
     have HND:Hid (∀V,Below w.heap.size w V→Calls Tryz.prog 168 #[.string z,.string r] V fun e w'=>e= .returned (.string (ndS z r))∧Below V.heap.size V w'):=fun V hb=>mnode_any z r V (hG.on hb) (by omega) (by omega)
     rw [HV.out]
     obtain ⟨ip,hip2⟩:∃q,i - p=q:=⟨_,rfl⟩
     obtain ⟨np,hnp2⟩:∃q,n - p=q:=⟨_,rfl⟩
     rw [hip2] at HR hpiI
     rw [hnp2] at HR hpnI
     clear hp hps hx hgz hz32 hlt1 hlt2 hp1 hA1 hS0 hS1 hr hrs hps' ih f1 f2 HSL hG hb1 hip hip2 hnp2
     go_enter Tryz.func149,Tryz.ntmps149
     go_wp2_with fail
     refine wp_region_held_drew (S:=(fun w'=>w'.cell? ⟨b1,o1+m,none⟩=some (.string z))) (by kernel_rfl) (by first |exact hcz |go_keep) (fun hHeld=>?_)
     refine tkY (i:=0) ?_
     try simp only [pt]
     refine tkY (i:=1) ?_
     try simp only [pt]
     refine tkY (i:=2) ?_
     try simp only [pt]
     refine tkY (i:=3) ?_
     try simp only [pt]
     refine tkY (i:=4) ?_
     try simp only [pt]
     refine tkY (i:=5) ?_
     try simp only [pt]
     refine tkY (i:=6) ?_
     try simp only [pt]
     refine tkY (i:=7) ?_
     try simp only [pt]
     refine tkY (i:=8) ?_
     try simp only [pt]
     refine tkY (i:=9) ?_
     try simp only [pt]
     refine tkY (i:=10) ?_
     try simp only [pt]
     refine tkY (i:=11) ?_
     try simp only [pt]
     refine tkY (i:=12) ?_
     try simp only [pt]
     refine wpAnyH_done (by kernel_rfl) ?_ _
     clear hwm hmI hmI2 hsl1 hmlt hmlt2
     go_wp2_with (first
      |(go_at_call 167;(with_reducible refine (HSPL.out _).mono ?_);rintro e W1 ⟨rfl,rfl⟩)
      |(go_at_call 149;(with_reducible refine (HR.out _ (by repeat (first |exact HB.out |exact Below.refl _ _ |refine Below.drew ?_ |refine below_dN' ?_ _ |refine below_drewN' ?_ _))).mono ?_);rintro e w2 ⟨rfl,hb2⟩;(have HB:Hid (Below w.heap.size w w2):=Below.trans (B:=w.heap.size) (by repeat (first |exact HB.out |exact Below.refl _ _ |refine Below.drew ?_ |refine below_dN' ?_ _ |refine below_drewN' ?_ _)) (hb2.mono (Nat.le_refl _)));(have HN2:=Lib.hid (HND.out w2 HB.out));clear hb2)
      |(go_at_call 168;(with_reducible refine HN2.out.mono ?_);rintro e w3 ⟨rfl,hb3⟩;(have HB:Hid (Below w.heap.size w w3):=HB.out.trans (hb3.mono HB.out.size));clear hb3))
     go_ret2
     exact ⟨rfl,HB.out⟩
theorem mis_any (x:ByteArray) (hx:x.size=32) (w:World):Calls Tryz.prog 147 #[.string x] w fun e w'=>e= .returned (.bool true)∧w=w':=by
 have h1:((x.size:Int)==32)=true:=by simp [hx]
 go_enter Tryz.func147,Tryz.ntmps147
 go_wp2
 go_ret
 exact ⟨rfl,rfl⟩
theorem masums_any (A:Option Addr) (n c B:Nat) (ys:List ByteArray) (w:World) (hx:Sl fT w B A n ys) (hn:n≤1000000) (hy:∀s∈ys,s.size=32):
 Calls Tryz.prog 148 #[.slice A n c] w fun e w'=>e= .returned (.bool true)∧w=w':=by
 have HX:=Lib.hid hx
 have HXN:Hid (ys.length=n):=hx.1
 have HY:=Lib.hid hy
 clear hx hy
 go_enter Tryz.func148,Tryz.ntmps148
 go_wp2
 go_loopw [7] (fun i wr=>(∃k:Nat,k≤n∧i= .int .i64 k)∧w=wr) (fun i _=>n - (intOf i).toNat)
 case atStart=>exact ⟨⟨0,by omega,rfl⟩,rfl⟩
 case round=>
  obtain ⟨⟨k,hk,rfl⟩,rfl⟩:=hrel
  by_cases hlt:k < n
  ·obtain ⟨b1,o1,x,rfl,_,hg,hc⟩:=HX.out.2.at_ (k:=k) (by rw [HXN.out];exact hlt)
   have hkI:(k:Int) < (n:Int):=by omega
   have hk0:(0:Int)≤(k:Int):=by omega
   have HC:=Lib.hid (fun W=>mis_any x (HY.out x (List.mem_of_getElem? hg)) W)
   clear hg
   go_wp2_with (go_at_call 147;(with_reducible refine (HC.out _).mono ?_);rintro e w5 ⟨rfl,rfl⟩)
   refine ⟨?rel,?measure⟩
   case rel=>exact ⟨⟨k+1,by omega,by go_num⟩,by first |rfl |trivial⟩
   case measure=>(simp [intOf]<;>omega)
  ·obtain rfl:k=n:=by omega
   go_wp2
   go_ret
   exact ⟨rfl,by first |rfl |trivial⟩
def mvB (x:ByteArray) (i n:Nat) (ps:List ByteArray) (rt:ByteArray):Bool:=(upF 8 x i n ps).2&&decide ((upF 8 x i n ps).1=rt)
theorem mverify_any (x:ByteArray) (i n:Nat) (A:Option Addr) (m c B:Nat) (ps:List ByteArray) (rt:ByteArray) (w:World) (hG:Glob w) (hx:x.size=32) (hr:rt.size=32) (hin:i < n) (hn:n≤256) (hp:Sl fT w B A m ps) (hB:B≤w.heap.size) (hmc:m≤c) (hm:m≤8) (hps:∀s∈ps,s.size=32):
 Calls Tryz.prog 88 #[.string x,.int .i64 i,.int .i64 n,.slice A m c,.string rt] w fun e w'=>e= .returned (.bool (mvB x i n ps rt))∧Below w.heap.size w w':=by
 have HX:=Lib.hid (fun W=>mis_any x hx W)
 have HR:=Lib.hid (fun W=>mis_any rt hr W)
 have HP:=Lib.hid (masums_any A m c B ps w hp (by omega) hps)
 have HC:=Lib.hid (climb_any 8 x i n A m c B ps w hG hx hin hn hp hB hmc hm (by omega) hps)
 have HV:Hid (mvB x i n ps rt=((upF 8 x i n ps).2&&decide ((upF 8 x i n ps).1=rt))):=rfl
 obtain ⟨⟨r,ok⟩,hu⟩:∃r,upF 8 x i n ps=r:=⟨_,rfl⟩
 rw [hu] at HC HV
 rw [HV.out]
 have h1:decide ((i:Int) < 0)=false:=by simp
 have h2:decide ((n:Int)≤(i:Int))=false:=by simp;omega
 have h3:decide (n≤i)=false:=by simp;omega
 rw [beqN r rt]
 clear hG hp hps hx hr hu HV
 cases ok
 all_goals
  go_enter Tryz.func88,Tryz.ntmps88
  go_wp2_with (first
   |(go_at_call 147;(first |(with_reducible refine (HX.out _).mono ?_) |(with_reducible refine (HR.out _).mono ?_));rintro e w5 ⟨rfl,rfl⟩)
   |(go_at_call 148;(with_reducible refine HP.out.mono ?_);rintro e w5 ⟨rfl,rfl⟩)
   |(go_at_call 149;(with_reducible refine HC.out.mono ?_);rintro e w6 ⟨rfl,hb6⟩;(have HB6:=Lib.hid hb6);clear hb6))
  go_ret
  exact ⟨by rfl,HB6.out⟩
def encS (r:Rcp):List Int:=encSg r.hd.toNat r.vt.toNat r.s r.ix.toNat r.sz.toNat r.dy.toNat r.sr.toNat
theorem byt_app {a b:List Int} (ha:Byt a) (hb:Byt b):Byt (a++b):=fun x hx=>by
 rcases List.mem_append.1 hx with h |h
 ·exact ha x h
 ·exact hb x h
theorem encSg_byt (hd vt ix sz dy sr:Nat) (s:ByteArray):Byt (encSg hd vt s ix sz dy sr):=
 byt_app (enc_rng hd) (byt_app (enc_rng vt) (byt_app (sB_rng s) (byt_app (enc_rng ix) (byt_app (enc_rng sz) (byt_app (enc_rng dy) (enc_rng sr))))))
theorem encSg_pos (hd vt ix sz dy sr:Nat) (s:ByteArray) (hs:s.size=32):0 < (encSg hd vt s ix sz dy sr).length:=by
 unfold encSg
 simp only [List.length_append,sB_len,hs]
 omega
theorem leaf_any (r:Rcp) (ps qs rs:List ByteArray) (w:World) (hG:Glob w) (hv:vaB r ps qs rs=true):
 Calls Tryz.prog 89 #[.agg (cR r)] w fun e w'=>e= .returned (.string (leafS (encS r)))∧Below w.heap.size w w':=by
 obtain ⟨W1,hW1⟩:∃W1:World,W1=w.alloc (.cells (cR r) tR):=⟨_,rfl⟩
 have hb1:Below w.heap.size w W1:=by rw [hW1];exact (Below.refl _ _).alloc (Nat.le_refl _) _
 have hs1:W1.heap.size=w.heap.size+1:=by rw [hW1];simp
 have hc1:W1.heap[w.heap.size]? =some (.cells (cR r) tR (0,0)):=by rw [hW1];exact heap_alloc_new w _
 have HWE:=Lib.hid hW1
 obtain ⟨y0,y1,y2,y3,y4,y5,y6,_⟩:=vaB_facts hv
 obtain ⟨hd,vt,s,ix,sz,dy,sr,ct,pl,rt,pa,si,pb,pc⟩:=r
 dsimp only at y0 y1 y2 y3 y4 y5 y6
 obtain ⟨hd,rfl⟩:∃k:Nat,hd=k:=⟨hd.toNat,by omega⟩
 obtain ⟨vt,rfl⟩:∃k:Nat,vt=k:=⟨vt.toNat,by omega⟩
 obtain ⟨ix,rfl⟩:∃k:Nat,ix=k:=⟨ix.toNat,by omega⟩
 obtain ⟨sz,rfl⟩:∃k:Nat,sz=k:=⟨sz.toNat,by omega⟩
 obtain ⟨dy,rfl⟩:∃k:Nat,dy=k:=⟨dy.toNat,by omega⟩
 obtain ⟨sr,rfl⟩:∃k:Nat,sr=k:=⟨sr.toNat,by omega⟩
 obtain ⟨W3,hW3⟩:∃W3:World,W3=W1.alloc (.cells #[.slice none 0 0,.int .i64 0] 217):=⟨_,rfl⟩
 have h23:Below W1.heap.size W1 W3:=by rw [hW3];exact (Below.refl _ _).alloc (Nat.le_refl _) _
 have h03:Below w.heap.size w W3:=hb1.trans (h23.mono hb1.size)
 have hc3:W3.heap[w.heap.size]? =some (.cells (cR ⟨hd,vt,s,ix,sz,dy,sr,ct,pl,rt,pa,si,pb,pc⟩) tR (0,0)):=(h23.block _ (by omega)).trans hc1
 have h0:Wc W1.heap.size (W1.heap.size+1) (.slice none 0 0) W3 [] W3:=by rw [hW3];exact Wc.start (Wr.new W1)
 have hst:=h0.step (P:=Tryz.prog) (fun v' hv' _=>wsigned_any W1.heap.size (W1.heap.size+1) v' _ hd vt ix sz dy sr s rt ct pl si pa pb pc W3 hv' y2 (by omega) (by simp))
 have HC0:=Lib.hid hst
 have HR3:=Lib.hid (rangeR hc3)
 have HW3:=Lib.hid hW3
 have HS1:=Lib.hid hs1
 have hsl:=encSg_len hd vt ix sz dy sr s y2
 have hsp:=encSg_pos hd vt ix sz dy sr s y2
 have HBW:Hid (∀bs V,Wc W1.heap.size (W1.heap.size+1) (.slice none 0 0) W3 bs V→Below w.heap.size w V):=fun bs V h=>by
  obtain ⟨v1,_,hb,_⟩:=h
  exact h03.trans (hb.below h03.size (fun i hi=>by
   rcases hi with rfl |hi
   ·omega
   ·cases hi))
 have HLF:Hid (∀(V:World) A' n' c',Below w.heap.size w V→Sl fB V V.heap.size A' n' (encSg hd vt s ix sz dy sr)→n'≤c'→Calls Tryz.prog 151 #[.slice A' n' c'] V fun e w'=>e= .returned (.string (leafS (encS ⟨hd,vt,s,ix,sz,dy,sr,ct,pl,rt,pa,si,pb,pc⟩)))∧Below V.heap.size V w'):=fun V A' n' c' hb hs hc=>
  mleaf_any A' n' c' V.heap.size _ V (hG.on hb) hs hc (Nat.le_refl _) (by have:=hs.1;omega) (encSg_byt _ _ _ _ _ _ _) (own_hA hs (by have:=hs.1;omega))
 have HDN:Hid (∀V,Wc W1.heap.size (W1.heap.size+1) (.slice none 0 0) W3 ([]++encSg hd vt s ix sz dy sr) V→Calls Tryz.prog 78 #[.pointer (some ⟨W1.heap.size,0,none⟩)] V (Slc2 fB ([]++encSg hd vt s ix sz dy sr) 0 V)):=fun V h=>by
  obtain ⟨v9,hw9,_,_⟩:=h
  exact wdone_any _ _ v9 _ V hw9 (by rw [List.nil_append];omega)
 clear hv y0 y1 y2 y3 y4 y5 y6 hW1 hb1 hs1 hc1 hW3 h23 h03 hc3 h0 hst hsl hsp hG
 go_enter Tryz.func89,Tryz.ntmps89
 go_upto_region 1 with fail
 rw [←HWE.out]
 go_wp2_with fail
 refine (newWriter_any W1).mono ?_
 rintro e V1 ⟨rfl,hV1⟩
 rw [←HW3.out] at hV1
 subst hV1
 go_wp2_with (first
  |(with_reducible refine wpList_load_mid (op:=⟨some 8,_,_,_,_,_⟩) rfl tR (.tmp 1) rfl w.heap.size 0 rfl (cR ⟨hd,vt,s,ix,sz,dy,sr,ct,pl,rt,pa,si,pb,pc⟩).toList _ HR3.out Tryz.underlying35 rfl (sizeRL ⟨hd,vt,s,ix,sz,dy,sr,ct,pl,rt,pa,si,pb,pc⟩) ?_)
  |(go_at_call 150;(with_reducible refine HC0.out.mono ?_)))
 rintro e V2 ⟨rfl,h2⟩
 have HD:=Lib.hid (HDN.out V2 h2)
 have HB2:=Lib.hid (HBW.out _ V2 h2)
 clear h2
 go_wp2_with fail
 refine HD.out.mono ?_
 rintro e VX ⟨A9,n9,c9,rfl,q1,q2,q3⟩
 have HB3:=Lib.hid (HB2.out.trans (q3.mono HB2.out.size))
 have HL9:=Lib.hid (HLF.out VX A9 n9 c9 HB3.out q2 q1)
 clear q1 q2 q3
 go_wp2_with (go_at_call 151;(with_reducible refine HL9.out.mono ?_);rintro e w9 ⟨rfl,hb9⟩;(have HB9:=Lib.hid (HB3.out.trans (hb9.mono HB3.out.size)));clear hb9)
 go_ret
 exact ⟨rfl,HB9.out⟩
def encB (rt:ByteArray) (ct:Nat):List Int:=((enc 8++[114,101,99,101,105,112,116,115])++sB rt)++enc ct
theorem encB_len (rt:ByteArray) (ct:Nat) (h:rt.size=32):(encB rt ct).length≤60∧32≤(encB rt ct).length:=by
 unfold encB
 simp only [List.length_append,sB_len,h]
 have h1:=enc_len 8
 have h2:=enc_len ct
 simp only [List.length_cons,List.length_nil]
 omega
theorem encB_byt (rt:ByteArray) (ct:Nat):Byt (encB rt ct):=
 byt_app (byt_app (byt_app (enc_rng 8) (by
  intro z hz
  (rcases List.mem_cons.1 hz with rfl |hz; ·omega);(rcases List.mem_cons.1 hz with rfl |hz; ·omega);(rcases List.mem_cons.1 hz with rfl |hz; ·omega);(rcases List.mem_cons.1 hz with rfl |hz; ·omega);(rcases List.mem_cons.1 hz with rfl |hz; ·omega);(rcases List.mem_cons.1 hz with rfl |hz; ·omega);(rcases List.mem_cons.1 hz with rfl |hz; ·omega);(rcases List.mem_cons.1 hz with rfl |hz; ·omega);cases hz)) (sB_rng rt)) (enc_rng ct)
def btS (rt:ByteArray) (ct:Nat):ByteArray:=baOf (shaB (encB rt ct))
theorem btS_size (rt:ByteArray) (ct:Nat):(btS rt ct).size=32:=by unfold btS;rw [←sB_len,baOf_sB (shaB_byt _),shaB_len]
theorem batch_any (rt:ByteArray) (ct:Nat) (w:World) (hG:Glob w) (hrt:rt.size=32) (hct:ct≤256):
 Calls Tryz.prog 91 #[.string rt,.int .i64 ct] w fun e w'=>e= .returned (.string (btS rt ct))∧Below w.heap.size w w':=by
 obtain ⟨W3,hW3⟩:∃W3:World,W3=w.alloc (.cells #[.slice none 0 0,.int .i64 0] 217):=⟨_,rfl⟩
 have h03:Below w.heap.size w W3:=by rw [hW3];exact (Below.refl _ _).alloc (Nat.le_refl _) _
 have h0:Wc w.heap.size (w.heap.size+1) (.slice none 0 0) W3 [] W3:=by rw [hW3];exact Wc.start (Wr.new w)
 have HW3:=Lib.hid hW3
 have HBW:Hid (∀bs V,Wc w.heap.size (w.heap.size+1) (.slice none 0 0) W3 bs V→Below w.heap.size w V):=fun bs V h=>by
  obtain ⟨v1,_,hb,_⟩:=h
  exact h03.trans (hb.below h03.size (fun i hi=>by
   rcases hi with rfl |hi
   ·omega
   ·cases hi))
 have H1:=Lib.hid (h0.step (P:=Tryz.prog) (fun v' hv' _=>wtext_any w.heap.size (w.heap.size+1) v' _ ⟨#[114,101,99,101,105,112,116,115]⟩ W3 hv' (by decide) (by simp)))
 have hl8:=enc_len 8
 have hlc:=enc_len ct
 have HST2:Hid (∀V,Wc w.heap.size (w.heap.size+1) (.slice none 0 0) W3 ([]++(enc 8++[114,101,99,101,105,112,116,115])) V→Calls Tryz.prog 77 #[.pointer (some ⟨w.heap.size,0,none⟩),.string rt] V fun e w'=>e= .returned (.tuple #[])∧Wc w.heap.size (w.heap.size+1) (.slice none 0 0) W3 (([]++(enc 8++[114,101,99,101,105,112,116,115]))++sB rt) w'):=fun V h=>
  h.step (P:=Tryz.prog) (fun v' hv' _=>wsum_any w.heap.size (w.heap.size+1) v' _ rt V hv' hrt (by simp only [List.length_append,List.length_nil,List.length_cons];omega))
 have HST3:Hid (∀V,Wc w.heap.size (w.heap.size+1) (.slice none 0 0) W3 (([]++(enc 8++[114,101,99,101,105,112,116,115]))++sB rt) V→Calls Tryz.prog 73 #[.pointer (some ⟨w.heap.size,0,none⟩),.int .u64 ct] V fun e w'=>e= .returned (.tuple #[])∧Wc w.heap.size (w.heap.size+1) (.slice none 0 0) W3 ((([]++(enc 8++[114,101,99,101,105,112,116,115]))++sB rt)++enc ct) w'):=fun V h=>
  h.step (P:=Tryz.prog) (fun v' hv' _=>wuint_any w.heap.size (w.heap.size+1) v' _ ct V hv' (by omega) (by simp only [List.length_append,List.length_nil,List.length_cons,sB_len,hrt];omega))
 have HDN:Hid (∀V,Wc w.heap.size (w.heap.size+1) (.slice none 0 0) W3 ((([]++(enc 8++[114,101,99,101,105,112,116,115]))++sB rt)++enc ct) V→Calls Tryz.prog 78 #[.pointer (some ⟨w.heap.size,0,none⟩)] V (Slc2 fB (encB rt ct) 0 V)):=fun V h=>by
  obtain ⟨v9,hw9,_,_⟩:=h
  have h9:Wr V w.heap.size (w.heap.size+1) v9 (encB rt ct):=hw9
  exact wdone_any _ _ v9 _ V h9 (by have:=encB_len rt ct hrt;omega)
 have HSU:Hid (∀(V:World) A' n' c',Below w.heap.size w V→Sl fB V V.heap.size A' n' (encB rt ct)→n'≤c'→Calls Tryz.prog 154 #[.slice A' n' c'] V fun e w'=>e= .returned (.string (btS rt ct))∧Below V.heap.size V w'):=fun V A' n' c' hb hs hc=>by
  have hl:=encB_len rt ct hrt
  exact ssum_any A' n' c' V.heap.size _ V (hG.on hb) hs hc (Nat.le_refl _) (by have:=hs.1;omega) (encB_byt rt ct) (own_hA hs (by have:=hs.1;omega))
 have hwc:(ct:Int) % 18446744073709551616=ct:=by omega
 clear hG hW3 h03 h0 hl8 hlc hrt
 go_enter Tryz.func91,Tryz.ntmps91
 go_wp2_with fail
 refine (newWriter_any w).mono ?_
 rintro e V1 ⟨rfl,hV1⟩
 rw [←HW3.out] at hV1
 subst hV1
 go_wp2_with fail
 refine H1.out.mono ?_
 rintro e V2 ⟨rfl,h2⟩
 have HD2:=Lib.hid (HST2.out V2 h2)
 clear h2
 go_wp2_with fail
 refine HD2.out.mono ?_
 rintro e V3 ⟨rfl,h3⟩
 have HD3:=Lib.hid (HST3.out V3 h3)
 clear h3
 go_wp2_with fail
 refine HD3.out.mono ?_
 rintro e V4 ⟨rfl,h4⟩
 have HD4:=Lib.hid (HDN.out V4 h4)
 have HB4:=Lib.hid (HBW.out _ V4 h4)
 clear h4
 go_wp2_with fail
 refine HD4.out.mono ?_
 rintro e VX ⟨A9,n9,c9,rfl,q1,q2,q3⟩
 have HB3:=Lib.hid (HB4.out.trans (q3.mono HB4.out.size))
 have HL9:=Lib.hid (HSU.out VX A9 n9 c9 HB3.out q2 q1)
 clear q1 q2 q3
 go_wp2_with (go_at_call 154;(with_reducible refine HL9.out.mono ?_);rintro e w9 ⟨rfl,hb9⟩;(have HB9:=Lib.hid (HB3.out.trans (hb9.mono HB3.out.size)));clear hb9)
 go_ret
 exact ⟨rfl,HB9.out⟩
