/- Signatures verified; the reference's root. The reference's signatures. Keys and one-time signatures made, plainly: the parts that a seed gives are verified. Merkle paths, both. Merkle proofs verified, both. -/
import Derived.Test.YtpdledjgbgalcaaGreatDoorND
import Derived.Test.YtpdledjgbgalcaaGreatDoorPj
namespace Go.Proofs.YtpdledjgbgalcaaGreatDoor
set_option maxRecDepth 100000
set_option maxHeartbeats 8000000
open Go.RowKit Go.Lib
set_option linter.unusedVariables false
set_option linter.unusedSimpArgs false
theorem beqN (a b:ByteArray):decide (a=b)=(a.toList==b.toList):=by
 rw [←beq_toListBytes]
 show decide (a=b)=(a.data==b.data)
 by_cases h:a=b
 ·subst h;simp
 ·rw [decide_eq_false h]
  symm
  rw [beq_eq_false_iff_ne];exact fun h2=>h (ByteArray.ext h2)
theorem sgverify_any (b h:Int) (dg:ByteArray) (hdg:dg.size=32) (ix:Nat) (hix:ix < 256) (Ap Aq:Option Addr) (np nq cp cq B:Nat) (ps qs:List ByteArray) (w:World) (hG:Glob w) (hp:Sl fT w B Ap np ps) (hq:Sl fT w B Aq nq qs) (hB:B≤w.heap.size) (hn:np≤300) (hm:nq≤8) (hps:∀s∈ps,s.size=32) (hqs:∀s∈qs,s.size=32) (pub:ByteArray):
 Calls Tryz.prog 90 #[.agg (cSc b h),.string pub,.string dg,.agg (cSg ix Ap np cp Aq nq cq)] w fun e w'=>e= .returned (.bool (sgF b h ix np nq&&decide (sgR b dg ix ps qs=pub)))∧Below w.heap.size w w':=by
 have HR:Hid (∀V,Below w.heap.size w V→Calls Tryz.prog 152 #[.agg (cSc b h),.string dg,.agg (cSg ix Ap np cp Aq nq cq)] V fun e w'=>∃r er,e= .returned (.tuple #[.string r,.int .i64 er])∧(er=0∧sgF b h ix np nq=true∧r=sgR b dg ix ps qs∨er=1∧sgF b h ix np nq=false)∧Below V.heap.size V w'):=fun V hb=>sgroot_any b h dg hdg ix hix Ap Aq np nq cp cq B ps qs V (hG.on hb) (hp.up hb hB) (hq.up hb hB) (Nat.le_trans hB hb.size) hn hm hps hqs
 have HB:Hid (Below w.heap.size w ((w.alloc (.cells (cSc b h) 26)).alloc (.cells (cSg ix Ap np cp Aq nq cq) 33))):=bl.alloc sI _;have HC:=lh (HR.out _ HB.out);clear hp hq hps hqs hG HR;go_enter Tryz.func90,Tryz.ntmps90
 go_wp2_with (go_at_call 152;(with_reducible refine HC.out.mono ?_);rintro e w4 ⟨r,er,rfl,hr,hb4⟩;(have HB4:=lh (HB.out.trans (hb4.mono HB.out.size)));clear hb4;rcases hr with ⟨rfl,hf,rfl⟩ |⟨rfl,hf⟩)
 all_goals
  have HF:=lh hf;clear hf;go_wp2;go_ret;exact ⟨by rw [HF.out];first |rfl |(rw [beqN];rfl),HB4.out⟩
theorem rgpar_any (b h:Int) (w:World):Calls Tryz.prog 162 #[.agg (cSc b h)] w fun e w'=>e= .returned (.agg (cPm b))∧Below w.heap.size w w':=by
 have HB:Hid (Below w.heap.size w (w.alloc (.cells (cSc b h) 26))):=bl;go_enter Tryz.func162,Tryz.ntmps162;go_wp2;exact bodyPost_ret (v:= .agg (cPm b)) (by simp [results,Tryz.results162,go_sem]) rfl ⟨rfl,HB.out.alloc HB.out.size _⟩
def padL (k:List Int) (x:Int) (n:Nat):List Int:=(List.range n).map fun i=>bits .xor .u8 (k.getD i 0) x
theorem padL_succ (k:List Int) (x:Int) (n:Nat):padL k x (n+1)=padL k x n++[bits .xor .u8 (k.getD n 0) x]:=by
 unfold padL;rw [List.range_succ,List.map_append];rfl
theorem ydN (k:List Int) (x:Int) (n:Nat):(padL k x n).length=n:=by simp [padL]
def tagF (k:ByteArray) (xs:List Int):ByteArray:=baOf (shaB (padL (sB k) 92 64++sB (baOf (shaB (padL (sB k) 54 64++xs)))))
theorem tagF_size (k:ByteArray) (xs:List Int):(tagF k xs).size=32:=by
 rw [tagF,←ya9,ybi (ybN _),ybA]
def secF (sd:ByteArray) (i:Nat):ByteArray:=tagF sd ([115,101,99,114,101,116]++enc i)
def strF (sd:ByteArray) (n:Nat):List ByteArray:=(List.range n).map (secF sd)
theorem strF_succ (sd:ByteArray) (n:Nat):strF sd (n+1)=strF sd n++[secF sd n]:=by
 unfold strF;rw [List.range_succ,List.map_append];rfl
theorem ybS (sd:ByteArray) (n:Nat):(strF sd n).length=n:=by simp [strF]
theorem strF_size {sd:ByteArray} {n:Nat}:∀s∈strF sd n,s.size=32:=fun s hs=>by
 obtain ⟨i,_,rfl⟩:=List.mem_map.1 hs;exact tagF_size _ _
def sedF (sd:ByteArray) (i:Nat):ByteArray:=tagF sd ([111,110,101,116,105,109,101]++enc i)
def sgnF (ds:List Int) (ss:List ByteArray) (n:Nat):List ByteArray:=(List.range n).map fun i=>chF i 0 (ds.getD i 0).toNat (ss.getD i ⟨#[]⟩)
theorem sgnF_succ (ds:List Int) (ss:List ByteArray) (n:Nat):sgnF ds ss (n+1)=sgnF ds ss n++[chF n 0 (ds.getD n 0).toNat (ss.getD n ⟨#[]⟩)]:=by
 unfold sgnF;rw [List.range_succ,List.map_append];rfl
theorem ydO (ds:List Int) (ss:List ByteArray) (n:Nat):(sgnF ds ss n).length=n:=by simp [sgnF]
theorem sgnF_size {ds:List Int} {ss:List ByteArray} {n:Nat} (hs:∀s∈ss,s.size=32) (hn:n≤ss.length):∀s∈sgnF ds ss n,s.size=32:=fun s h=>by
 obtain ⟨i,hi,rfl⟩:=List.mem_map.1 h;refine ycZ _ _ _ ?_ _;have h1:i < ss.length:=Nat.lt_of_lt_of_le (List.mem_range.1 hi) hn;rw [List.getD_eq_getElem?_getD,List.getElem?_eq_getElem h1];exact hs _ (List.getElem_mem h1)
theorem chF_add (c f a:Nat) (x:ByteArray):∀b,chF c f (a+b) x=chF c (f+a) b (chF c f a x)
 |0=>rfl
 |b+1=>by
  rw [←Nat.add_assoc,chF,chF,chF_add c f a x b,Nat.add_assoc]
theorem pub_sgn {ds:List Int} {ss:List ByteArray} (hd:∀d∈ds,0≤d∧d≤3) (hl:ds.length=ss.length):pubF 2 ds (sgnF ds ss ss.length)=pubF 2 (List.replicate ss.length 0) ss:=by
 unfold pubF;rw [ydO]
 congr 3
 unfold endsF
 congr 1
 refine List.map_congr_left (fun i hi=>?_);have h1:=List.mem_range.1 hi
 have h2:(sgnF ds ss ss.length).getD i ⟨#[]⟩=chF i 0 (ds.getD i 0).toNat (ss.getD i ⟨#[]⟩):=by
  unfold sgnF;rw [List.getD_eq_getElem?_getD,List.getElem?_map,List.getElem?_range h1];rfl
 have h3:(List.replicate ss.length (0:Int)).getD i 0=0:=by
  rw [List.getD_eq_getElem?_getD,List.getElem?_replicate];split<;>rfl
 have h4:0≤ds.getD i 0∧ds.getD i 0≤3:=by
  rw [List.getD_eq_getElem?_getD,List.getElem?_eq_getElem om];exact hd _ (List.getElem_mem _)
 rw [h2,h3];have h5:=chF_add i 0 (ds.getD i 0).toNat (ss.getD i ⟨#[]⟩) (2 ^ 2 - 1 - (ds.getD i 0).toNat);rw [Nat.zero_add] at h5;rw [←h5]
 congr 1
 omega
def txF (c:Int):ByteArray:=baOf (List.replicate 32 c)
theorem txF_sB {c:Int} (h:0≤c∧c < 256):sB (txF c)=List.replicate 32 c:=ybi fun b hb=>by rw [(List.mem_replicate.1 hb).2];exact h
theorem ybT {c:Int} (h:0≤c∧c < 256):(txF c).size=32:=by rw [←ya9,txF_sB h];rfl
theorem upF_size (x:ByteArray) (hx:x.size≤32):∀(k i n:Nat) (ps:List ByteArray),(upF k x i n ps).1.size≤32
 |0,i,n,ps=>by
  rw [upF]
  split
  ·exact hx
  ·split<;>exact Nat.zero_le _
 |k+1,i,n,ps=>by
  rw [upF]
  split
  ·exact hx
  ·split
   ·exact Nat.zero_le _
   ·split<;>(dsimp only;rw [ydI];exact Nat.le_refl _)
theorem last_of {ps:List ByteArray} {m:Nat} (h:ps.length=m+1):ps.dropLast=ps.take m∧ps.getLastD ⟨#[]⟩=ps.getD m ⟨#[]⟩:=by
 refine ⟨by rw [List.dropLast_eq_take,h];rfl,?_⟩;rw [List.getLastD_eq_getLast?,List.getLast?_eq_getElem?,h,List.getD_eq_getElem?_getD]
 rfl
theorem climb_any:∀(k:Nat) (x:ByteArray) (i n:Nat) (A:Option Addr) (m c B:Nat) (ps:List ByteArray) (w:World) (hG:Glob w),x.size=32→i < n→n≤256→Sl fT w B A m ps→B≤w.heap.size→m≤c→m≤k→m≤1000→(∀s∈ps,s.size=32)→
 Calls Tryz.prog 149 #[.string x,.int .i64 i,.int .i64 n,.slice A m c] w fun e w'=>e= .returned (.tuple #[.string (upF k x i n ps).1,.bool (upF k x i n ps).2])∧Below w.heap.size w w':=fun k=>by
 induction k with
 |zero=>
  intro x i n A m c B ps w hG hx hin hn hp hB hmc hmk hmm hps;obtain rfl:m=0:=by omega
  have hpl:ps.length=0:=hp.1
  by_cases hn1:n=1
  ·subst hn1
   have HV:Hid (upF 0 x i 1 ps=(x,true)):=by show _=_;rw [upF,if_pos rfl,decide_eq_true hpl]
   rw [HV.out];clear hp hps hG;go_enter Tryz.func149,Tryz.ntmps149;go_wp2;go_ret2;exact ⟨rfl,Below.refl _ _⟩
  ·have HV:Hid (upF 0 x i n ps=(⟨#[]⟩,false)):=by show _=_;rw [upF,if_neg hn1,if_pos hpl]
   rw [HV.out];have hn1I:((n:Int)==1)=false:=by simp;omega
   clear hp hps hG;go_enter Tryz.func149,Tryz.ntmps149;go_wp2;go_ret2;exact ⟨rfl,Below.refl _ _⟩
 |succ k ih=>
  intro x i n A m c B ps w hG hx hin hn hp hB hmc hmk hmm hps;have hpl:ps.length=m:=hp.1
  by_cases hn1:n=1
  ·subst hn1
   have HV:Hid (upF (k+1) x i 1 ps=(x,decide (m=0))):=by show _=_;rw [upF,if_pos rfl,hpl]
   rw [HV.out];have hmI:((m:Int)==0)=decide (m=0):=by by_cases h:m=0<;>simp [h]
   clear hp hps hG;go_enter Tryz.func149,Tryz.ntmps149;go_wp2;go_ret2;exact ⟨by rw [←hmI];rfl,Below.refl _ _⟩
  ·have hn1I:((n:Int)==1)=false:=by simp;omega
   by_cases hm0:m=0
   ·subst hm0
    have HV:Hid (upF (k+1) x i n ps=(⟨#[]⟩,false)):=by show _=_;rw [upF,if_neg hn1,if_pos hpl]
    rw [HV.out];clear hp hps hG;go_enter Tryz.func149,Tryz.ntmps149;go_wp2;go_ret2;exact ⟨rfl,Below.refl _ _⟩
   ·obtain ⟨m,rfl⟩:∃m',m=m'+1:=⟨m - 1,by omega⟩
    obtain ⟨hlt1,hlt2⟩:=last_of hpl;obtain ⟨b1,o1,z,rfl,hb1,hgz,hcz⟩:=hp.2.at_ (k:=m) om;have hz32:=hps z (List.mem_of_getElem? hgz);rw [ybg hgz] at hlt2;obtain ⟨f1,f2,f3,f4,f5⟩:=ycr (n:=n) om hn;have HSPL:=lh (fun W=>msplit_any n om hn W)
    have HV:Hid (upF (k+1) x i n ps=if i < spl n then (ndS (upF k x i (spl n) (ps.take m)).1 z,(upF k x i (spl n) (ps.take m)).2) else (ndS z (upF k x (i - spl n) (n - spl n) (ps.take m)).1,(upF k x (i - spl n) (n - spl n) (ps.take m)).2)):=by
     show _=_
     rw [upF,if_neg hn1,if_neg om,hlt1,hlt2]
    obtain ⟨p,hp1⟩:∃p,spl n=p:=⟨_,rfl⟩
    rw [hp1] at HSPL HV f3 f4 f5;obtain ⟨iS,hS0,_,hS1,_⟩:=info_parts Tryz.infoS;obtain ⟨A1,hA1⟩:∃A1:Option Addr,(if c=0 then (some ⟨b1,o1,none⟩:Option Addr) else (some ⟨b1,o1,none⟩:Option Addr).map (·.add 0))=A1:=⟨_,rfl⟩
    have hsl1:=ycv (P:=Tryz.prog) 24 9 iS Tryz.underlying24 hS0 hS1 (some ⟨b1,o1,none⟩) (m+1) c m om;rw [hA1] at hsl1
    have HSL:Hid (∀V,Below w.heap.size w V→Sl fT V B A1 m (ps.take m)):=fun V hb=>by
     have:=(hp.up hb hB).partT (c:=c) 0 m om hmc
     rw [hA1,List.drop_zero] at this;exact this
    have hmI:((m+1:Nat):Int) - 1=(m:Int):=by omega
    have hmI2:(m:Int)+1 - 1=(m:Int):=by omega
    have hm0I:(((m+1:Nat):Int)==0)=false:=by simp;omega
    have hm1I:(((m:Int)+1)==0)=false:=by simp;omega
    have hwm:IntKind.i64.wrap (m:Int)=m:=IntWalk.i64_in _ om;have hmlt:(m:Int) < (m:Int)+1:=by omega
    have hmlt2:(m:Int) < ((m+1:Nat):Int):=by omega
    have hps':∀s∈ps.take m,s.size=32:=fun s h=>hps s (List.mem_of_mem_take h)
    have HB:Hid (Below w.heap.size w w):=Below.refl _ _;have hkm:m≤k:=by omega
    by_cases hip:i < p
    ·have hipI:(i:Int) < (p:Int):=by omega
     have HR:Hid (∀V,Below w.heap.size w V→Calls Tryz.prog 149 #[.string x,.int .i64 i,.int .i64 p,.slice A1 m c] V fun e w'=>e= .returned (.tuple #[.string (upF k x i p (ps.take m)).1,.bool (upF k x i p (ps.take m)).2])∧Below V.heap.size V w'):=fun V hb=>
      ih x i p A1 m c B (ps.take m) V (hG.on hb) hx hip om (HSL.out V hb) (Nat.le_trans hB hb.size) om hkm om hps'
     have hrs:=upF_size x (Nat.le_of_eq hx) k i p (ps.take m);rw [if_pos hip] at HV;obtain ⟨⟨r,ok⟩,hr⟩:∃r,upF k x i p (ps.take m)=r:=⟨_,rfl⟩
     rw [hr] at HR HV hrs;dsimp only at hrs;have HND:Hid (∀V,Below w.heap.size w V→Calls Tryz.prog 168 #[.string r,.string z] V fun e w'=>e= .returned (.string (ndS r z))∧Below V.heap.size V w'):=fun V hb=>ycq r z V (hG.on hb) om om
     rw [HV.out];clear hp hps hx hgz hz32 hlt1 hlt2 hp1 hA1 hS0 hS1 hr hrs hps' ih f1 f2 HSL hG hb1 hip;go_enter Tryz.func149,Tryz.ntmps149
     go_wp2_with fail
     refine wp_region_held_drew (S:=(fun w'=>w'.cell? ⟨b1,o1+m,none⟩=some (.string z))) yaV (by first |exact hcz |go_keep) (fun hHeld=>?_);refine tkY 0 ?_;refine tkY 1 ?_;refine tkY 2 ?_;refine tkY 3 ?_;refine tkY 4 ?_;refine tkY 5 ?_;refine tkY 6 ?_;refine tkY 7 ?_;refine tkY 8 ?_;refine tkY 9 ?_;refine tkY 10 ?_;refine tkY 11 ?_;refine tkY 12 ?_;refine wpAnyH_done yaV ?_ _;clear hwm hmI hmI2 hsl1 hmlt hmlt2
     go_wp2_with (first
      |(go_at_call 167;(with_reducible refine (HSPL.out _).mono ?_);rintro e W1 ⟨rfl,rfl⟩)
      |(go_at_call 149;(with_reducible refine (HR.out _ yav).mono ?_);rintro e w2 ⟨rfl,hb2⟩;(have HB:Hid (Below w.heap.size w w2):=Below.trans (B:=w.heap.size) yav (hb2.mono nl));(have HN2:=lh (HND.out w2 HB.out));clear hb2)
      |(go_at_call 168;(with_reducible refine HN2.out.mono ?_);rintro e w3 ⟨rfl,hb3⟩;(have HB:Hid (Below w.heap.size w w3):=HB.out.trans (hb3.mono HB.out.size));clear hb3))
     go_ret2;exact ⟨rfl,HB.out⟩
    ·have hipI:¬(i:Int) < (p:Int):=by omega
     have hpiI:(i:Int) - (p:Int)=((i - p:Nat):Int):=by omega
     have hpnI:(n:Int) - (p:Int)=((n - p:Nat):Int):=by omega
     have HR:Hid (∀V,Below w.heap.size w V→Calls Tryz.prog 149 #[.string x,.int .i64 ((i - p:Nat):Int),.int .i64 ((n - p:Nat):Int),.slice A1 m c] V fun e w'=>e= .returned (.tuple #[.string (upF k x (i - p) (n - p) (ps.take m)).1,.bool (upF k x (i - p) (n - p) (ps.take m)).2])∧Below V.heap.size V w'):=fun V hb=>
      ih x (i - p) (n - p) A1 m c B (ps.take m) V (hG.on hb) hx om om (HSL.out V hb) (Nat.le_trans hB hb.size) om hkm om hps'
     have hrs:=upF_size x (Nat.le_of_eq hx) k (i - p) (n - p) (ps.take m);rw [if_neg hip] at HV;obtain ⟨⟨r,ok⟩,hr⟩:∃r,upF k x (i - p) (n - p) (ps.take m)=r:=⟨_,rfl⟩
     rw [hr] at HR HV hrs;dsimp only at hrs;have HND:Hid (∀V,Below w.heap.size w V→Calls Tryz.prog 168 #[.string z,.string r] V fun e w'=>e= .returned (.string (ndS z r))∧Below V.heap.size V w'):=fun V hb=>ycq z r V (hG.on hb) om om
     rw [HV.out];obtain ⟨ip,hip2⟩:∃q,i - p=q:=⟨_,rfl⟩
     obtain ⟨np,hnp2⟩:∃q,n - p=q:=⟨_,rfl⟩
     rw [hip2] at HR hpiI;rw [hnp2] at HR hpnI;clear hp hps hx hgz hz32 hlt1 hlt2 hp1 hA1 hS0 hS1 hr hrs hps' ih f1 f2 HSL hG hb1 hip hip2 hnp2;go_enter Tryz.func149,Tryz.ntmps149
     go_wp2_with fail
     refine wp_region_held_drew (S:=(fun w'=>w'.cell? ⟨b1,o1+m,none⟩=some (.string z))) yaV (by first |exact hcz |go_keep) (fun hHeld=>?_);refine tkY 0 ?_;refine tkY 1 ?_;refine tkY 2 ?_;refine tkY 3 ?_;refine tkY 4 ?_;refine tkY 5 ?_;refine tkY 6 ?_;refine tkY 7 ?_;refine tkY 8 ?_;refine tkY 9 ?_;refine tkY 10 ?_;refine tkY 11 ?_;refine tkY 12 ?_;refine wpAnyH_done yaV ?_ _;clear hwm hmI hmI2 hsl1 hmlt hmlt2
     go_wp2_with (first
      |(go_at_call 167;(with_reducible refine (HSPL.out _).mono ?_);rintro e W1 ⟨rfl,rfl⟩)
      |(go_at_call 149;(with_reducible refine (HR.out _ yav).mono ?_);rintro e w2 ⟨rfl,hb2⟩;(have HB:Hid (Below w.heap.size w w2):=Below.trans (B:=w.heap.size) yav (hb2.mono nl));(have HN2:=lh (HND.out w2 HB.out));clear hb2)
      |(go_at_call 168;(with_reducible refine HN2.out.mono ?_);rintro e w3 ⟨rfl,hb3⟩;(have HB:Hid (Below w.heap.size w w3):=HB.out.trans (hb3.mono HB.out.size));clear hb3))
     go_ret2;exact ⟨rfl,HB.out⟩
theorem mis_any (x:ByteArray) (hx:x.size=32) (w:World):Calls Tryz.prog 147 #[.string x] w fun e w'=>e= .returned (.bool true)∧w=w':=by
 have h1:((x.size:Int)==32)=true:=by simp [hx]
 go_enter Tryz.func147,Tryz.ntmps147;go_wp2;go_ret;exact ⟨rfl,rfl⟩
theorem masums_any (A:Option Addr) (n c B:Nat) (ys:List ByteArray) (w:World) (hx:Sl fT w B A n ys) (hn:n≤1000000) (hy:∀s∈ys,s.size=32):
 Calls Tryz.prog 148 #[.slice A n c] w fun e w'=>e= .returned (.bool true)∧w=w':=by
 have HX:=lh hx;have HXN:Hid (ys.length=n):=hx.1;have HY:=lh hy;clear hx hy;go_enter Tryz.func148,Tryz.ntmps148;go_wp2
 go_loopw [7] (fun i wr=>(∃k:Nat,k≤n∧i= .int .i64 k)∧w=wr) (fun i _=>n - (intOf i).toNat)
 case atStart=>exact ⟨⟨0,by omega,rfl⟩,rfl⟩
 case round=>
  obtain ⟨⟨k,hk,rfl⟩,rfl⟩:=hrel
  by_cases hlt:k < n
  ·obtain ⟨b1,o1,x,rfl,_,hg,hc⟩:=HX.out.2.at_ (k:=k) yaR
   have hkI:(k:Int) < (n:Int):=by omega
   have hk0:(0:Int)≤(k:Int):=by omega
   have HC:=lh (fun W=>mis_any x (HY.out x (List.mem_of_getElem? hg)) W);clear hg
   go_wp2_with (go_at_call 147;(with_reducible refine (HC.out _).mono ?_);rintro e w5 ⟨rfl,rfl⟩)
   refine ⟨?rel,?measure⟩
   case rel=>exact ⟨⟨k+1,by omega,by go_num⟩,by first |rfl |trivial⟩
   case measure=>(simp [intOf]<;>omega)
  ·obtain rfl:k=n:=by omega
   go_wp2;go_ret;exact ⟨rfl,by first |rfl |trivial⟩
def mvB (x:ByteArray) (i n:Nat) (ps:List ByteArray) (rt:ByteArray):Bool:=(upF 8 x i n ps).2&&decide ((upF 8 x i n ps).1=rt)
theorem mverify_any (x:ByteArray) (i n:Nat) (A:Option Addr) (m c B:Nat) (ps:List ByteArray) (rt:ByteArray) (w:World) (hG:Glob w) (hx:x.size=32) (hr:rt.size=32) (hin:i < n) (hn:n≤256) (hp:Sl fT w B A m ps) (hB:B≤w.heap.size) (hmc:m≤c) (hm:m≤8) (hps:∀s∈ps,s.size=32):
 Calls Tryz.prog 88 #[.string x,.int .i64 i,.int .i64 n,.slice A m c,.string rt] w fun e w'=>e= .returned (.bool (mvB x i n ps rt))∧Below w.heap.size w w':=by
 have HX:=lh (fun W=>mis_any x hx W);have HR:=lh (fun W=>mis_any rt hr W);have HP:=lh (masums_any A m c B ps w hp om hps);have HC:=lh (climb_any 8 x i n A m c B ps w hG hx hin hn hp hB hmc hm om hps);have HV:Hid (mvB x i n ps rt=((upF 8 x i n ps).2&&decide ((upF 8 x i n ps).1=rt))):=rfl;obtain ⟨⟨r,ok⟩,hu⟩:∃r,upF 8 x i n ps=r:=⟨_,rfl⟩
 rw [hu] at HC HV;rw [HV.out];have h1:decide ((i:Int) < 0)=false:=by simp
 have h2:decide ((n:Int)≤(i:Int))=false:=by simp;omega
 have h3:decide (n≤i)=false:=by simp;omega
 rw [beqN r rt];clear hG hp hps hx hr hu HV
 cases ok
 all_goals
  go_enter Tryz.func88,Tryz.ntmps88
  go_wp2_with (first
   |(go_at_call 147;(first |(with_reducible refine (HX.out _).mono ?_) |(with_reducible refine (HR.out _).mono ?_));rintro e w5 ⟨rfl,rfl⟩)
   |(go_at_call 148;(with_reducible refine HP.out.mono ?_);rintro e w5 ⟨rfl,rfl⟩)
   |(go_at_call 149;(with_reducible refine HC.out.mono ?_);rintro e w6 ⟨rfl,hb6⟩;(have HB6:=lh hb6);clear hb6))
  go_ret;exact ⟨by rfl,HB6.out⟩
