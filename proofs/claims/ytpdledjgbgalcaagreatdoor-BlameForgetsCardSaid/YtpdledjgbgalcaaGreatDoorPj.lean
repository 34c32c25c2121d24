/- Root of leaves, both. Blocks and Of, both, at any data. A piece verified, by the program: any piece. -/
import Derived.Test.YtpdledjgbgalcaaGreatDoorPe
import Derived.StillTailTactics
import Derived.Deep.RegionHeld3
namespace Go.Proofs.YtpdledjgbgalcaaGreatDoor
set_option maxRecDepth 100000
set_option maxHeartbeats 8000000
open Go.RowKit Go.Lib
set_option linter.unusedVariables false
set_option linter.unusedSimpArgs false
def rootF:Nat→List ByteArray→ByteArray
 |0,_=>baOf (shaB [])
 |k+1,ls=>if ls.length≤1 then ls.headD ⟨#[]⟩ else ndS (rootF k (ls.take (spl ls.length))) (rootF k (ls.drop (spl ls.length)))
theorem ycE:∀(k:Nat) (ls:List ByteArray),(∀s∈ls,s.size=32)→1≤ls.length→(rootF k ls).size=32
 |0,ls,_,_=>by
  unfold rootF;rw [←ya9,ybi (ybN _),ybA]
 |k+1,ls,h,h1=>by
  rw [rootF]
  split
  ·cases ls with
   |nil=>simp at h1
   |cons a t=>exact h a List.mem_cons_self
  ·exact ydI _ _
theorem ycv {P:Program} (t e:Nat) (i:TypeInfo) (ht:P.underlying t=some (.slice e)) (hi:P.info? e=some i) (hs:i.size=1) (A:Option Addr) (n c:Nat) (h:Nat) (h2:h≤c) (w:World):
 (Instr.slice t (.slice A n c) none (some (.int .i64 (h:Int))) none).run P w= .ok (.slice (if c=0 then A else A.map (·.add 0)) h c) w:=by
 simp [Instr.slice,run_underlying ht,Instr.sliceBounds,run_sliceBound w .i64 (h:Int) c _ om om,sizeOf,typeInfo,hi,hs]
theorem Sl.partT {w:World} {B n c:Nat} {A:Option Addr} {xs:List ByteArray} (h:Sl fT w B A n xs) (l k:Nat) (hl:l+k≤n) (hc:n≤c):Sl fT w B (if c=l then A else A.map (·.add l)) k ((xs.drop l).take k):=by
 have h1:=h.1;refine ⟨by rw [List.length_take,List.length_drop];omega,?_⟩;exact ((h.2.cut (n:=l) (cap:=c) om).take_ k)
theorem yc4:∀(k:Nat) (A:Option Addr) (n c B:Nat) (ls:List ByteArray) (w:World) (hG:Glob w),Sl fT w B A n ls→B≤w.heap.size→n≤c→ls.length≤k→1≤n→n≤256→(∀s∈ls,s.size=32)→
 Calls Tryz.prog 102 #[.slice A n c] w fun e w'=>e= .returned (.string (rootF k ls))∧Below w.heap.size w w'
 |0,A,n,c,B,ls,w,hG,hx,hB,hc,hk,h1,h2,hs=>by have:=hx.1;omega
 |k+1,A,n,c,B,ls,w,hG,hx,hB,hc,hk,h1,h2,hs=>by
  have hl:ls.length=n:=hx.1
  by_cases hn1:n=1
  ·subst hn1
   obtain ⟨b1,o1,x,rfl,_,hg,hcc⟩:=hx.2.at_ (k:=0) om
   have HV:Hid (rootF (k+1) ls=x):=by
    show _=_
    rw [rootF,if_pos om]
    cases ls with
    |nil=>cases hg
    |cons a t=>simpa using hg
   rw [Nat.add_zero] at hcc;clear hx hg hs hl;go_enter Tryz.func102,Tryz.ntmps102;go_wp2;go_ret;exact ⟨by rw [HV.out];rfl,Below.refl _ _⟩
  ·obtain ⟨f1,f2,f3,f4,f5⟩:=ycr (n:=n) om h2
   have HV:Hid (rootF (k+1) ls=ndS (rootF k (ls.take (spl n))) (rootF k (ls.drop (spl n)))):=by
    show _=_
    rw [rootF,if_neg om,hl]
   obtain ⟨p,hp⟩:∃p,spl n=p:=⟨_,rfl⟩
   have HSPL:=lh (fun W=>msplit_any n om h2 W);rw [hp] at HSPL HV f3 f4 f5;obtain ⟨iS,hS0,_,hS1,_⟩:=info_parts Tryz.infoS;obtain ⟨A1,hA1⟩:∃A1,(if c=0 then A else A.map (·.add 0))=A1:=⟨_,rfl⟩
   obtain ⟨A2,hA2⟩:∃A2,(if c=p then A else A.map (·.add p))=A2:=⟨_,rfl⟩
   have hsl1:=ycv (P:=Tryz.prog) 24 9 iS Tryz.underlying24 hS0 hS1 A n c p om;have hsl2:=fun W=>ybk (P:=Tryz.prog) 24 9 iS Tryz.underlying24 hS0 hS1 A n c .i64 p p rfl om hc W
   rw [hA1] at hsl1;rw [hA2] at hsl2
   have HX1:Hid (∀W,Below w.heap.size w W→Sl fT W B A1 p (ls.take p)):=fun W hb=>by
    have:=(hx.up hb hB).partT (c:=c) 0 p om hc
    rw [hA1,List.drop_zero] at this;exact this
   have HX2:Hid (∀W,Below w.heap.size w W→Sl fT W B A2 (n - p) (ls.drop p)):=fun W hb=>by
    have:=(hx.up hb hB).partT (c:=c) p (n - p) om hc
    rw [hA2,List.take_of_length_le yaN] at this;exact this
   have HR1:Hid (∀W,Below w.heap.size w W→Calls Tryz.prog 102 #[.slice A1 p c] W fun e w'=>e= .returned (.string (rootF k (ls.take p)))∧Below W.heap.size W w'):=fun W hb=>
    yc4 k A1 p c B (ls.take p) W (hG.on hb) (HX1.out W hb) (Nat.le_trans hB hb.size) om (by rw [List.length_take];omega) f3 om (fun s h=>hs s (List.mem_of_mem_take h))
   have HR2:Hid (∀W,Below w.heap.size w W→Calls Tryz.prog 102 #[.slice A2 (n - p) (c - p)] W fun e w'=>e= .returned (.string (rootF k (ls.drop p)))∧Below W.heap.size W w'):=fun W hb=>
    yc4 k A2 (n - p) (c - p) B (ls.drop p) W (hG.on hb) (HX2.out W hb) (Nat.le_trans hB hb.size) om yaN om om (fun s h=>hs s (List.mem_of_mem_drop h))
   have hz1:(rootF k (ls.take p)).size=32:=ycE k _ (fun s h=>hs s (List.mem_of_mem_take h)) (by rw [List.length_take];omega);have hz2:(rootF k (ls.drop p)).size=32:=ycE k _ (fun s h=>hs s (List.mem_of_mem_drop h)) yaN;obtain ⟨ra,hra⟩:∃r,rootF k (ls.take p)=r:=⟨_,rfl⟩
   obtain ⟨rb,hrb⟩:∃r,rootF k (ls.drop p)=r:=⟨_,rfl⟩
   rw [hra] at HR1 HV hz1;rw [hrb] at HR2 HV hz2;have HND:Hid (∀W,Below w.heap.size w W→Calls Tryz.prog 168 #[.string ra,.string rb] W fun e w'=>e= .returned (.string (ndS ra rb))∧Below W.heap.size W w'):=fun W hb=>ycq ra rb W (hG.on hb) om om
   have hn0:((n:Int)==0)=false:=by simp;omega
   have hn11:((n:Int)==1)=false:=by simp;omega
   have hpn:(p:Int)≤(n:Int):=by omega
   have HB:Hid (Below w.heap.size w w):=Below.refl _ _;clear hx hra hrb hz1 hz2 hA1 hA2 HX1 HX2 hs hS0 hS1 hp f1 f2 hG;go_enter Tryz.func102,Tryz.ntmps102
   go_upto_region 7 with (go_at_call 167;(with_reducible refine (HSPL.out _).mono ?_);rintro e W1 ⟨rfl,rfl⟩)
   refine wp_region_held_drew (S:=(fun _=>True)) yaV yaX (fun hHeld=>?_);refine tkY 0 ?_;refine tkY 1 ?_;refine tkY 2 ?_;refine tkY 4 ?_;refine tkY 5 ?_;refine tkY 6 ?_;refine rd1 3 (fun K hK=>?_)
   (go_simp;go_at_call 102;(with_reducible refine (HR1.out _ yav).mono ?_);rintro e W6 ⟨rfl,b6⟩;(have HB:Hid (Below w.heap.size w W6):=(Below.trans (B:=w.heap.size) yav (b6.mono yaK)));clear b6;go_wp2_with fail)
   refine hK.out _ _ yaX (fun hHeldr6=>?_);clear hK K hHeld
   try simp only [pt]
   refine rd1 7 (fun K hK=>?_)
   (go_simp;go_at_call 102;(with_reducible refine (HR2.out _ yav).mono ?_);rintro e W6 ⟨rfl,b6⟩;(have HB:Hid (Below w.heap.size w W6):=(Below.trans (B:=w.heap.size) yav (b6.mono yaK)));clear b6;go_wp2_with fail)
   refine hK.out _ _ yaX (fun hHeldr7=>?_);clear hK K hHeldr6
   try simp only [pt]
   refine rd1 8 (fun K hK=>?_)
   (go_simp;go_at_call 168;(with_reducible refine (HND.out _ yav).mono ?_);rintro e W6 ⟨rfl,b6⟩;(have HB:Hid (Below w.heap.size w W6):=(Below.trans (B:=w.heap.size) yav (b6.mono yaK)));clear b6;go_wp2_with fail)
   refine hK.out _ _ yaX (fun hHeldr8=>?_);clear hK K hHeldr7
   try simp only [pt]
   refine tkY 9 ?_;refine wpAnyH_done yaV ?_ _
   go_wp2_with fail
   go_ret;exact ⟨by rw [HV.out];rfl,HB.out⟩
theorem yc5:∀(k:Nat) (A:Option Addr) (n c B:Nat) (ls:List ByteArray) (w:World),Sl fT w B A n ls→B≤w.heap.size→n≤c→ls.length≤k→1≤n→n≤256→(∀s∈ls,s.size=32)→
 Calls Tryz.prog 65 #[.slice A n c] w fun e w'=>e= .returned (.string (rootF k ls))∧Below w.heap.size w w'
 |0,A,n,c,B,ls,w,hx,hB,hc,hk,h1,h2,hs=>by have:=hx.1;omega
 |k+1,A,n,c,B,ls,w,hx,hB,hc,hk,h1,h2,hs=>by
  have hl:ls.length=n:=hx.1
  by_cases hn1:n=1
  ·subst hn1
   obtain ⟨b1,o1,x,rfl,_,hg,hcc⟩:=hx.2.at_ (k:=0) om
   have HV:Hid (rootF (k+1) ls=x):=by
    show _=_
    rw [rootF,if_pos om]
    cases ls with
    |nil=>cases hg
    |cons a t=>simpa using hg
   rw [Nat.add_zero] at hcc;clear hx hg hs hl;go_enter Tryz.func65,Tryz.ntmps65;go_wp2;go_ret;exact ⟨by rw [HV.out];rfl,Below.refl _ _⟩
  ·obtain ⟨f1,f2,f3,f4,f5⟩:=ycr (n:=n) om h2
   have HV:Hid (rootF (k+1) ls=ndS (rootF k (ls.take (spl n))) (rootF k (ls.drop (spl n)))):=by
    show _=_
    rw [rootF,if_neg om,hl]
   obtain ⟨p,hp⟩:∃p,spl n=p:=⟨_,rfl⟩
   have HSPL:=lh (fun W=>rsplit_any n om h2 W);rw [hp] at HSPL HV f3 f4 f5;obtain ⟨iS,hS0,_,hS1,_⟩:=info_parts Tryz.infoS;obtain ⟨A1,hA1⟩:∃A1,(if c=0 then A else A.map (·.add 0))=A1:=⟨_,rfl⟩
   obtain ⟨A2,hA2⟩:∃A2,(if c=p then A else A.map (·.add p))=A2:=⟨_,rfl⟩
   have hsl1:=ycv (P:=Tryz.prog) 24 9 iS Tryz.underlying24 hS0 hS1 A n c p om;have hsl2:=fun W=>ybk (P:=Tryz.prog) 24 9 iS Tryz.underlying24 hS0 hS1 A n c .i64 p p rfl om hc W
   rw [hA1] at hsl1;rw [hA2] at hsl2
   have HX1:Hid (∀W,Below w.heap.size w W→Sl fT W B A1 p (ls.take p)):=fun W hb=>by
    have:=(hx.up hb hB).partT (c:=c) 0 p om hc
    rw [hA1,List.drop_zero] at this;exact this
   have HX2:Hid (∀W,Below w.heap.size w W→Sl fT W B A2 (n - p) (ls.drop p)):=fun W hb=>by
    have:=(hx.up hb hB).partT (c:=c) p (n - p) om hc
    rw [hA2,List.take_of_length_le yaN] at this;exact this
   have HR1:Hid (∀W,Below w.heap.size w W→Calls Tryz.prog 65 #[.slice A1 p c] W fun e w'=>e= .returned (.string (rootF k (ls.take p)))∧Below W.heap.size W w'):=fun W hb=>
    yc5 k A1 p c B (ls.take p) W (HX1.out W hb) (Nat.le_trans hB hb.size) om (by rw [List.length_take];omega) f3 om (fun s h=>hs s (List.mem_of_mem_take h))
   have HR2:Hid (∀W,Below w.heap.size w W→Calls Tryz.prog 65 #[.slice A2 (n - p) (c - p)] W fun e w'=>e= .returned (.string (rootF k (ls.drop p)))∧Below W.heap.size W w'):=fun W hb=>
    yc5 k A2 (n - p) (c - p) B (ls.drop p) W (HX2.out W hb) (Nat.le_trans hB hb.size) om yaN om om (fun s h=>hs s (List.mem_of_mem_drop h))
   have hz1:(rootF k (ls.take p)).size=32:=ycE k _ (fun s h=>hs s (List.mem_of_mem_take h)) (by rw [List.length_take];omega);have hz2:(rootF k (ls.drop p)).size=32:=ycE k _ (fun s h=>hs s (List.mem_of_mem_drop h)) yaN;obtain ⟨ra,hra⟩:∃r,rootF k (ls.take p)=r:=⟨_,rfl⟩
   obtain ⟨rb,hrb⟩:∃r,rootF k (ls.drop p)=r:=⟨_,rfl⟩
   rw [hra] at HR1 HV hz1;rw [hrb] at HR2 HV hz2;have HND:Hid (∀W,Below w.heap.size w W→Calls Tryz.prog 125 #[.string ra,.string rb] W fun e w'=>e= .returned (.string (ndS ra rb))∧Below W.heap.size W w'):=fun W hb=>rnode_any ra rb W om om
   have hn0:((n:Int)==0)=false:=by simp;omega
   have hn11:((n:Int)==1)=false:=by simp;omega
   have hpn:(p:Int)≤(n:Int):=by omega
   have HB:Hid (Below w.heap.size w w):=Below.refl _ _;clear hx hra hrb hz1 hz2 hA1 hA2 HX1 HX2 hs hS0 hS1 hp f1 f2;go_enter Tryz.func65,Tryz.ntmps65
   go_upto_region 7 with (go_at_call 124;(with_reducible refine (HSPL.out _).mono ?_);rintro e W1 ⟨rfl,rfl⟩)
   refine wp_region_held_drew (S:=(fun _=>True)) yaV yaX (fun hHeld=>?_);refine tkY 0 ?_;refine tkY 1 ?_;refine tkY 2 ?_;refine tkY 4 ?_;refine tkY 5 ?_;refine tkY 6 ?_;refine rd1 3 (fun K hK=>?_)
   (go_simp;go_at_call 65;(with_reducible refine (HR1.out _ yav).mono ?_);rintro e W6 ⟨rfl,b6⟩;(have HB:Hid (Below w.heap.size w W6):=(Below.trans (B:=w.heap.size) yav (b6.mono yaK)));clear b6;go_wp2_with fail)
   refine hK.out _ _ yaX (fun hHeldr6=>?_);clear hK K hHeld
   try simp only [pt]
   refine rd1 7 (fun K hK=>?_)
   (go_simp;go_at_call 65;(with_reducible refine (HR2.out _ yav).mono ?_);rintro e W6 ⟨rfl,b6⟩;(have HB:Hid (Below w.heap.size w W6):=(Below.trans (B:=w.heap.size) yav (b6.mono yaK)));clear b6;go_wp2_with fail)
   refine hK.out _ _ yaX (fun hHeldr7=>?_);clear hK K hHeldr6
   try simp only [pt]
   refine rd1 8 (fun K hK=>?_)
   (go_simp;go_at_call 125;(with_reducible refine (HND.out _ yav).mono ?_);rintro e W6 ⟨rfl,b6⟩;(have HB:Hid (Below w.heap.size w W6):=(Below.trans (B:=w.heap.size) yav (b6.mono yaK)));clear b6;go_wp2_with fail)
   refine hK.out _ _ yaX (fun hHeldr8=>?_);clear hK K hHeldr7
   try simp only [pt]
   refine tkY 9 ?_;refine wpAnyH_done yaV ?_ _
   go_wp2_with fail
   go_ret;exact ⟨by rw [HV.out];rfl,HB.out⟩
def blkU:Nat→List Int→List ByteArray
 |0,_=>[]
 |k+1,xs=>if xs.length=0 then [] else leafS (xs.take 512)::blkU k (xs.drop 512)
theorem blkU_nil (k:Nat) (xs:List Int) (h:xs.length=0):blkU k xs=[]:=by
 cases k with
 |zero=>rfl
 |succ k=>rw [blkU,if_pos h]
theorem ycL (xs:List Int):(leafS xs).size=32:=by unfold leafS;rw [←ya9,ybi (ybN _),ybA]
theorem blkU_size:∀(k:Nat) (xs:List Int),∀s∈blkU k xs,s.size=32
 |0,_,s,h=>by cases h
 |k+1,xs,s,h=>by
  rw [blkU] at h
  split at h
  ·cases h
  ·rcases List.mem_cons.1 h with h1 |h1
   ·rw [h1];exact ycL _
   ·exact blkU_size k _ s h1
theorem blkU_len:∀(k:Nat) (xs:List Int),(blkU k xs).length*512≤xs.length+511
 |0,xs=>by show 0*512≤xs.length+511;omega
 |k+1,xs=>by
  rw [blkU]
  split
  ·show 0*512≤xs.length+511;omega
  ·have:=blkU_len k (xs.drop 512)
   rw [List.length_drop] at this;rw [List.length_cons];omega
theorem blkU_pos (k:Nat) (xs:List Int) (h:0 < xs.length):1≤(blkU (k+1) xs).length:=by
 rw [blkU,if_neg om,List.length_cons];omega
theorem Sl.partU {α:Type} {f:α→Value} {w:World} {B n c:Nat} {A:Option Addr} {xs:List α} (h:Sl f w B A n xs) (l k:Nat) (hl:l+k≤n) (hc:n≤c):Sl f w B (if c=l then A else A.map (·.add l)) k ((xs.drop l).take k):=by
 have h1:=h.1;refine ⟨by rw [List.length_take,List.length_drop];omega,?_⟩;exact ((h.2.cut (n:=l) (cap:=c) om).take_ k)
theorem Sl.head {f:Int→Value} {w:World} {B n:Nat} {A:Option Addr} {xs:List Int} (h:Sl f w B A n xs) (m:Nat) (hm:m≤n):Sl f w B A m (xs.take m):=
 ⟨by rw [List.length_take,h.1];omega,h.2.take_ m⟩
theorem mblocks_any (A:Option Addr) (n c B:Nat) (xs:List Int) (w:World) (hG:Glob w) (hc:n≤c) (hx:Sl fB w B A n xs) (hB:B≤w.heap.size) (hl:n≤65536) (hxb:Byt xs):
 Calls Tryz.prog 166 #[.slice A n c,.int .i64 512] w fun e w'=>∃v,e= .returned (.tuple #[v,.int .i64 0])∧Own fT 9 w' w.heap.size v (blkU (xs.length+1) xs)∧Below w.heap.size w w':=by
 obtain ⟨i0,hi,hz0,hz1,hz2⟩:=info_parts Tryz.infoS;have HI:=lh hi;have HZ0:=lh hz0;have HZ1:=lh hz1;have HZ2:=lh hz2;obtain ⟨iB,hB0,_,hB1,_⟩:=info_parts Tryz.infoB;have HB0:Hid (Below w.heap.size w w):=Below.refl _ _;have HO0:Hid (Own fT 9 w w.heap.size (.slice none 0 0) []):=Own.nil;have HBB:=lh hB
 have HC:Hid (∀(W:World) (A':Option Addr) (m c':Nat) (ys:List Int),Below w.heap.size w W→Sl fB W B A' m ys→m≤c'→m≤512→Byt ys→0 < m→Calls Tryz.prog 151 #[.slice A' m c'] W fun e w'=>e= .returned (.string (leafS ys))∧Below W.heap.size W w'):=fun W A' m c' ys hb hs hc hm hy h0=>
  ycU A' m c' B ys W (hG.on hb) hs hc (Nat.le_trans hB hb.size) om hy (fun a ha=>by
     obtain ⟨b,off,e,hlt⟩:=hs.at0 h0;rw [ha] at e
     cases e
     exact Nat.lt_of_lt_of_le hlt (Nat.le_trans hB hb.size))
 have HX0:Hid (Sl fB w B A n xs):=hx.up HB0.out hB;have HXB:=lh hxb;have h1m:¬(1048576:Int) < (n:Int):=by omega
 have HSL:=lh (fun (A':Option Addr) (r c' m:Nat) (h:m≤c') (W:World)=>ybs (P:=Tryz.prog) 40 5 iB Tryz.underlying40 hB0 A' r c' .i64 (m:Int) m rfl h W);have HSF:=lh (fun (A':Option Addr) (r c' m:Nat) (h:m≤r) (h2:r≤c') (W:World)=>ybk (P:=Tryz.prog) 40 5 iB Tryz.underlying40 hB0 hB1 A' r c' .i64 (m:Int) m rfl h h2 W);have hlx:xs.length=n:=hx.1;clear hi hz0 hz1 hz2 hx hxb hG hB hB0 hB1;go_enter Tryz.func166,Tryz.ntmps166
 go_upto_region 6 with fail
 skip
 go_loopw [0,6] (fun x v wr=>∃(k r c':Nat) (A':Option Addr) (ys:List Int) (dn:List ByteArray),x= .slice A' r c'∧r≤c'∧r≤65536∧r≤k∧dn.length+r≤65536∧Hid (Sl fB wr B A' r ys)∧Hid (Byt ys)∧Hid (blkU (xs.length+1) xs=dn++blkU k ys)∧Hid (Own fT 9 wr w.heap.size v dn)∧Hid (Below w.heap.size w wr)) (fun x _ _=>ycf x)
 case atStart=>exact ⟨xs.length+1,n,c,A,xs,[],rfl,hc,hl,by omega,by simpa using hl,HX0,HXB,rfl,HO0,HB0⟩
 case round=>
  obtain ⟨k,r,c',A',ys,dn,rfl,hrc,hr,hrk,hdn,HS,HY,HE,HO,HB⟩:=hrel
  by_cases hr0:r=0
  ·subst hr0
   have HD:Hid (blkU (xs.length+1) xs=dn):=by show _=_;rw [HE.out,blkU_nil k ys HS.out.1,List.append_nil]
   go_wp2;go_ret2;exact ⟨_,rfl,by rw [HD.out];exact HO.out,HB.out⟩
  ·have h0I:(0:Int) < (r:Int):=by omega
   obtain ⟨k,rfl⟩:∃k',k=k'+1:=⟨k - 1,by omega⟩
   obtain ⟨m,hm⟩:∃m,min r 512=m:=⟨_,rfl⟩
   have hm1:0 < m∧m≤512∧m≤r:=by omega
   have hmin:(if (r:Int) < 512 then (r:Int) else 512)=(m:Int):=by split<;>omega
   have htk:ys.take 512=ys.take m:=by
    have h1:=HS.out.1;rcases Nat.lt_or_ge r 512 with c |c
    ·rw [List.take_of_length_le om,List.take_of_length_le om]
    ·rw [show m=512 by omega]
   have hdr:ys.drop 512=ys.drop m:=by
    have h1:=HS.out.1;rcases Nat.lt_or_ge r 512 with c |c
    ·rw [List.drop_eq_nil_of_le om,List.drop_eq_nil_of_le om]
    ·rw [show m=512 by omega]
   have HE2:Hid (blkU (xs.length+1) xs=(dn++[leafS (ys.take m)])++blkU k (ys.drop m)):=by
    show _=_
    rw [HE.out,blkU,if_neg (by rw [HS.out.1];exact hr0),htk,hdr,List.append_assoc]
    rfl
   obtain ⟨A2,hA2⟩:∃A2,(if c'=m then A' else A'.map (·.add m))=A2:=⟨_,rfl⟩
   have hs1:=HSL.out A' r c' m om;have hs2:=HSF.out A' r c' m hm1.2.2 hrc;rw [hA2] at hs2;have HCL:=lh (HC.out wr A' m c' (ys.take m) HB.out (HS.out.head m hm1.2.2) om hm1.2.1 (HY.out.take m) hm1.1)
   have HS2:Hid (∀W,Below w.heap.size wr W→Sl fB W B A2 (r - m) (ys.drop m)):=fun W hb=>by
    have h3:=(HS.out.up hb HBB.out).partU (c:=c') m (r - m) om hrc;rw [hA2,List.take_of_length_le (by rw [List.length_drop,HS.out.1];omega)] at h3;exact h3
   have HY2:Hid (Byt (ys.drop m)):=HY.out.drop m;have HK1:Hid ((dn.length+1)*16≤140737488355328):=by show _≤_;omega
   have HK2:Hid (dn.length+1≤maxLen):=by show _≤_;unfold maxLen;omega
   generalize leafS (ys.take m)=lf at HCL HE2;generalize ys.drop m=ys2 at HS2 HY2 HE2;clear htk hdr hA2 hm HE HS HY
   go_upto_region 9 with (first
    |(go_at_call 151;(with_reducible refine HCL.out.mono ?_);rintro e w1 ⟨rfl,hb1⟩;(have HB1:=lh hb1);(have HO1:Hid (Own fT 9 w1 w.heap.size u6 dn):=HO.out.on HB1.out);(have HS1:Hid (w.heap.size≤w1.heap.size):=Nat.le_trans HB.out.size HB1.out.size);clear hb1)
    |(at_builtin;(with_reducible refine ya4 (o:=⟨some 26,_,_,_,_,_⟩) rfl (.tmp 20) (.tmp 25) 24 rfl 9 i0 (.string ⟨#[]⟩) 16 Tryz.underlying24 HI.out HZ0.out HZ1.out HZ2.out rfl _ dn w.heap.size rfl HO1.out lf 1 rfl fT1 HK1.out HK2.out HS1.out ?_);intro v2 w2 HO2 HG2 HV2))
   have hb2:Below w.heap.size wr w2:=(HB1.out.mono HB.out.size).trans (yaY HG2.out (fun j hj=>(World.ownsRow.lt HO1.out j hj).1) HS1.out);have HB2:Hid (Below w.heap.size w w2):=HB.out.trans hb2;have HSN:=lh (HS2.out w2 hb2);clear hs1 hmin;go_wp2
   all_goals refine ⟨?rel,?measure⟩
   all_goals first
    |exact ⟨k,r - m,c' - m,A2,ys2,dn++[lf],rfl,by omega,by omega,by omega,by rw [List.length_append];simp only [List.length_cons,List.length_nil];omega,HSN,HY2,HE2,HO2,HB2⟩
    |(show r - m < r;omega)
theorem mof_any (A:Option Addr) (n c B:Nat) (xs:List Int) (w:World) (hG:Glob w) (hc:n≤c) (hx:Sl fB w B A n xs) (hB:B≤w.heap.size) (h0:0 < n) (hl:n≤65536) (hxb:Byt xs):
 Calls Tryz.prog 101 #[.slice A n c,.int .i64 512] w fun e w'=>e= .returned (.tuple #[.string (rootF 256 (blkU (xs.length+1) xs)),.int .i64 0])∧Below w.heap.size w w':=by
 have HC:=lh (mblocks_any A n c B xs w hG hc hx hB hl hxb);have hlen:=blkU_len (xs.length+1) xs;have hpos:=blkU_pos xs.length xs (by have:=hx.1;omega);have hlx:xs.length=n:=hx.1;have hsz:=blkU_size (xs.length+1) xs;obtain ⟨L,hL⟩:∃L,blkU (xs.length+1) xs=L:=⟨_,rfl⟩
 rw [hL] at HC hlen hpos hsz ⊢;clear hL
 have HR:Hid (∀W A' n' c',Below w.heap.size w W→Own fT 9 W w.heap.size (.slice A' n' c') L→n'=L.length→n'≤c'→Calls Tryz.prog 102 #[.slice A' n' c'] W fun e w'=>e= .returned (.string (rootF 256 L))∧Below W.heap.size W w'):=fun W A' n' c' hb ho hn hcc=>by
  obtain ⟨A5,c5,hv,h1,h2,_⟩:=ho.shape;injection hv with e1 e2 e3;subst e1;subst e3;exact yc4 256 A' n' c' W.heap.size L W (hG.on hb) ⟨hn.symm,h2⟩ nl hcc om om om hsz
 clear hx hxb hG;go_enter Tryz.func101,Tryz.ntmps101
 go_wp2_with (first
  |(go_at_call 166;(refine HC.out.mono ?_);rintro e w1 ⟨v,rfl,ho,hb⟩;(obtain ⟨A5,c5,rfl,hc5,_,_⟩:=ho.shape);(have HB1:=lh hb);(have HRT:=lh (HR.out w1 A5 _ c5 hb ho rfl hc5));clear ho hb)
  |(go_at_call 102;(refine HRT.out.mono ?_);rintro e w2 ⟨rfl,hb2⟩;(have HB2:=lh hb2);clear hb2))
 go_ret2;exact ⟨rfl,HB1.out.trans (HB2.out.mono HB1.out.size)⟩
def al32 (ys:List ByteArray):Bool:=ys.all fun s=>decide (s.size=32)
theorem ydM {ys:List ByteArray}:al32 ys=true↔∀s∈ys,s.size=32:=by unfold al32;simp
theorem vfU_any (s:ByteArray) (w:World):Calls Tryz.prog 100 #[.string s] w fun e w'=>e= .returned (.bool (!decide (s.size=32)))∧w=w':=by
 by_cases hs:s.size=32
 ·have hI:((s.size:Int) != 32)=false:=by simp [hs]
  go_enter Tryz.func100,Tryz.ntmps100;go_wp2;go_ret;exact ⟨by first |rfl |simp [hs],rfl⟩
 ·have hI:((s.size:Int) != 32)=true:=by simp;omega
  go_enter Tryz.func100,Tryz.ntmps100;go_wp2;go_ret;exact ⟨by first |rfl |simp [hs],rfl⟩
theorem indexFU_any (A:Option Addr) (n c B:Nat) (ys:List ByteArray) (w:World) (hx:Sl fT w B A n ys) (hn:n≤1000000):
 Calls Tryz.prog 165 #[.slice A n c,.func (.func 100) #[] #[]] w fun e w'=>(∃r:Int,e= .returned (.int .i64 r)∧decide (0≤r)= !al32 ys)∧w=w':=by
 have HX:=lh hx;have HXN:Hid (ys.length=n):=hx.1;clear hx;go_enter Tryz.func165,Tryz.ntmps165;go_wp2
 go_loopw [8] (fun i wr=>(∃k:Nat,k≤n∧i= .int .i64 k∧Hid (∀j,j < k→∀s,ys[j]? =some s→s.size=32))∧w=wr) (fun i _=>n - (intOf i).toNat)
 case atStart=>exact ⟨⟨0,by omega,rfl,fun j hj=>absurd hj om⟩,rfl⟩
 case round=>
  obtain ⟨⟨k,hk,rfl,HK⟩,rfl⟩:=hrel
  by_cases hlt:k < n
  ·obtain ⟨b1,o1,x,rfl,_,hg,hc⟩:=HX.out.2.at_ (k:=k) yaR
   have hkI:(k:Int) < (n:Int):=by omega
   have hk0:(0:Int)≤(k:Int):=by omega
   have HC:=lh (fun W=>vfU_any x W)
   by_cases hs:x.size=32
   ·rw [show (!decide (x.size=32))=false by simp [hs]] at HC
    have HK2:Hid (∀j,j < k+1→∀s,ys[j]? =some s→s.size=32):=fun j hj s h=>by
     rcases Nat.lt_or_ge j k with c |c
     ·exact HK.out j c s h
     ·obtain rfl:j=k:=by omega
      rw [hg] at h;cases h;exact hs
    clear hg hs
    go_wp2_with (first
     |(go_at_call 100;(with_reducible refine (HC.out _).mono ?_);rintro e w1 ⟨rfl,rfl⟩))
    refine ⟨?rel,?measure⟩
    case rel=>exact ⟨⟨k+1,by omega,by go_num,HK2⟩,by first |rfl |trivial⟩
    case measure=>simp [intOf];omega
   ·rw [show (!decide (x.size=32))=true by simp [hs]] at HC
    have HN:Hid (al32 ys=false):=by
     show _=_
     rw [Bool.eq_false_iff];intro h;exact hs (ydM.1 h x (List.mem_of_getElem? hg))
    clear hg hs
    go_wp2_with (first
     |(go_at_call 100;(with_reducible refine (HC.out _).mono ?_);rintro e w1 ⟨rfl,rfl⟩))
    go_ret;exact ⟨⟨k,rfl,by rw [HN.out];simp⟩,by first |rfl |trivial⟩
  ·obtain rfl:k=n:=by omega
   have HN:Hid (al32 ys=true):=by
    show _=_
    rw [ydM];intro s h;obtain ⟨j,hj,he⟩:=List.mem_iff_getElem?.1 h |> fun ⟨j,hj⟩=>(⟨j,(List.getElem?_eq_some_iff.1 hj).1,hj⟩:∃j,j < ys.length∧ys[j]? =some s)
    exact HK.out j (by have:=HXN.out;omega) s he
   go_wp2;go_ret;exact ⟨⟨-1,rfl,by rw [HN.out];rfl⟩,by first |rfl |trivial⟩
theorem containsFU_any (A:Option Addr) (n c B:Nat) (ys:List ByteArray) (w:World) (hx:Sl fT w B A n ys) (hn:n≤1000000):
 Calls Tryz.prog 99 #[.slice A n c,.func (.func 100) #[] #[]] w fun e w'=>e= .returned (.bool (!al32 ys))∧w=w':=by
 have HC:=lh (indexFU_any A n c B ys w hx hn);clear hx;go_enter Tryz.func99,Tryz.ntmps99
 go_wp2_with (first
  |(go_at_call 165;(with_reducible refine HC.out.mono ?_);rintro e w1 ⟨⟨r,rfl,hr⟩,rfl⟩;have HR:=lh hr;clear hr))
 go_ret;exact ⟨by rw [←HR.out];rfl,rfl⟩
