import Derived.Test.YtpdledjgbgalcaaGreatDoorPi
namespace Go.Proofs.YtpdledjgbgalcaaGreatDoor
set_option maxRecDepth 100000
set_option maxHeartbeats 8000000
open Go.RowKit Go.Lib Go.Proofs.Tryz
set_option linter.unusedVariables false
set_option linter.unusedSimpArgs false
def rootF:Nat->List ByteArray->ByteArray
 |0,_=>baOf (shaB [])
 |k+1,ls=>if ls.length<=1 then ls.headD ⟨#[]⟩ else ndS (rootF k (ls.take (spl ls.length))) (rootF k (ls.drop (spl ls.length)))
theorem ydd:∀(k:Nat) (G:List ByteArray),(∀s∈G,s.size=32)->1<=G.length->(rootF k G).size=32
 |0,G,_,_=>by
  unfold rootF;rw [<-ybS,ybL (ycJ _),ycv]
 |k+1,G,h,h1=>by
  rw [rootF]
  split
  ·cases G with
   |nil=>simp at h1
   |cons a t=>exact h a List.mem_cons_self
  ·exact ydc _ _
theorem ycx {P:Program} (t e:Nat) (i:TypeInfo) (ht:P.underlying t=some (.slice e)) (hi:P.info? e=some i) (hs:i.size=1) (A:Option Addr) (n c:Nat) (h:Nat) (h2:h<=c) (w:World):
 (Instr.slice t (.slice A n c) none (some (.int .i64 (h:Int))) none).run P w= .ok (.slice (if c=0 then A else A.map (·.add 0)) h c) w:=by
 simp [Instr.slice,run_underlying ht,Instr.sliceBounds,run_sliceBound w .i64 (h:Int) c _ om om,sizeOf,typeInfo,hi,hs]
theorem Sl.partT {w:World} {B n c:Nat} {A:Option Addr} {xs:List ByteArray} (h:Sl fT w B A n xs) (l k:Nat) (hl:l+k<=n) (G:n<=c):Sl fT w B (if c=l then A else A.map (·.add l)) k ((xs.drop l).take k):=by
 have h1:=h.1;refine ⟨by rw [List.length_take,List.length_drop];omega,?_⟩;exact ((h.2.cut (n:=l) (cap:=c) om).take_ k)
theorem ydI:∀(k:Nat) (A:Option Addr) (n c B:Nat) (G:List ByteArray) (w:World) (T:Glob w),Sl fT w B A n G->B<=w.heap.size->n<=c->G.length<=k->1<=n->n<=256->(∀s∈G,s.size=32)->
 Calls prog 102 #[.slice A n c] w fun e M=>e= .returned (.string (rootF k G))/\Below w.heap.size w M
 |0,A,n,c,B,G,w,T,hx,hB,hc,hk,h1,h2,hs=>by have:=hx.1;omega
 |k+1,A,n,c,B,G,w,T,hx,hB,hc,hk,h1,h2,hs=>by
  have hl:G.length=n:=hx.1
  by_cases au:n=1
  ·subst au;obtain ⟨b1,o1,x,rfl,_,hg,aw⟩:=hx.2.at_ (k:=0) om
   have U:Hid (rootF (k+1) G=x):=by
    show _=_;rw [rootF,if_pos om]
    cases G with
    |nil=>cases hg
    |cons a t=>simpa using hg
   rw [Nat.add_zero] at aw;clear hx hg hs hl;go_enter func102,ntmps102;go_wp2;go_ret;exact ⟨by rw [U.out];rfl,Below.refl _ _⟩
  ·obtain ⟨f1,f2,f3,f4,f5⟩:=ycD (n:=n) om h2
   have U:Hid (rootF (k+1) G=ndS (rootF k (G.take (spl n))) (rootF k (G.drop (spl n)))):=by
    show _=_;rw [rootF,if_neg om,hl]
   obtain ⟨p,hp⟩:=gX (spl n);have ae:=lh (fun W=>msplit_any n om h2 W);rw [hp] at ae U f3 f4 f5;obtain ⟨iS,z,_,aa,_⟩:=info_parts Tryz.infoS;obtain ⟨Z,Y⟩:∃Z,(if c=0 then A else A.map (·.add 0))=Z:=⟨_,rfl⟩
   obtain ⟨A2,ac⟩:∃A2,(if c=p then A else A.map (·.add p))=A2:=⟨_,rfl⟩
   have ap:=ycx (P:=prog) 24 9 iS underlying24 z aa A n c p om;have aq:=fun W=>ybF (P:=prog) 24 9 iS underlying24 z aa A n c .i64 p p rfl om hc W;rw [Y] at ap;rw [ac] at aq
   have ao:Hid (∀W,Below w.heap.size w W->Sl fT W B Z p (G.take p)):=fun W H=>by
    have:=(hx.up H hB).partT (c:=c) 0 p om hc;rw [Y,List.drop_zero] at this;exact this
   have ah:Hid (∀W,Below w.heap.size w W->Sl fT W B A2 (n - p) (G.drop p)):=fun W H=>by
    have:=(hx.up H hB).partT (c:=c) p (n - p) om hc;rw [ac,List.take_of_length_le ya6] at this;exact this
   have am:Hid (∀W,Below w.heap.size w W->Calls prog 102 #[.slice Z p c] W fun e M=>e= .returned (.string (rootF k (G.take p)))/\Below W.heap.size W M):=fun W H=>
    ydI k Z p c B (G.take p) W (T.on H) (ao.out W H) (lT hB H.size) om (by rw [List.length_take];omega) f3 om (fun s h=>hs s (List.mem_of_mem_take h))
   have aj:Hid (∀W,Below w.heap.size w W->Calls prog 102 #[.slice A2 (n - p) (c - p)] W fun e M=>e= .returned (.string (rootF k (G.drop p)))/\Below W.heap.size W M):=fun W H=>
    ydI k A2 (n - p) (c - p) B (G.drop p) W (T.on H) (ah.out W H) (lT hB H.size) om ya6 om om (fun s h=>hs s (List.mem_of_mem_drop h))
   have ai:(rootF k (G.take p)).size=32:=ydd k _ (fun s h=>hs s (List.mem_of_mem_take h)) (by rw [List.length_take];omega);have al:(rootF k (G.drop p)).size=32:=ydd k _ (fun s h=>hs s (List.mem_of_mem_drop h)) ya6;obtain ⟨ra,ag⟩:=gX (rootF k (G.take p));obtain ⟨rb,ak⟩:=gX (rootF k (G.drop p));rw [ag] at am U ai;rw [ak] at aj U al;have ax:Hid (∀W,Below w.heap.size w W->Calls prog 168 #[.string ra,.string rb] W fun e M=>e= .returned (.string (ndS ra rb))/\Below W.heap.size W M):=fun W H=>yc0 ra rb W (T.on H) om om;have aA:((n:Int)==0)=false:=by simp;omega
   have ay:((n:Int)==1)=false:=by simp;omega
   have az:(p:Int)<=(n:Int):=by omega
   have HB:Hid (Below w.heap.size w w):=Below.refl _ _;clear hx ag ak ai al Y ac ao ah hs z aa hp f1 f2 T;go_enter func102,ntmps102;go_upto_region 7 with (go_at_call 167;(with_reducible refine (ae.out _).mono ?_);rintro e W1 ⟨rfl,rfl⟩)
   refine rH (S:=(fun _=>True)) ybi ybj (fun af=>?_)
   (iterate 3 refine tkA ?_)
   refine tkY 4 ?_;refine tkY 5 ?_;refine tkY 6 ?_;refine rd1 3 (fun K L=>?_)
   (go_simp;go_at_call 102;(with_reducible refine (am.out _ yaB).mono ?_);rintro e W6 ⟨rfl,J⟩;(have HB:Hid (Below w.heap.size w W6):=(Below.trans (B:=w.heap.size) yaB (J.mono ya0)));clear J;go_wp2_with fail)
   refine L.out _ _ ybj (fun O=>?_);clear L K af
   try simp only [pt]
   refine rd1 7 (fun K L=>?_)
   (go_simp;go_at_call 102;(with_reducible refine (aj.out _ yaB).mono ?_);rintro e W6 ⟨rfl,J⟩;(have HB:Hid (Below w.heap.size w W6):=(Below.trans (B:=w.heap.size) yaB (J.mono ya0)));clear J;go_wp2_with fail)
   refine L.out _ _ ybj (fun N=>?_);clear L K O
   try simp only [pt]
   refine rd1 8 (fun K L=>?_)
   (go_simp;go_at_call 168;(with_reducible refine (ax.out _ yaB).mono ?_);rintro e W6 ⟨rfl,J⟩;(have HB:Hid (Below w.heap.size w W6):=(Below.trans (B:=w.heap.size) yaB (J.mono ya0)));clear J;go_wp2_with fail)
   refine L.out _ _ ybj (fun ar=>?_);clear L K N
   try simp only [pt]
   refine tkY 9 ?_;refine wpAnyH_done ybi ?_ _;go_wp2_with fail;go_ret;exact ⟨by rw [U.out];rfl,HB.out⟩
theorem ydJ:∀(k:Nat) (A:Option Addr) (n c B:Nat) (G:List ByteArray) (w:World),Sl fT w B A n G->B<=w.heap.size->n<=c->G.length<=k->1<=n->n<=256->(∀s∈G,s.size=32)->
 Calls prog 65 #[.slice A n c] w fun e M=>e= .returned (.string (rootF k G))/\Below w.heap.size w M
 |0,A,n,c,B,G,w,hx,hB,hc,hk,h1,h2,hs=>by have:=hx.1;omega
 |k+1,A,n,c,B,G,w,hx,hB,hc,hk,h1,h2,hs=>by
  have hl:G.length=n:=hx.1
  by_cases ar:n=1
  ·subst ar;obtain ⟨b1,o1,x,rfl,_,hg,au⟩:=hx.2.at_ (k:=0) om
   have T:Hid (rootF (k+1) G=x):=by
    show _=_;rw [rootF,if_pos om]
    cases G with
    |nil=>cases hg
    |cons a t=>simpa using hg
   rw [Nat.add_zero] at au;clear hx hg hs hl;go_enter func65,ntmps65;go_wp2;go_ret;exact ⟨by rw [T.out];rfl,Below.refl _ _⟩
  ·obtain ⟨f1,f2,f3,f4,f5⟩:=ycD (n:=n) om h2
   have T:Hid (rootF (k+1) G=ndS (rootF k (G.take (spl n))) (rootF k (G.drop (spl n)))):=by
    show _=_;rw [rootF,if_neg om,hl]
   obtain ⟨p,hp⟩:=gX (spl n);have ac:=lh (fun W=>rsplit_any n om h2 W);rw [hp] at ac T f3 f4 f5;obtain ⟨iS,Z,_,z,_⟩:=info_parts Tryz.infoS;obtain ⟨Y,U⟩:∃Y,(if c=0 then A else A.map (·.add 0))=Y:=⟨_,rfl⟩
   obtain ⟨A2,aa⟩:∃A2,(if c=p then A else A.map (·.add p))=A2:=⟨_,rfl⟩
   have ao:=ycx (P:=prog) 24 9 iS underlying24 Z z A n c p om;have ap:=fun W=>ybF (P:=prog) 24 9 iS underlying24 Z z A n c .i64 p p rfl om hc W;rw [U] at ao;rw [aa] at ap
   have am:Hid (∀W,Below w.heap.size w W->Sl fT W B Y p (G.take p)):=fun W H=>by
    have:=(hx.up H hB).partT (c:=c) 0 p om hc;rw [U,List.drop_zero] at this;exact this
   have ag:Hid (∀W,Below w.heap.size w W->Sl fT W B A2 (n - p) (G.drop p)):=fun W H=>by
    have:=(hx.up H hB).partT (c:=c) p (n - p) om hc;rw [aa,List.take_of_length_le ya6] at this;exact this
   have al:Hid (∀W,Below w.heap.size w W->Calls prog 65 #[.slice Y p c] W fun e M=>e= .returned (.string (rootF k (G.take p)))/\Below W.heap.size W M):=fun W H=>
    ydJ k Y p c B (G.take p) W (am.out W H) (lT hB H.size) om (by rw [List.length_take];omega) f3 om (fun s h=>hs s (List.mem_of_mem_take h))
   have ai:Hid (∀W,Below w.heap.size w W->Calls prog 65 #[.slice A2 (n - p) (c - p)] W fun e M=>e= .returned (.string (rootF k (G.drop p)))/\Below W.heap.size W M):=fun W H=>
    ydJ k A2 (n - p) (c - p) B (G.drop p) W (ag.out W H) (lT hB H.size) om ya6 om om (fun s h=>hs s (List.mem_of_mem_drop h))
   have ah:(rootF k (G.take p)).size=32:=ydd k _ (fun s h=>hs s (List.mem_of_mem_take h)) (by rw [List.length_take];omega);have ak:(rootF k (G.drop p)).size=32:=ydd k _ (fun s h=>hs s (List.mem_of_mem_drop h)) ya6;obtain ⟨ra,af⟩:=gX (rootF k (G.take p));obtain ⟨rb,aj⟩:=gX (rootF k (G.drop p));rw [af] at al T ah;rw [aj] at ai T ak;have aw:Hid (∀W,Below w.heap.size w W->Calls prog 125 #[.string ra,.string rb] W fun e M=>e= .returned (.string (ndS ra rb))/\Below W.heap.size W M):=fun W H=>yc1 ra rb W om om;have az:((n:Int)==0)=false:=by simp;omega
   have ax:((n:Int)==1)=false:=by simp;omega
   have ay:(p:Int)<=(n:Int):=by omega
   have HB:Hid (Below w.heap.size w w):=Below.refl _ _;clear hx af aj ah ak U aa am ag hs Z z hp f1 f2;go_enter func65,ntmps65;go_upto_region 7 with (go_at_call 124;(with_reducible refine (ac.out _).mono ?_);rintro e W1 ⟨rfl,rfl⟩)
   refine rH (S:=(fun _=>True)) ybi ybj (fun ae=>?_)
   (iterate 3 refine tkA ?_)
   refine tkY 4 ?_;refine tkY 5 ?_;refine tkY 6 ?_;refine rd1 3 (fun K L=>?_)
   (go_simp;go_at_call 65;(with_reducible refine (al.out _ yaB).mono ?_);rintro e W6 ⟨rfl,J⟩;(have HB:Hid (Below w.heap.size w W6):=(Below.trans (B:=w.heap.size) yaB (J.mono ya0)));clear J;go_wp2_with fail)
   refine L.out _ _ ybj (fun O=>?_);clear L K ae
   try simp only [pt]
   refine rd1 7 (fun K L=>?_)
   (go_simp;go_at_call 65;(with_reducible refine (ai.out _ yaB).mono ?_);rintro e W6 ⟨rfl,J⟩;(have HB:Hid (Below w.heap.size w W6):=(Below.trans (B:=w.heap.size) yaB (J.mono ya0)));clear J;go_wp2_with fail)
   refine L.out _ _ ybj (fun N=>?_);clear L K O
   try simp only [pt]
   refine rd1 8 (fun K L=>?_)
   (go_simp;go_at_call 125;(with_reducible refine (aw.out _ yaB).mono ?_);rintro e W6 ⟨rfl,J⟩;(have HB:Hid (Below w.heap.size w W6):=(Below.trans (B:=w.heap.size) yaB (J.mono ya0)));clear J;go_wp2_with fail)
   refine L.out _ _ ybj (fun aq=>?_);clear L K N
   try simp only [pt]
   refine tkY 9 ?_;refine wpAnyH_done ybi ?_ _;go_wp2_with fail;go_ret;exact ⟨by rw [T.out];rfl,HB.out⟩
def blkU:Nat->List Int->List ByteArray
 |0,_=>[]
 |k+1,xs=>if xs.length=0 then [] else leafS (xs.take 512)::blkU k (xs.drop 512)
theorem blkU_nil (k:Nat) (xs:List Int) (h:xs.length=0):blkU k xs=[]:=by
 cases k with
 |zero=>rfl
 |succ k=>rw [blkU,if_pos h]
theorem ycq (xs:List Int):(leafS xs).size=32:=by unfold leafS;rw [<-ybS,ybL (ycJ _),ycv]
theorem blkU_size:∀(k:Nat) (xs:List Int),∀s∈blkU k xs,s.size=32
 |0,_,s,h=>by cases h
 |k+1,xs,s,h=>by
  rw [blkU] at h
  split at h
  ·cases h
  ·rcases List.mem_cons.1 h with h1 |h1
   ·rw [h1];exact ycq _
   ·exact blkU_size k _ s h1
theorem blkU_len:∀(k:Nat) (xs:List Int),(blkU k xs).length*512<=xs.length+511
 |0,xs=>by show 0*512<=xs.length+511;omega
 |k+1,xs=>by
  rw [blkU]
  split
  ·show 0*512<=xs.length+511;omega
  ·have:=blkU_len k (xs.drop 512);rw [List.length_drop] at this;rw [List.length_cons];omega
theorem blkU_pos (k:Nat) (xs:List Int) (h:0 < xs.length):1<=(blkU (k+1) xs).length:=by
 rw [blkU,if_neg om,List.length_cons];omega
theorem Sl.partU {α:Type} {f:α->Value} {w:World} {B n c:Nat} {A:Option Addr} {xs:List α} (h:Sl f w B A n xs) (l k:Nat) (hl:l+k<=n) (G:n<=c):Sl f w B (if c=l then A else A.map (·.add l)) k ((xs.drop l).take k):=by
 have h1:=h.1;refine ⟨by rw [List.length_take,List.length_drop];omega,?_⟩;exact ((h.2.cut (n:=l) (cap:=c) om).take_ k)
theorem Sl.head {f:Int->Value} {w:World} {B n:Nat} {A:Option Addr} {xs:List Int} (h:Sl f w B A n xs) (m:Nat) (hm:m<=n):Sl f w B A m (xs.take m):=
 ⟨by rw [List.length_take,h.1];omega,h.2.take_ m⟩
theorem mblocks_any (A:Option Addr) (n c B:Nat) (xs:List Int) (w:World) (hG:Glob w) (hc:n<=c) (hx:Sl fB w B A n xs) (U:B<=w.heap.size) (hl:n<=65536) (al:Byt xs):
 Calls prog 166 #[.slice A n c,.int .i64 512] w fun e Y=>∃v,e= .returned (.tuple #[v,.int .i64 0])/\Own fT 9 Y w.heap.size v (blkU (xs.length+1) xs)/\Below w.heap.size w Y:=by
 obtain ⟨i0,hi,ac,ai,aj⟩:=info_parts Tryz.infoS;have HI:=lh hi;have aK:=lh ac;have aL:=lh ai;have ay:=lh aj;obtain ⟨iB,T,_,aa,_⟩:=info_parts Tryz.infoB;have z:Hid (Below w.heap.size w w):=Below.refl _ _;have aG:Hid (Own fT 9 w w.heap.size (.slice none 0 0) []):=Own.nil;have aD:=lh U
 have HC:Hid (∀(W:World) (H:Option Addr) (m G:Nat) (ys:List Int),Below w.heap.size w W->Sl fB W B H m ys->m<=G->m<=512->Byt ys->0 < m->Calls prog 151 #[.slice H m G] W fun e Y=>e= .returned (.string (leafS ys))/\Below W.heap.size W Y):=fun W H m G ys M hs hc hm hy h0=>
  ydB H m G B ys W (hG.on M) hs hc (lT U M.size) om hy (fun a ha=>by
     obtain ⟨b,aQ,e,hlt⟩:=hs.at0 h0;rw [ha] at e;cases e
     exact Nat.lt_of_lt_of_le hlt (lT U M.size))
 have ax:Hid (Sl fB w B A n xs):=hx.up z.out U;have aJ:=lh al;have aS:¬(1048576:Int) < (n:Int):=by omega
 have aw:=lh (fun (H:Option Addr) (r G m:Nat) (h:m<=G) (W:World)=>ybR (P:=prog) 40 5 iB underlying40 T H r G .i64 (m:Int) m rfl h W);have au:=lh (fun (H:Option Addr) (r G m:Nat) (h:m<=r) (h2:r<=G) (W:World)=>ybF (P:=prog) 40 5 iB underlying40 T aa H r G .i64 (m:Int) m rfl h h2 W);have aM:xs.length=n:=hx.1;clear hi ac ai aj hx al hG U T aa;go_enter func166,ntmps166;go_upto_region 6 with fail
 skip
 go_loopw [0,6] (fun x v wr=>∃(k r G:Nat) (H:Option Addr) (ys:List Int) (J:List ByteArray),x= .slice H r G/\r<=G/\r<=65536/\r<=k/\J.length+r<=65536/\Hid (Sl fB wr B H r ys)/\Hid (Byt ys)/\Hid (blkU (xs.length+1) xs=J++blkU k ys)/\Hid (Own fT 9 wr w.heap.size v J)/\Hid (Below w.heap.size w wr)) (fun x _ _=>ycu x)
 case atStart=>exact ⟨xs.length+1,n,c,A,xs,[],rfl,hc,hl,by omega,by simpa using hl,ax,aJ,rfl,aG,z⟩
 case round=>
  obtain ⟨k,r,G,H,ys,J,rfl,af,hr,aN,aR,K,HY,HE,HO,HB⟩:=hrel
  by_cases ak:r=0
  ·subst ak;have HD:Hid (blkU (xs.length+1) xs=J):=by show _=_;rw [HE.out,blkU_nil k ys K.out.1,List.append_nil]
   go_wp2;go_ret2;exact ⟨_,rfl,by rw [HD.out];exact HO.out,HB.out⟩
  ·have aP:(0:Int) < (r:Int):=by omega
   obtain ⟨k,rfl⟩:∃k',k=k'+1:=⟨k - 1,by omega⟩
   obtain ⟨m,hm⟩:=gX (min r 512);have L:0 < m/\m<=512/\m<=r:=by omega
   have ar:(if (r:Int) < 512 then (r:Int) else 512)=(m:Int):=by split<;>omega
   have ae:ys.take 512=ys.take m:=by
    have h1:=K.out.1;rcases Nat.lt_or_ge r 512 with c |c
    ·rw [List.take_of_length_le om,List.take_of_length_le om]
    ·rw [show m=512 by omega]
   have ap:ys.drop 512=ys.drop m:=by
    have h1:=K.out.1;rcases Nat.lt_or_ge r 512 with c |c
    ·rw [List.drop_eq_nil_of_le om,List.drop_eq_nil_of_le om]
    ·rw [show m=512 by omega]
   have N:Hid (blkU (xs.length+1) xs=(J++[leafS (ys.take m)])++blkU k (ys.drop m)):=by
    show _=_;rw [HE.out,blkU,if_neg (by rw [K.out.1];exact ak),ae,ap,List.append_assoc];rfl
   obtain ⟨Z,O⟩:∃Z,(if G=m then H else H.map (·.add m))=Z:=⟨_,rfl⟩
   have aF:=aw.out H r G m om;have aH:=au.out H r G m L.2.2 af;rw [O] at aH;have HCL:=lh (HC.out wr H m G (ys.take m) HB.out (K.out.head m L.2.2) om L.2.1 (HY.out.take m) L.1)
   have ah:Hid (∀W,Below w.heap.size wr W->Sl fB W B Z (r - m) (ys.drop m)):=fun W M=>by
    have h3:=(K.out.up M aD.out).partU (c:=G) m (r - m) om af;rw [O,List.take_of_length_le (by rw [List.length_drop,K.out.1];omega)] at h3;exact h3
   have ag:Hid (Byt (ys.drop m)):=HY.out.drop m;have aB:Hid ((J.length+1)*16<=140737488355328):=by show _<=_;omega
   have aE:Hid (J.length+1<=maxLen):=by show _<=_;unfold maxLen;omega
   generalize leafS (ys.take m)=lf at HCL N;generalize ys.drop m=ys2 at ah ag N;clear ae ap O hm HE K HY
   go_upto_region 9 with (first
    |(go_at_call 151;(with_reducible refine HCL.out.mono ?_);rintro e w1 ⟨rfl,aq⟩;(have HB1:=lh aq);(have am:Hid (Own fT 9 w1 w.heap.size u6 J):=HO.out.on HB1.out);(have HS1:Hid (w.heap.size<=w1.heap.size):=lT HB.out.size HB1.out.size);clear aq)
    |(at_builtin;(with_reducible refine ybw (o:=⟨some 26,_,_,_,_,_⟩) rfl (.tmp 20) (.tmp 25) 24 rfl 9 i0 (.string ⟨#[]⟩) 16 underlying24 HI.out aK.out aL.out ay.out rfl _ J w.heap.size rfl am.out lf 1 rfl fT1 aB.out aE.out HS1.out ?_);intro v2 w2 aC aA aO))
   have ao:Below w.heap.size wr w2:=(HB1.out.mono HB.out.size).trans (ybm aA.out (fun j hj=>(ol am.out j hj).1) HS1.out);have aI:Hid (Below w.heap.size w w2):=HB.out.trans ao;have az:=lh (ah.out w2 ao);clear aF ar;go_wp2
   all_goals refine ⟨?rel,?measure⟩
   all_goals first
    |exact ⟨k,r - m,G - m,Z,ys2,J++[lf],rfl,by omega,by omega,by omega,by rw [List.length_append];simp only [List.length_cons,List.length_nil];omega,az,ag,N,aC,aI⟩
    |(show r - m < r;omega)
theorem mof_any (A:Option Addr) (n c B:Nat) (xs:List Int) (w:World) (hG:Glob w) (hc:n<=c) (N:Sl fB w B A n xs) (hB:B<=w.heap.size) (h0:0 < n) (hl:n<=65536) (T:Byt xs):
 Calls prog 101 #[.slice A n c,.int .i64 512] w fun e Y=>e= .returned (.tuple #[.string (rootF 256 (blkU (xs.length+1) xs)),.int .i64 0])/\Below w.heap.size w Y:=by
 have HC:=lh (mblocks_any A n c B xs w hG hc N hB hl T);have z:=blkU_len (xs.length+1) xs;have Z:=blkU_pos xs.length xs (by have:=N.1;omega);have ag:xs.length=n:=N.1;have O:=blkU_size (xs.length+1) xs;obtain ⟨L,hL⟩:=gX (blkU (xs.length+1) xs);rw [hL] at HC z Z O ⊢;clear hL
 have HR:Hid (∀W M G H,Below w.heap.size w W->Own fT 9 W w.heap.size (.slice M G H) L->G=L.length->G<=H->Calls prog 102 #[.slice M G H] W fun e Y=>e= .returned (.string (rootF 256 L))/\Below W.heap.size W Y):=fun W M G H J K hn ae=>by
  obtain ⟨A5,c5,hv,h1,h2,_⟩:=K.shape;injection hv with e1 e2 e3;subst e1;subst e3;exact ydI 256 M G H W.heap.size L W (hG.on J) ⟨hn.symm,h2⟩ nl ae om om om O
 clear N T hG;go_enter func101,ntmps101
 go_wp2_with (first
  |(go_at_call 166;(refine HC.out.mono ?_);rintro e w1 ⟨v,rfl,K,J⟩;(obtain ⟨A5,c5,rfl,ac,_,_⟩:=K.shape);(have HB1:=lh J);(have aa:=lh (HR.out w1 A5 _ c5 J K rfl ac));clear K J)
  |(go_at_call 102;(refine aa.out.mono ?_);rintro e w2 ⟨rfl,U⟩;(have af:=lh U);clear U))
 go_ret2;exact ⟨rfl,bt HB1.out af.out⟩
theorem rblocks_any (A:Option Addr) (n c B:Nat) (xs:List Int) (w:World) (hc:n<=c) (hx:Sl fB w B A n xs) (Y:B<=w.heap.size) (hl:n<=65536) (ak:Byt xs):
 Calls prog 180 #[.slice A n c,.int .i64 512] w fun e T=>∃v,e= .returned (.tuple #[v,.int .i64 0])/\Own fT 9 T w.heap.size v (blkU (xs.length+1) xs)/\Below w.heap.size w T:=by
 obtain ⟨i0,hi,aa,ah,ai⟩:=info_parts Tryz.infoS;have HI:=lh hi;have aJ:=lh aa;have aK:=lh ah;have ax:=lh ai;obtain ⟨iB,O,_,z,_⟩:=info_parts Tryz.infoB;have Z:Hid (Below w.heap.size w (w.alloc (.cells #[] 9))):=bl;have aF:Hid (Own fT 9 (w.alloc (.cells #[] 9)) w.heap.size (.slice (some ⟨w.heap.size,0,none⟩) 0 0) []):=World.ownsRow_lit w #[] 0 nl ybd rfl;have aC:=lh Y
 have HC:Hid (∀(W:World) (H:Option Addr) (m G:Nat) (ys:List Int),Below w.heap.size w W->Sl fB W B H m ys->m<=G->m<=512->Byt ys->0 < m->Calls prog 157 #[.slice H m G] W fun e T=>e= .returned (.string (leafS ys))/\Below W.heap.size W T):=fun W H m G ys hb hs hc hm hy h0=>
  ydC H m G B ys W hs (lT Y hb.size) om hy
 have aw:Hid (Sl fB (w.alloc (.cells #[] 9)) B A n xs):=hx.up Z.out Y;have aI:=lh ak;have aQ:¬(1048576:Int) < (n:Int):=by omega
 have au:=lh (fun (H:Option Addr) (r G m:Nat) (h:m<=G) (W:World)=>ybR (P:=prog) 40 5 iB underlying40 O H r G .i64 (m:Int) m rfl h W);have ar:=lh (fun (H:Option Addr) (r G m:Nat) (h:m<=r) (h2:r<=G) (W:World)=>ybF (P:=prog) 40 5 iB underlying40 O z H r G .i64 (m:Int) m rfl h h2 W);have aL:xs.length=n:=hx.1;clear hi aa ah ai hx ak Y O z;go_enter func180,ntmps180;go_upto_region 6 with fail
 skip
 go_loopw [0,6] (fun x v wr=>∃(k r G:Nat) (H:Option Addr) (ys:List Int) (J:List ByteArray),x= .slice H r G/\r<=G/\r<=65536/\r<=k/\J.length+r<=65536/\Hid (Sl fB wr B H r ys)/\Hid (Byt ys)/\Hid (blkU (xs.length+1) xs=J++blkU k ys)/\Hid (Own fT 9 wr w.heap.size v J)/\Hid (Below w.heap.size w wr)) (fun x _ _=>ycu x)
 case atStart=>exact ⟨xs.length+1,n,c,A,xs,[],rfl,hc,hl,by omega,by simpa using hl,aw,aI,rfl,aF,Z⟩
 case round=>
  obtain ⟨k,r,G,H,ys,J,rfl,ae,hr,aM,aP,K,HY,HE,HO,HB⟩:=hrel
  by_cases aj:r=0
  ·subst aj;have HD:Hid (blkU (xs.length+1) xs=J):=by show _=_;rw [HE.out,blkU_nil k ys K.out.1,List.append_nil]
   go_wp2;go_ret2;exact ⟨_,rfl,by rw [HD.out];exact HO.out,HB.out⟩
  ·have aO:(0:Int) < (r:Int):=by omega
   obtain ⟨k,rfl⟩:∃k',k=k'+1:=⟨k - 1,by omega⟩
   obtain ⟨m,hm⟩:=gX (min r 512);have L:0 < m/\m<=512/\m<=r:=by omega
   have aq:(if (r:Int) < 512 then (r:Int) else 512)=(m:Int):=by split<;>omega
   have ac:ys.take 512=ys.take m:=by
    have h1:=K.out.1;rcases Nat.lt_or_ge r 512 with c |c
    ·rw [List.take_of_length_le om,List.take_of_length_le om]
    ·rw [show m=512 by omega]
   have ao:ys.drop 512=ys.drop m:=by
    have h1:=K.out.1;rcases Nat.lt_or_ge r 512 with c |c
    ·rw [List.drop_eq_nil_of_le om,List.drop_eq_nil_of_le om]
    ·rw [show m=512 by omega]
   have M:Hid (blkU (xs.length+1) xs=(J++[leafS (ys.take m)])++blkU k (ys.drop m)):=by
    show _=_;rw [HE.out,blkU,if_neg (by rw [K.out.1];exact aj),ac,ao,List.append_assoc];rfl
   obtain ⟨U,N⟩:∃U,(if G=m then H else H.map (·.add m))=U:=⟨_,rfl⟩
   have aE:=au.out H r G m om;have aG:=ar.out H r G m L.2.2 ae;rw [N] at aG;have HCL:=lh (HC.out wr H m G (ys.take m) HB.out (K.out.head m L.2.2) om L.2.1 (HY.out.take m) L.1)
   have ag:Hid (∀W,Below w.heap.size wr W->Sl fB W B U (r - m) (ys.drop m)):=fun W hb=>by
    have h3:=(K.out.up hb aC.out).partU (c:=G) m (r - m) om ae;rw [N,List.take_of_length_le (by rw [List.length_drop,K.out.1];omega)] at h3;exact h3
   have af:Hid (Byt (ys.drop m)):=HY.out.drop m;have aA:Hid ((J.length+1)*16<=140737488355328):=by show _<=_;omega
   have aD:Hid (J.length+1<=maxLen):=by show _<=_;unfold maxLen;omega
   generalize leafS (ys.take m)=lf at HCL M;generalize ys.drop m=ys2 at ag af M;clear ac ao N hm HE K HY
   go_upto_region 9 with (first
    |(go_at_call 157;(with_reducible refine HCL.out.mono ?_);rintro e w1 ⟨rfl,ap⟩;(have HB1:=lh ap);(have al:Hid (Own fT 9 w1 w.heap.size u6 J):=HO.out.on HB1.out);(have HS1:Hid (w.heap.size<=w1.heap.size):=lT HB.out.size HB1.out.size);clear ap)
    |(at_builtin;(with_reducible refine ybw (o:=⟨some 27,_,_,_,_,_⟩) rfl (.tmp 21) (.tmp 26) 24 rfl 9 i0 (.string ⟨#[]⟩) 16 underlying24 HI.out aJ.out aK.out ax.out rfl _ J w.heap.size rfl al.out lf 1 rfl fT1 aA.out aD.out HS1.out ?_);intro v2 w2 aB az aN))
   have am:Below w.heap.size wr w2:=(HB1.out.mono HB.out.size).trans (ybm az.out (fun j hj=>(ol al.out j hj).1) HS1.out);have aH:Hid (Below w.heap.size w w2):=HB.out.trans am;have ay:=lh (ag.out w2 am);clear aE aq;go_wp2
   all_goals refine ⟨?rel,?measure⟩
   all_goals first
    |exact ⟨k,r - m,G - m,U,ys2,J++[lf],rfl,by omega,by omega,by omega,by rw [List.length_append];simp only [List.length_cons,List.length_nil];omega,ay,af,M,aB,aH⟩
    |(show r - m < r;omega)
theorem rof_any (A:Option Addr) (n c B:Nat) (xs:List Int) (w:World) (hc:n<=c) (N:Sl fB w B A n xs) (hB:B<=w.heap.size) (h0:0 < n) (hl:n<=65536) (T:Byt xs):
 Calls prog 122 #[.slice A n c,.int .i64 512] w fun e Y=>e= .returned (.tuple #[.string (rootF 256 (blkU (xs.length+1) xs)),.int .i64 0])/\Below w.heap.size w Y:=by
 have HC:=lh (rblocks_any A n c B xs w hc N hB hl T);have z:=blkU_len (xs.length+1) xs;have Z:=blkU_pos xs.length xs (by have:=N.1;omega);have ag:xs.length=n:=N.1;have O:=blkU_size (xs.length+1) xs;obtain ⟨L,hL⟩:=gX (blkU (xs.length+1) xs);rw [hL] at HC z Z O ⊢;clear hL
 have HR:Hid (∀W M G H,Below w.heap.size w W->Own fT 9 W w.heap.size (.slice M G H) L->G=L.length->G<=H->Calls prog 65 #[.slice M G H] W fun e Y=>e= .returned (.string (rootF 256 L))/\Below W.heap.size W Y):=fun W M G H K J hn ae=>by
  obtain ⟨A5,c5,hv,h1,h2,_⟩:=J.shape;injection hv with e1 e2 e3;subst e1;subst e3;exact ydJ 256 M G H W.heap.size L W ⟨hn.symm,h2⟩ nl ae om om om O
 clear N T;go_enter func122,ntmps122
 go_wp2_with (first
  |(go_at_call 180;(refine HC.out.mono ?_);rintro e w1 ⟨v,rfl,J,K⟩;(obtain ⟨A5,c5,rfl,ac,_,_⟩:=J.shape);(have HB1:=lh K);(have aa:=lh (HR.out w1 A5 _ c5 K J rfl ac));clear J K)
  |(go_at_call 65;(refine aa.out.mono ?_);rintro e w2 ⟨rfl,U⟩;(have af:=lh U);clear U))
 go_ret2;exact ⟨rfl,bt HB1.out af.out⟩
def al32 (ys:List ByteArray):Bool:=ys.all fun s=>decide (s.size=32)
theorem yde {ys:List ByteArray}:al32 ys=true↔∀s∈ys,s.size=32:=by unfold al32;simp
theorem vfU_any (s:ByteArray) (w:World):Calls prog 100 #[.string s] w fun e G=>e= .returned (.bool (!decide (s.size=32)))/\w=G:=by
 by_cases hs:s.size=32
 ·have H:((s.size:Int) != 32)=false:=by simp [hs]
  go_enter func100,ntmps100;go_wp2;go_ret;exact ⟨by first |rfl |simp [hs],rfl⟩
 ·have H:((s.size:Int) != 32)=true:=by simp;omega
  go_enter func100,ntmps100;go_wp2;go_ret;exact ⟨by first |rfl |simp [hs],rfl⟩
theorem indexFU_any (A:Option Addr) (n c B:Nat) (ys:List ByteArray) (w:World) (J:Sl fT w B A n ys) (hn:n<=1000000):
 Calls prog 165 #[.slice A n c,.func (.func 100) #[] #[]] w fun e L=>(∃r:Int,e= .returned (.int .i64 r)/\decide (0<=r)= !al32 ys)/\w=L:=by
 have N:=lh J;have HXN:Hid (ys.length=n):=J.1;clear J;go_enter func165,ntmps165;go_wp2
 go_loopw [8] (fun i wr=>(∃k:Nat,k<=n/\i= .int .i64 k/\Hid (∀j,j < k->∀s,ys[j]? =some s->s.size=32))/\w=wr) (fun i _=>n - (intOf i).toNat)
 case atStart=>exact ⟨⟨0,by omega,rfl,fun j hj=>absurd hj om⟩,rfl⟩
 case round=>
  obtain ⟨⟨k,U,rfl,HK⟩,rfl⟩:=hrel
  by_cases hlt:k < n
  ·obtain ⟨Y,z,x,rfl,_,G,Z⟩:=N.out.2.at_ (k:=k) yba;have T:(k:Int) < (n:Int):=by omega
   have O:(0:Int)<=(k:Int):=by omega
   have HC:=lh (fun W=>vfU_any x W)
   by_cases hs:x.size=32
   ·rw [show (!decide (x.size=32))=false by simp [hs]] at HC
    have K:Hid (∀j,j < k+1->∀s,ys[j]? =some s->s.size=32):=fun j hj s h=>by
     rcases Nat.lt_or_ge j k with c |c
     ·exact HK.out j c s h
     ·obtain rfl:j=k:=by omega
      rw [G] at h;cases h;exact hs
    clear G hs
    go_wp2_with (first
     |(go_at_call 100;(with_reducible refine (HC.out _).mono ?_);rintro e w1 ⟨rfl,rfl⟩))
    refine ⟨?rel,?measure⟩;case rel=>exact ⟨⟨k+1,by omega,by go_num,K⟩,by first |rfl |trivial⟩
    case measure=>simp [intOf];omega
   ·rw [show (!decide (x.size=32))=true by simp [hs]] at HC
    have H:Hid (al32 ys=false):=by
     show _=_;rw [Bool.eq_false_iff];intro h;exact hs (yde.1 h x (List.mem_of_getElem? G))
    clear G hs
    go_wp2_with (first
     |(go_at_call 100;(with_reducible refine (HC.out _).mono ?_);rintro e w1 ⟨rfl,rfl⟩))
    go_ret;exact ⟨⟨k,rfl,by rw [H.out];simp⟩,by first |rfl |trivial⟩
  ·obtain rfl:k=n:=by omega
   have H:Hid (al32 ys=true):=by
    show _=_;rw [yde];intro s h;obtain ⟨j,hj,M⟩:=List.mem_iff_getElem?.1 h |> fun ⟨j,hj⟩=>(⟨j,(List.getElem?_eq_some_iff.1 hj).1,hj⟩:∃j,j < ys.length/\ys[j]? =some s)
    exact HK.out j (by have:=HXN.out;omega) s M
   go_wp2;go_ret;exact ⟨⟨-1,rfl,by rw [H.out];rfl⟩,by first |rfl |trivial⟩
theorem containsFU_any (A:Option Addr) (n c B:Nat) (ys:List ByteArray) (w:World) (G:Sl fT w B A n ys) (hn:n<=1000000):
 Calls prog 99 #[.slice A n c,.func (.func 100) #[] #[]] w fun e H=>e= .returned (.bool (!al32 ys))/\w=H:=by
 have HC:=lh (indexFU_any A n c B ys w G hn);clear G;go_enter func99,ntmps99
 go_wp2_with (first
  |(go_at_call 165;(with_reducible refine HC.out.mono ?_);rintro e w1 ⟨⟨r,rfl,hr⟩,rfl⟩;have HR:=lh hr;clear hr))
 go_ret;exact ⟨by rw [<-HR.out];rfl,rfl⟩
theorem beqD (a b:ByteArray):decide (a=b)=(a.toList==b.toList):=by
 rw [<-beq_toListBytes];show decide (a=b)=(a.data==b.data)
 by_cases h:a=b
 ·subst h;simp
 ·rw [decide_eq_false h]
  symm
  rw [beq_eq_false_iff_ne];exact fun h2=>h (ByteArray.ext h2)
def vrB (s:ByteArray) (ix:Int) (xs:List Int) (ys:List ByteArray):Bool:=
 decide (s.size=32/\(1<=ys.length/\ys.length<=16))&&(al32 ys&&(decide ((0<=ix/\ix < (ys.length:Int))/\(1<=xs.length/\xs.length<=65536))&&(decide (some (rootF 256 (blkU (xs.length+1) xs))=ys[ix.toNat]?)&&decide (rootF 256 ys=s))))
theorem sverify_any (s:ByteArray) (ix:Int) (A z:Option Addr) (n c m W B:Nat) (xs:List Int) (ys:List ByteArray) (w:World) (hG:Glob w) (hc:n<=c) (ax:m<=W) (hx:Sl fB w B A n xs) (hy:Sl fT w B z m ys) (hB:B<=w.heap.size) (hn:n<=1000000) (hm:m<=1000000) (am:Byt xs):
 Calls prog 48 #[.agg #[.string s,.int .i64 ix,.slice A n c,.slice z m W]] w fun e N=>e= .returned (.bool (vrB s ix xs ys))/\Below w.heap.size w N:=by
 have ah:xs.length=n:=hx.1;have aw:ys.length=m:=hy.1;obtain ⟨G,aa⟩:∃G:World,G=w.alloc (.cells #[.string s,.int .i64 ix,.slice A n c,.slice z m W] 42):=⟨_,rfl⟩
 have M:Below w.heap.size w G:=by rw [aa];exact bl
 have af:G.heap[w.heap.size]? =some (.cells #[.string s,.int .i64 ix,.slice A n c,.slice z m W] 42 (0,0)):=by rw [aa];exact zy w _
 have HK:Hid (∀V,Below G.heap.size G V->V.cell? ⟨w.heap.size,0,none⟩=some (.string s)/\V.cell? ⟨w.heap.size,1,none⟩=some (.int .i64 ix)/\V.cell? ⟨w.heap.size,2,none⟩=some (.slice A n c)/\V.cell? ⟨w.heap.size,3,none⟩=some (.slice z m W)):=fun V Y=>by
  have q:=(Y.block _ (lb af)).trans af;refine ⟨?_,?_,?_,?_⟩<;>(rw [cell_of_row V _ _ _ _ _ q];rfl)
 have T:=lh (containsFU_any z m W B ys G (hy.up M hB) hm);have HB1:=lh M;have HWE:=lh aa;obtain ⟨k0,k1,k2,k3⟩:=HK.out G bR;have L:Hid (0 < n->n<=65536->Calls prog 101 #[.slice A n c,.int .i64 512] G fun e N=>e= .returned (.tuple #[.string (rootF 256 (blkU (xs.length+1) xs)),.int .i64 0])/\Below G.heap.size G N):=fun h0 hl=>mof_any A n c B xs G (hG.on M) hc (hx.up M hB) (lT hB M.size) h0 hl am;have J:Hid (1<=m->m<=16->al32 ys=true->∀V,Below G.heap.size G V->Calls prog 102 #[.slice z m W] V fun e N=>e= .returned (.string (rootF 256 ys))/\Below V.heap.size V N):=fun h1 h2 h3 V Y=>ydI 256 z m W B ys V ((hG.on M).on Y) ((hy.up M hB).up Y (lT hB M.size)) (lT (lT hB M.size) Y.size) ax om h1 om (yde.1 h3);have U:Hid (∀V,Below G.heap.size G V->Sl fT V B z m ys):=fun V Y=>(hy.up M hB).up Y (lT hB M.size);have H:Hid (vrB s ix xs ys=(decide (s.size=32/\(1<=ys.length/\ys.length<=16))&&(al32 ys&&(decide ((0<=ix/\ix < (ys.length:Int))/\(1<=xs.length/\xs.length<=65536))&&(decide (some (rootF 256 (blkU (xs.length+1) xs))=ys[ix.toNat]?)&&decide (rootF 256 ys=s)))))):=rfl;rw [ah,aw] at H;clear hx am hG aa M af hB;obtain ⟨al,aq⟩:=gX (al32 ys);rw [aq] at T J H;rw [ah] at L;obtain ⟨rd,ar⟩:=gX (rootF 256 (blkU (n+1) xs));obtain ⟨rs,aj⟩:=gX (rootF 256 ys);rw [ar] at L H;rw [aj] at J H;clear aq ar aj hy
 by_cases c1:s.size=32
 ·by_cases c2:1<=m
  ·by_cases c3:m<=16
   ·cases al with
    |false=>
     (have HF:Hid (vrB s ix xs ys=false):=(by rw [H.out];simp:_=_));(have g1:((s.size:Int) != 32)=false:=by simp [c1]);(have g2:¬((m:Int) < 1):=by omega);(have g3:¬(16:Int) < (m:Int):=by omega);clear L J U H c1 c2 c3;go_enter func48,ntmps48;(go_upto_region 1 with fail);rw [<-HWE.out];(go_wp2_with (go_at_call 99;(with_reducible refine T.out.mono ?_);rintro e w1 ⟨rfl,O⟩;subst O));go_ret;exact ⟨by rw [HF.out];rfl,HB1.out⟩
    |true=>
     by_cases c4:0<=ix
     ·by_cases c5:ix < (m:Int)
      ·by_cases c6:1<=n
       ·by_cases c7:n<=65536
        ·obtain ⟨b1,o1,x,ai,_,hg,_⟩:=(U.out G bR).2.at_ (k:=ix.toNat) om
         have ao:Hid (vrB s ix xs ys=(decide (rd=x)&&decide (rs=s))):=by
          show _=_;rw [H.out,hg];have Z:decide (s.size=32/\1<=m/\m<=16)=true:=by simp [c1,c2,c3]
          have q2:decide ((0<=ix/\ix < (m:Int))/\1<=n/\n<=65536)=true:=by simp [c4,c5,c6,c7]
          rw [Z,q2];simp
         have HXC:Hid (∀V,Below G.heap.size G V->V.cell? ⟨b1,o1+ix.toNat,none⟩=some (.string x)):=fun V Y=>by
          obtain ⟨b2,o2,x2,e2,_,ak,ay⟩:=(U.out V Y).2.at_ (k:=ix.toNat) om;rw [ai] at e2;cases e2
          rw [hg] at ak;cases ak
          exact ay
         subst ai;have aA:=lh (L.out c6 c7);have az:=lh (J.out c2 c3 rfl);have g4:¬ix < 0:=by omega
         have g5:¬(m:Int)<=ix:=by omega
         have g6:¬(n:Int) < 1:=by omega
         have g7:¬(65536:Int) < (n:Int):=by omega
         (have g1:((s.size:Int) != 32)=false:=by simp [c1]);(have g2:¬((m:Int) < 1):=by omega);(have g3:¬(16:Int) < (m:Int):=by omega);clear L J U H c1 c2 c3 c6 c7 hg
         go_enter func48,ntmps48;go_upto_region 1 with fail
         rw [<-HWE.out];go_upto_region 8 with (first |(go_at_call 99;(with_reducible refine T.out.mono ?_);rintro e w1 ⟨rfl,O⟩;subst O) |(go_at_call 101;(with_reducible refine aA.out.mono ?_);rintro e w2 ⟨rfl,ap⟩;(have ag:=lh ap);clear ap))
         clear k0 k1 k2 k3;have HB:Hid (Below G.heap.size G w2):=ag;obtain ⟨k0,k1,k2,k3⟩:=HK.out w2 ag.out;have kx:=HXC.out w2 ag.out
         cases ae:decide (rd=x) with
         |false=>
          have aB:¬rd=x:=of_decide_eq_false ae;have aC:(rd.toList==x.toList)=false:=by rw [<-beqD];exact ae
          refine rH (S:=(fun N=>N.cell? ⟨w.heap.size,0,none⟩=some (.string s)/\N.cell? ⟨w.heap.size,1,none⟩=some (.int .i64 ix)/\N.cell? ⟨w.heap.size,2,none⟩=some (.slice A n c)/\N.cell? ⟨w.heap.size,3,none⟩=some (.slice (some ⟨b1,o1,none⟩) m W)/\N.cell? ⟨b1,o1+ix.toNat,none⟩=some (.string x))) ybi yac (fun ac=>?_)
          (iterate 5 refine tkA ?_)
          refine tkH (i:=5) (v:=?p5v) (y:=(Or.inl ⟨by rfl,?p5y⟩)) (h:=?p5r);case p5y=>(intro w hSw;(try dsimp only at hSw);(obtain ⟨q0,Z,q2,q3,q4⟩:=hSw);go_simp;try (with_reducible rfl))
          try simp only [pt]
          refine tkY 6 ?_;refine tkY 7 ?_;refine tkH (i:=8) (v:=?p8v) (y:=(Or.inl ⟨by rfl,?p8y⟩)) (h:=?p8r);case p8y=>(intro w hSw;(try dsimp only at hSw);(obtain ⟨q0,Z,q2,q3,q4⟩:=hSw);go_simp;try (with_reducible rfl))
          try simp only [pt]
          refine tkY 9 ?_;refine tkH (i:=10) (v:=?p10v) (y:=(Or.inl ⟨by rfl,?p10y⟩)) (h:=?p10r);case p10y=>(intro w hSw;(try dsimp only at hSw);(obtain ⟨q0,Z,q2,q3,q4⟩:=hSw);go_simp;try (with_reducible rfl))
          try simp only [pt]
          refine tkY 11 ?_;refine tkY 12 ?_;refine tkY 13 ?_;refine tkN 14 ?_;refine tkN 15 ?_;refine tkN 16 ?_;refine tkN 17 ?_;refine tkN 18 ?_;refine tkN 19 ?_;refine tkN 20 ?_;refine tkY 21 ?_;refine tkY 22 ?_;refine wpAnyH_done ybi ?_ _;go_wp2_with fail;go_ret;exact ⟨by rw [ao.out,ae];first |rfl |(simp;done),yaE⟩
         |true=>
          obtain rfl:x=rd:=(of_decide_eq_true ae).symm;refine rH (S:=(fun N=>N.cell? ⟨w.heap.size,0,none⟩=some (.string s)/\N.cell? ⟨w.heap.size,1,none⟩=some (.int .i64 ix)/\N.cell? ⟨w.heap.size,2,none⟩=some (.slice A n c)/\N.cell? ⟨w.heap.size,3,none⟩=some (.slice (some ⟨b1,o1,none⟩) m W)/\N.cell? ⟨b1,o1+ix.toNat,none⟩=some (.string x))) ybi yac (fun ac=>?_)
          (iterate 5 refine tkA ?_)
          refine tkH (i:=5) (v:=?q5v) (y:=(Or.inl ⟨by rfl,?q5y⟩)) (h:=?q5r);case q5y=>(intro w hSw;(try dsimp only at hSw);(obtain ⟨q0,Z,q2,q3,q4⟩:=hSw);go_simp;try (with_reducible rfl))
          try simp only [pt]
          refine tkY 6 ?_;refine tkY 7 ?_;refine tkH (i:=8) (v:=?q8v) (y:=(Or.inl ⟨by rfl,?q8y⟩)) (h:=?q8r);case q8y=>(intro w hSw;(try dsimp only at hSw);(obtain ⟨q0,Z,q2,q3,q4⟩:=hSw);go_simp;try (with_reducible rfl))
          try simp only [pt]
          refine tkY 9 ?_;refine tkH (i:=10) (v:=?q10v) (y:=(Or.inl ⟨by rfl,?q10y⟩)) (h:=?q10r);case q10y=>(intro w hSw;(try dsimp only at hSw);(obtain ⟨q0,Z,q2,q3,q4⟩:=hSw);go_simp;try (with_reducible rfl))
          try simp only [pt]
          refine tkY 11 ?_;refine tkY 12 ?_;refine tkY 13 ?_;refine tkY 14 ?_;refine tkH (i:=15) (v:=?q15v) (y:=(Or.inl ⟨by rfl,?q15y⟩)) (h:=?q15r);case q15y=>(intro w hSw;(try dsimp only at hSw);(obtain ⟨q0,Z,q2,q3,q4⟩:=hSw);go_simp;try (with_reducible rfl))
          try simp only [pt]
          refine tkY 17 ?_;refine tkY 18 ?_;refine tkH (i:=19) (v:=?q18v) (y:=(Or.inl ⟨by rfl,?q18y⟩)) (h:=?q18r);case q18y=>(intro w hSw;(try dsimp only at hSw);(obtain ⟨q0,Z,q2,q3,q4⟩:=hSw);go_simp;try (with_reducible rfl))
          try simp only [pt]
          refine rd1 16 (fun K hK=>?_)
          (go_simp;go_at_call 102;(with_reducible refine (az.out _ yaB).mono ?_);rintro e W6 ⟨rfl,b6⟩;(have HB:Hid (Below G.heap.size G W6):=(Below.trans (B:=G.heap.size) yaB (b6.mono ya0)));clear b6;go_wp2_with fail)
          refine hK.out _ _ yac (fun au=>?_);clear hK K ac
          try simp only [pt]
          refine tkY 20 ?_;refine tkY 21 ?_;refine tkY 22 ?_;refine wpAnyH_done ybi ?_ _;go_wp2_with fail;go_ret;exact ⟨by rw [ao.out,beqD rs s];first |rfl |(simp;done),yaE⟩
        ·(have HF:Hid (vrB s ix xs ys=false):=(by rw [H.out];simp [*]:_=_));(have g1:((s.size:Int) != 32)=false:=by simp [c1]);(have g2:¬((m:Int) < 1):=by omega);(have g3:¬(16:Int) < (m:Int):=by omega);(try (have g4:ix < 0:=by omega));(try (have g4:¬ix < 0:=by omega));(try (have g5:(m:Int)<=ix:=by omega));(try (have g5:¬(m:Int)<=ix:=by omega));(try (have g6:(n:Int) < 1:=by omega));(try (have g6:¬(n:Int) < 1:=by omega));(try (have g7:(65536:Int) < (n:Int):=by omega));(try (have g7:¬(65536:Int) < (n:Int):=by omega));clear L J U H c1 c2 c3;go_enter func48,ntmps48;(go_upto_region 1 with fail);rw [<-HWE.out];(go_wp2_with (go_at_call 99;(with_reducible refine T.out.mono ?_);rintro e w1 ⟨rfl,O⟩;subst O));go_ret;exact ⟨by rw [HF.out];rfl,HB1.out⟩
       ·(have HF:Hid (vrB s ix xs ys=false):=(by rw [H.out];simp [*]:_=_));(have g1:((s.size:Int) != 32)=false:=by simp [c1]);(have g2:¬((m:Int) < 1):=by omega);(have g3:¬(16:Int) < (m:Int):=by omega);(try (have g4:ix < 0:=by omega));(try (have g4:¬ix < 0:=by omega));(try (have g5:(m:Int)<=ix:=by omega));(try (have g5:¬(m:Int)<=ix:=by omega));(try (have g6:(n:Int) < 1:=by omega));(try (have g6:¬(n:Int) < 1:=by omega));(try (have g7:(65536:Int) < (n:Int):=by omega));(try (have g7:¬(65536:Int) < (n:Int):=by omega));clear L J U H c1 c2 c3;go_enter func48,ntmps48;(go_upto_region 1 with fail);rw [<-HWE.out];(go_wp2_with (go_at_call 99;(with_reducible refine T.out.mono ?_);rintro e w1 ⟨rfl,O⟩;subst O));go_ret;exact ⟨by rw [HF.out];rfl,HB1.out⟩
      ·(have HF:Hid (vrB s ix xs ys=false):=(by rw [H.out];simp [*]:_=_));(have g1:((s.size:Int) != 32)=false:=by simp [c1]);(have g2:¬((m:Int) < 1):=by omega);(have g3:¬(16:Int) < (m:Int):=by omega);(try (have g4:ix < 0:=by omega));(try (have g4:¬ix < 0:=by omega));(try (have g5:(m:Int)<=ix:=by omega));(try (have g5:¬(m:Int)<=ix:=by omega));(try (have g6:(n:Int) < 1:=by omega));(try (have g6:¬(n:Int) < 1:=by omega));(try (have g7:(65536:Int) < (n:Int):=by omega));(try (have g7:¬(65536:Int) < (n:Int):=by omega));clear L J U H c1 c2 c3;go_enter func48,ntmps48;(go_upto_region 1 with fail);rw [<-HWE.out];(go_wp2_with (go_at_call 99;(with_reducible refine T.out.mono ?_);rintro e w1 ⟨rfl,O⟩;subst O));go_ret;exact ⟨by rw [HF.out];rfl,HB1.out⟩
     ·(have HF:Hid (vrB s ix xs ys=false):=(by rw [H.out];simp [*]:_=_));(have g1:((s.size:Int) != 32)=false:=by simp [c1]);(have g2:¬((m:Int) < 1):=by omega);(have g3:¬(16:Int) < (m:Int):=by omega);(try (have g4:ix < 0:=by omega));(try (have g4:¬ix < 0:=by omega));(try (have g5:(m:Int)<=ix:=by omega));(try (have g5:¬(m:Int)<=ix:=by omega));(try (have g6:(n:Int) < 1:=by omega));(try (have g6:¬(n:Int) < 1:=by omega));(try (have g7:(65536:Int) < (n:Int):=by omega));(try (have g7:¬(65536:Int) < (n:Int):=by omega));clear L J U H c1 c2 c3;go_enter func48,ntmps48;(go_upto_region 1 with fail);rw [<-HWE.out];(go_wp2_with (go_at_call 99;(with_reducible refine T.out.mono ?_);rintro e w1 ⟨rfl,O⟩;subst O));go_ret;exact ⟨by rw [HF.out];rfl,HB1.out⟩
   ·(have HF:Hid (vrB s ix xs ys=false):=(by rw [H.out];simp [*]:_=_));(have g1:((s.size:Int) != 32)= !decide (s.size=32):=by (by_cases h:s.size=32<;>simp [h]<;>omega));(try (have g2:((m:Int) < 1):=by omega));(try (have g2:¬((m:Int) < 1):=by omega));(try (have g3:(16:Int) < (m:Int):=by omega));(try (have g3:¬(16:Int) < (m:Int):=by omega));(simp only [c1,decide_true,decide_false,Bool.not_true,Bool.not_false] at g1);clear T L J U H;go_enter func48,ntmps48;(go_upto_region 1 with fail);rw [<-HWE.out];go_wp2;go_ret;exact ⟨by rw [HF.out];rfl,HB1.out⟩
  ·(have HF:Hid (vrB s ix xs ys=false):=(by rw [H.out];simp [*]:_=_));(have g1:((s.size:Int) != 32)= !decide (s.size=32):=by (by_cases h:s.size=32<;>simp [h]<;>omega));(try (have g2:((m:Int) < 1):=by omega));(try (have g2:¬((m:Int) < 1):=by omega));(try (have g3:(16:Int) < (m:Int):=by omega));(try (have g3:¬(16:Int) < (m:Int):=by omega));(simp only [c1,decide_true,decide_false,Bool.not_true,Bool.not_false] at g1);clear T L J U H;go_enter func48,ntmps48;(go_upto_region 1 with fail);rw [<-HWE.out];go_wp2;go_ret;exact ⟨by rw [HF.out];rfl,HB1.out⟩
 ·(have HF:Hid (vrB s ix xs ys=false):=(by rw [H.out];simp [*]:_=_));(have g1:((s.size:Int) != 32)= !decide (s.size=32):=by (by_cases h:s.size=32<;>simp [h]<;>omega));(try (have g2:((m:Int) < 1):=by omega));(try (have g2:¬((m:Int) < 1):=by omega));(try (have g3:(16:Int) < (m:Int):=by omega));(try (have g3:¬(16:Int) < (m:Int):=by omega));(simp only [c1,decide_true,decide_false,Bool.not_true,Bool.not_false] at g1);clear T L J U H;go_enter func48,ntmps48;(go_upto_region 1 with fail);rw [<-HWE.out];go_wp2;go_ret;exact ⟨by rw [HF.out];rfl,HB1.out⟩
theorem psum_any (A:Option Addr) (n c B:Nat) (xs:List Int) (w:World) (M:n<=c) (J:Sl fB w B A n xs) (L:B<=w.heap.size) (h0:0 < n) (hl:n<=65536) (G:Byt xs):
 Calls prog 64 #[.slice A n c] w fun e K=>e= .returned (.string (rootF 256 (blkU (xs.length+1) xs)))/\Below w.heap.size w K:=by
 have HC:=lh (rof_any A n c B xs w M J L h0 hl G);clear J G;go_enter func64,ntmps64;go_wp2_with (go_at_call 122;(with_reducible refine HC.out.mono ?_);rintro e w1 ⟨rfl,H⟩;(have HB1:=lh H);clear H);go_ret;exact ⟨rfl,HB1.out⟩
theorem gverify_any (s:ByteArray) (ix:Int) (A A':Option Addr) (n c m Z B:Nat) (xs:List Int) (ys:List ByteArray) (w:World) (hc:n<=c) (aF:m<=Z) (hx:Sl fB w B A n xs) (hy:Sl fT w B A' m ys) (hB:B<=w.heap.size) (hn:n<=1000000) (hm:m<=1000000) (aw:Byt xs):
 Calls prog 49 #[.agg #[.string s,.int .i64 ix,.slice A n c,.slice A' m Z]] w fun e L=>e= .returned (.bool (vrB s ix xs ys))/\Below w.heap.size w L:=by
 have aj:xs.length=n:=hx.1;have ak:ys.length=m:=hy.1;obtain ⟨G,ag⟩:∃G:World,G=w.alloc (.cells #[.string s,.int .i64 ix,.slice A n c,.slice A' m Z] 42):=⟨_,rfl⟩
 have N:Below w.heap.size w G:=by rw [ag];exact bl
 have al:G.heap[w.heap.size]? =some (.cells #[.string s,.int .i64 ix,.slice A n c,.slice A' m Z] 42 (0,0)):=by rw [ag];exact zy w _
 have HK:Hid (∀V,Below G.heap.size G V->V.cell? ⟨w.heap.size,0,none⟩=some (.string s)/\V.cell? ⟨w.heap.size,1,none⟩=some (.int .i64 ix)/\V.cell? ⟨w.heap.size,2,none⟩=some (.slice A n c)/\V.cell? ⟨w.heap.size,3,none⟩=some (.slice A' m Z)):=fun V U=>by
  have q:=(U.block _ (lb al)).trans al;refine ⟨?_,?_,?_,?_⟩<;>(rw [cell_of_row V _ _ _ _ _ q];rfl)
 have HB1:=lh N;have HWE:=lh ag;obtain ⟨k0,k1,k2,k3⟩:=HK.out G bR;have W:Hid (∀V,Below G.heap.size G V->Sl fT V B A' m ys):=fun V U=>(hy.up N hB).up U (lT hB N.size);have J:Hid (0 < n->n<=65536->∀V,Below G.heap.size G V->Calls prog 64 #[.slice A n c] V fun e L=>e= .returned (.string (rootF 256 (blkU (xs.length+1) xs)))/\Below V.heap.size V L):=fun h0 hl V U=>psum_any A n c B xs V hc ((hx.up N hB).up U (lT hB N.size)) (lT (lT hB N.size) U.size) h0 hl aw;have M:Hid (1<=m->m<=16->al32 ys=true->∀V,Below G.heap.size G V->Calls prog 65 #[.slice A' m Z] V fun e L=>e= .returned (.string (rootF 256 ys))/\Below V.heap.size V L):=fun h1 h2 h3 V U=>ydJ 256 A' m Z B ys V (W.out V U) (lT (lT hB N.size) U.size) aF om h1 om (yde.1 h3);have H:Hid (vrB s ix xs ys=(decide (s.size=32/\(1<=ys.length/\ys.length<=16))&&(al32 ys&&(decide ((0<=ix/\ix < (ys.length:Int))/\(1<=xs.length/\xs.length<=65536))&&(decide (some (rootF 256 (blkU (xs.length+1) xs))=ys[ix.toNat]?)&&decide (rootF 256 ys=s)))))):=rfl;have af:=lh ak;rw [aj,ak] at H;rw [aj] at J;obtain ⟨rd,ax⟩:=gX (rootF 256 (blkU (n+1) xs));obtain ⟨rs,aq⟩:=gX (rootF 256 ys);rw [ax] at J H;rw [aq] at M H;clear hx aw ag N al hB ax aq hy aj ak;have c0:m=0∨1<=m:=by omega
 by_cases c1:s.size=32
 ·by_cases c3:m<=16
  ·by_cases c4:0<=ix
   ·by_cases c5:ix < (m:Int)
    ·have c2:1<=m:=by omega
     by_cases c6:1<=n
     ·by_cases c7:n<=65536
      ·
       have O:decide (s.size=32/\1<=m/\m<=16)=true:=by simp [c1,c2,c3]
       have T:decide ((0<=ix/\ix < (m:Int))/\1<=n/\n<=65536)=true:=by simp [c4,c5,c6,c7]
       rw [O,T,Bool.true_and,Bool.true_and] at H;have aD:=lh (J.out c6 c7);have aA:=lh (M.out c2 c3);obtain ⟨b1,o1,x,ap,_,hg,_⟩:=(W.out G bR).2.at_ (k:=ix.toNat) (by rw [af.out];omega);rw [hg] at H
       have HXC:Hid (∀V,Below G.heap.size G V->V.cell? ⟨b1,o1+ix.toNat,none⟩=some (.string x)):=fun V U=>by
        obtain ⟨b2,o2,x2,e2,_,au,aI⟩:=(W.out V U).2.at_ (k:=ix.toNat) (by rw [af.out];omega);rw [ap] at e2;cases e2
        rw [hg] at au;cases au
        exact aI
       subst ap
       (try (have g1:((s.size:Int) != 32)=false:=by simp [c1]));(try (have g1:((s.size:Int) != 32)=true:=ybh));(try (have g3:(16:Int) < (m:Int):=by omega));(try (have g3:¬(16:Int) < (m:Int):=by omega));(try (have g4:ix < 0:=by omega));(try (have g4:¬ix < 0:=by omega));(try (have g5:(m:Int)<=ix:=by omega));(try (have g5:¬(m:Int)<=ix:=by omega));(try (have g6:(n:Int) < 1:=by omega));(try (have g6:¬(n:Int) < 1:=by omega));(try (have g7:(65536:Int) < (n:Int):=by omega));(try (have g7:¬(65536:Int) < (n:Int):=by omega))
       have HBx:Hid (Below G.heap.size G G):=Below.refl _ _;clear O T J M c1 c3 hg;have J:=aD;go_enter func49,ntmps49;go_upto_region 1 with fail
       rw [<-HWE.out];go_upto_region 4 with fail
       go_loopw [46] (fun i wr=>(∃k:Nat,k<=m/\i= .int .i64 k/\Hid (∀j,j < k->∀z,ys[j]? =some z->z.size=32))/\G=wr) (fun i _=>m - (intOf i).toNat)
       case atStart=>exact ⟨⟨0,by omega,rfl,fun j hj=>absurd hj om⟩,rfl⟩
       case round=>
        obtain ⟨⟨k,hk,rfl,ao⟩,rfl⟩:=hrel
        by_cases hlt:k < m
        ·obtain ⟨b2,o2,y,aH,_,ah,aN⟩:=(W.out G bR).2.at_ (k:=k) (by rw [af.out];exact hlt);cases aH
         have aO:(k:Int) < (m:Int):=by omega
         have aM:(0:Int)<=(k:Int):=by omega
         by_cases hs:y.size=32
         ·have aJ:((y.size:Int) != 32)=false:=by simp [hs]
          have aG:Hid (∀j,j < k+1->∀z,ys[j]? =some z->z.size=32):=fun j hj z h=>by
           rcases Nat.lt_or_ge j k with c |c
           ·exact ao.out j c z h
           ·obtain rfl:j=k:=by omega
            rw [ah] at h;cases h;exact hs
          clear ah hs;go_wp2;refine ⟨?rel,?measure⟩;case rel=>exact ⟨⟨k+1,by omega,by go_num,aG⟩,by first |rfl |trivial⟩
          case measure=>(simp [intOf]<;>omega)
         ·have aJ:((y.size:Int) != 32)=true:=by simp;omega
          have HN:Hid (vrB s ix xs ys=false):=by
           show _=_;rw [H.out]
           have:al32 ys=false:=by
            rw [Bool.eq_false_iff];intro h;exact hs (yde.1 h y (List.mem_of_getElem? ah))
           rw [this];rfl
          clear ah hs;go_wp2;go_ret;exact ⟨by rw [HN.out];rfl,HB1.out⟩
        ·obtain rfl:m=k:=by omega
         have am:al32 ys=true:=by
          rw [yde];intro z h;obtain ⟨j,hj,he⟩:=List.mem_iff_getElem?.1 h |> fun ⟨j,hj⟩=>(⟨j,(List.getElem?_eq_some_iff.1 hj).1,hj⟩:∃j,j < ys.length/\ys[j]? =some z)
          exact ao.out j (by have:=af.out;omega) z he
         have aK:=lh (aA.out am);rw [am,Bool.true_and] at H
         have ay:Hid (vrB s ix xs ys=(decide (rd=x)&&decide (rs=s))):=by
          show _=_;rw [H.out];simp
         clear am H
         cases ai:decide (rd=x) with
         |false=>
          have aE:¬rd=x:=of_decide_eq_false ai;have aC:¬x=rd:=fun h=>aE h.symm;have aL:(x.toList==rd.toList)=false:=by rw [<-beqD,decide_eq_false aC]
          go_upto_region 9 with fail
          refine rH (S:=(fun L=>L.cell? ⟨w.heap.size,0,none⟩=some (.string s)/\L.cell? ⟨w.heap.size,1,none⟩=some (.int .i64 ix)/\L.cell? ⟨w.heap.size,2,none⟩=some (.slice A n c)/\L.cell? ⟨w.heap.size,3,none⟩=some (.slice (some ⟨b1,o1,none⟩) m Z)/\L.cell? ⟨b1,o1+ix.toNat,none⟩=some (.string x))) ybi yab (fun aa=>?_);refine tkY 0 ?_;refine tkH (i:=1) (v:=?kA1v) (y:=(Or.inl ⟨by rfl,?kA1y⟩)) (h:=?kA1r);case kA1y=>(intro w hSw;(try dsimp only at hSw);(obtain ⟨Y,O,T,q3,q4⟩:=hSw);go_simp;try (with_reducible rfl))
          try simp only [pt]
          refine tkY 2 ?_;refine tkY 3 ?_;refine tkH (i:=4) (v:=?kA4v) (y:=(Or.inl ⟨by rfl,?kA4y⟩)) (h:=?kA4r);case kA4y=>(intro w hSw;(try dsimp only at hSw);(obtain ⟨Y,O,T,q3,q4⟩:=hSw);go_simp;try (with_reducible rfl))
          try simp only [pt]
          refine tkY 5 ?_;refine tkH (i:=6) (v:=?kA6v) (y:=(Or.inl ⟨by rfl,?kA6y⟩)) (h:=?kA6r);case kA6y=>(intro w hSw;(try dsimp only at hSw);(obtain ⟨Y,O,T,q3,q4⟩:=hSw);go_simp;try (with_reducible rfl))
          try simp only [pt]
          refine tkY 7 ?_;refine tkH (i:=8) (v:=?kA8v) (y:=(Or.inl ⟨by rfl,?kA8y⟩)) (h:=?kA8r);case kA8y=>(intro w hSw;(try dsimp only at hSw);(obtain ⟨Y,O,T,q3,q4⟩:=hSw);go_simp;try (with_reducible rfl))
          try simp only [pt]
          refine rd1 9 (fun K hK=>?_)
          (go_simp;go_at_call 64;(with_reducible refine (J.out _ yaz).mono ?_);rintro e w5 ⟨rfl,ac⟩;(have HBx:Hid (Below G.heap.size G w5):=Below.trans (B:=G.heap.size) yaz (ac.mono (by first |exact HBx.out.size |exact Nat.le_refl _)));clear ac;go_wp2_with fail)
          refine hK.out _ _ yab (fun aB=>?_);clear hK K aa
          try simp only [pt]
          refine tkY 10 ?_;refine tkY 11 ?_;refine tkN 12 ?_;refine tkN 13 ?_;refine tkN 14 ?_;refine tkN 15 ?_;refine tkN 16 ?_;refine tkN 17 ?_;refine tkN 18 ?_;refine tkY 19 ?_;refine tkY 20 ?_;refine wpAnyH_done ybi ?_ _;go_wp2_with fail;go_ret;exact ⟨by rw [ay.out,ai];first |rfl |(simp;done),bt HB1.out HBx.out⟩
         |true=>
          obtain rfl:x=rd:=(of_decide_eq_true ai).symm;go_upto_region 9 with fail
          refine rH (S:=(fun L=>L.cell? ⟨w.heap.size,0,none⟩=some (.string s)/\L.cell? ⟨w.heap.size,1,none⟩=some (.int .i64 ix)/\L.cell? ⟨w.heap.size,2,none⟩=some (.slice A n c)/\L.cell? ⟨w.heap.size,3,none⟩=some (.slice (some ⟨b1,o1,none⟩) m Z)/\L.cell? ⟨b1,o1+ix.toNat,none⟩=some (.string x))) ybi yab (fun aa=>?_);refine tkY 0 ?_;refine tkH (i:=1) (v:=?kB1v) (y:=(Or.inl ⟨by rfl,?kB1y⟩)) (h:=?kB1r);case kB1y=>(intro w hSw;(try dsimp only at hSw);(obtain ⟨Y,O,T,q3,q4⟩:=hSw);go_simp;try (with_reducible rfl))
          try simp only [pt]
          refine tkY 2 ?_;refine tkY 3 ?_;refine tkH (i:=4) (v:=?kB4v) (y:=(Or.inl ⟨by rfl,?kB4y⟩)) (h:=?kB4r);case kB4y=>(intro w hSw;(try dsimp only at hSw);(obtain ⟨Y,O,T,q3,q4⟩:=hSw);go_simp;try (with_reducible rfl))
          try simp only [pt]
          refine tkY 5 ?_;refine tkH (i:=6) (v:=?kB6v) (y:=(Or.inl ⟨by rfl,?kB6y⟩)) (h:=?kB6r);case kB6y=>(intro w hSw;(try dsimp only at hSw);(obtain ⟨Y,O,T,q3,q4⟩:=hSw);go_simp;try (with_reducible rfl))
          try simp only [pt]
          refine tkY 7 ?_;refine tkH (i:=8) (v:=?kB8v) (y:=(Or.inl ⟨by rfl,?kB8y⟩)) (h:=?kB8r);case kB8y=>(intro w hSw;(try dsimp only at hSw);(obtain ⟨Y,O,T,q3,q4⟩:=hSw);go_simp;try (with_reducible rfl))
          try simp only [pt]
          refine rd1 9 (fun K hK=>?_)
          (go_simp;go_at_call 64;(with_reducible refine (J.out _ yaz).mono ?_);rintro e w5 ⟨rfl,ac⟩;(have HBx:Hid (Below G.heap.size G w5):=Below.trans (B:=G.heap.size) yaz (ac.mono (by first |exact HBx.out.size |exact Nat.le_refl _)));clear ac;go_wp2_with fail)
          refine hK.out _ _ yab (fun ae=>?_);clear hK K aa
          try simp only [pt]
          refine tkY 10 ?_;refine tkY 11 ?_;refine tkY 12 ?_;refine tkH (i:=13) (v:=?kB13v) (y:=(Or.inl ⟨by rfl,?kB13y⟩)) (h:=?kB13r);case kB13y=>(intro w hSw;(try dsimp only at hSw);(obtain ⟨Y,O,T,q3,q4⟩:=hSw);go_simp;try (with_reducible rfl))
          try simp only [pt]
          refine tkY 15 ?_;refine tkY 16 ?_;refine tkH (i:=17) (v:=?kB16v) (y:=(Or.inl ⟨by rfl,?kB16y⟩)) (h:=?kB16r);case kB16y=>(intro w hSw;(try dsimp only at hSw);(obtain ⟨Y,O,T,q3,q4⟩:=hSw);go_simp;try (with_reducible rfl))
          try simp only [pt]
          refine rd1 14 (fun K hK=>?_)
          (go_simp;go_at_call 65;(with_reducible refine (aK.out _ yaz).mono ?_);rintro e w6 ⟨rfl,ar⟩;(have HBx:Hid (Below G.heap.size G w6):=Below.trans (B:=G.heap.size) yaz (ar.mono (by first |exact HBx.out.size |exact Nat.le_refl _)));clear ar;go_wp2_with fail)
          refine hK.out _ _ yab (fun az=>?_);clear hK K ae
          try simp only [pt]
          refine tkY 18 ?_;refine tkY 19 ?_;refine tkY 20 ?_;refine wpAnyH_done ybi ?_ _;go_wp2_with fail;go_ret;exact ⟨by rw [ay.out,ai,beqD rs s];first |rfl |(simp;done),bt HB1.out HBx.out⟩
      ·(have HF:Hid (vrB s ix xs ys=false):=(by rw [H.out];simp [*]:_=_));(try (have g1:((s.size:Int) != 32)=false:=by simp [c1]));(try (have g1:((s.size:Int) != 32)=true:=ybh));(try (have g3:(16:Int) < (m:Int):=by omega));(try (have g3:¬(16:Int) < (m:Int):=by omega));(try (have g4:ix < 0:=by omega));(try (have g4:¬ix < 0:=by omega));(try (have g5:(m:Int)<=ix:=by omega));(try (have g5:¬(m:Int)<=ix:=by omega));(try (have g6:(n:Int) < 1:=by omega));(try (have g6:¬(n:Int) < 1:=by omega));(try (have g7:(65536:Int) < (n:Int):=by omega));(try (have g7:¬(65536:Int) < (n:Int):=by omega));clear J M W H;go_enter func49,ntmps49;(go_upto_region 1 with fail);rw [<-HWE.out];go_wp2;go_ret;exact ⟨by rw [HF.out];rfl,HB1.out⟩
     ·(have HF:Hid (vrB s ix xs ys=false):=(by rw [H.out];simp [*]:_=_));(try (have g1:((s.size:Int) != 32)=false:=by simp [c1]));(try (have g1:((s.size:Int) != 32)=true:=ybh));(try (have g3:(16:Int) < (m:Int):=by omega));(try (have g3:¬(16:Int) < (m:Int):=by omega));(try (have g4:ix < 0:=by omega));(try (have g4:¬ix < 0:=by omega));(try (have g5:(m:Int)<=ix:=by omega));(try (have g5:¬(m:Int)<=ix:=by omega));(try (have g6:(n:Int) < 1:=by omega));(try (have g6:¬(n:Int) < 1:=by omega));(try (have g7:(65536:Int) < (n:Int):=by omega));(try (have g7:¬(65536:Int) < (n:Int):=by omega));clear J M W H;go_enter func49,ntmps49;(go_upto_region 1 with fail);rw [<-HWE.out];go_wp2;go_ret;exact ⟨by rw [HF.out];rfl,HB1.out⟩
    ·(have HF:Hid (vrB s ix xs ys=false):=(by rw [H.out];simp [*]:_=_));(try (have g1:((s.size:Int) != 32)=false:=by simp [c1]));(try (have g1:((s.size:Int) != 32)=true:=ybh));(try (have g3:(16:Int) < (m:Int):=by omega));(try (have g3:¬(16:Int) < (m:Int):=by omega));(try (have g4:ix < 0:=by omega));(try (have g4:¬ix < 0:=by omega));(try (have g5:(m:Int)<=ix:=by omega));(try (have g5:¬(m:Int)<=ix:=by omega));(try (have g6:(n:Int) < 1:=by omega));(try (have g6:¬(n:Int) < 1:=by omega));(try (have g7:(65536:Int) < (n:Int):=by omega));(try (have g7:¬(65536:Int) < (n:Int):=by omega));clear J M W H;go_enter func49,ntmps49;(go_upto_region 1 with fail);rw [<-HWE.out];go_wp2;go_ret;exact ⟨by rw [HF.out];rfl,HB1.out⟩
   ·(have HF:Hid (vrB s ix xs ys=false):=(by rw [H.out];simp [*]:_=_));(try (have g1:((s.size:Int) != 32)=false:=by simp [c1]));(try (have g1:((s.size:Int) != 32)=true:=ybh));(try (have g3:(16:Int) < (m:Int):=by omega));(try (have g3:¬(16:Int) < (m:Int):=by omega));(try (have g4:ix < 0:=by omega));(try (have g4:¬ix < 0:=by omega));(try (have g5:(m:Int)<=ix:=by omega));(try (have g5:¬(m:Int)<=ix:=by omega));(try (have g6:(n:Int) < 1:=by omega));(try (have g6:¬(n:Int) < 1:=by omega));(try (have g7:(65536:Int) < (n:Int):=by omega));(try (have g7:¬(65536:Int) < (n:Int):=by omega));clear J M W H;go_enter func49,ntmps49;(go_upto_region 1 with fail);rw [<-HWE.out];go_wp2;go_ret;exact ⟨by rw [HF.out];rfl,HB1.out⟩
  ·(have HF:Hid (vrB s ix xs ys=false):=(by rw [H.out];simp [*]:_=_));(try (have g1:((s.size:Int) != 32)=false:=by simp [c1]));(try (have g1:((s.size:Int) != 32)=true:=ybh));(try (have g3:(16:Int) < (m:Int):=by omega));(try (have g3:¬(16:Int) < (m:Int):=by omega));(try (have g4:ix < 0:=by omega));(try (have g4:¬ix < 0:=by omega));(try (have g5:(m:Int)<=ix:=by omega));(try (have g5:¬(m:Int)<=ix:=by omega));(try (have g6:(n:Int) < 1:=by omega));(try (have g6:¬(n:Int) < 1:=by omega));(try (have g7:(65536:Int) < (n:Int):=by omega));(try (have g7:¬(65536:Int) < (n:Int):=by omega));clear J M W H;go_enter func49,ntmps49;(go_upto_region 1 with fail);rw [<-HWE.out];go_wp2;go_ret;exact ⟨by rw [HF.out];rfl,HB1.out⟩
 ·(have HF:Hid (vrB s ix xs ys=false):=(by rw [H.out];simp [*]:_=_));(try (have g1:((s.size:Int) != 32)=false:=by simp [c1]));(try (have g1:((s.size:Int) != 32)=true:=ybh));(try (have g3:(16:Int) < (m:Int):=by omega));(try (have g3:¬(16:Int) < (m:Int):=by omega));(try (have g4:ix < 0:=by omega));(try (have g4:¬ix < 0:=by omega));(try (have g5:(m:Int)<=ix:=by omega));(try (have g5:¬(m:Int)<=ix:=by omega));(try (have g6:(n:Int) < 1:=by omega));(try (have g6:¬(n:Int) < 1:=by omega));(try (have g7:(65536:Int) < (n:Int):=by omega));(try (have g7:¬(65536:Int) < (n:Int):=by omega));clear J M W H;go_enter func49,ntmps49;(go_upto_region 1 with fail);rw [<-HWE.out];go_wp2;go_ret;exact ⟨by rw [HF.out];rfl,HB1.out⟩
theorem rb1 {P:Program} {ops:Array Oper} {Q:Exit->Act->World->Prop} {md:Region.Mode} {S:World->Prop} {oi:Oper} {fuel:Nat} {listed:Array Bool} {a:Act} {w:World} (i:Nat)
 (h:∀K':Act->World->Prop,Shut (∀a w,S w->(S w->wpAnyH P md ops Q S fuel (listed.setIfInBounds i true) a w)->K' a w)->if Region.wanted oi (yielded ops a.tmps)=true then Oper.wp P oi a w K' Q else K' (a.put oi.dst undef) w)
 (hr:Region.ready md ops listed=[i]:=by decide+kernel) (hi:ops[i]? =some oi:=by simp only [List.getElem?_toArray,List.getElem?_cons_succ,List.getElem?_cons_zero];rfl):wpAnyH P md ops Q S (fuel+1) listed a w:=
 wpAnyH_ready hr sI (AllReadyH.cons hi h AllReadyH.nil)
theorem rb2 {P:Program} {ops:Array Oper} {Q:Exit->Act->World->Prop} {md:Region.Mode} {S:World->Prop} {oi oj:Oper} {fuel:Nat} {listed:Array Bool} {a:Act} {w:World} (i j:Nat)
 (h:∀K':Act->World->Prop,Shut (∀a w,S w->(S w->wpAnyH P md ops Q S fuel (listed.setIfInBounds i true) a w)->K' a w)->if Region.wanted oi (yielded ops a.tmps)=true then Oper.wp P oi a w K' Q else K' (a.put oi.dst undef) w)
 (g:∀K':Act->World->Prop,Shut (∀a w,S w->(S w->wpAnyH P md ops Q S fuel (listed.setIfInBounds j true) a w)->K' a w)->if Region.wanted oj (yielded ops a.tmps)=true then Oper.wp P oj a w K' Q else K' (a.put oj.dst undef) w)
 (hr:Region.ready md ops listed=[i,j]:=by decide+kernel) (hi:ops[i]? =some oi:=by simp only [List.getElem?_toArray,List.getElem?_cons_succ,List.getElem?_cons_zero];rfl) (hj:ops[j]? =some oj:=by simp only [List.getElem?_toArray,List.getElem?_cons_succ,List.getElem?_cons_zero];rfl):wpAnyH P md ops Q S (fuel+1) listed a w:=
 wpAnyH_ready hr sI (AllReadyH.cons hi h (AllReadyH.cons hj g AllReadyH.nil))
