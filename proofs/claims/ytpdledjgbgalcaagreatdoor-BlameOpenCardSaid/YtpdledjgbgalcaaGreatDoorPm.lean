import Derived.Test.YtpdledjgbgalcaaGreatDoorPf
namespace Go.Proofs.YtpdledjgbgalcaaGreatDoor
set_option maxRecDepth 100000
set_option maxHeartbeats 8000000
open Go.RowKit Go.Lib Go.Proofs.Tryz
set_option linter.unusedVariables false
set_option linter.unusedSimpArgs false
def rootF:Nat->List ByteArray->ByteArray
 |0,_=>baOf (shaB [])
 |k+1,ls=>if ls.length<=1 then ls.headD ⟨#[]⟩ else ndS (rootF k (ls.take (spl ls.length))) (rootF k (ls.drop (spl ls.length)))
theorem yc3:∀(k:Nat) (G:List ByteArray),(∀s∈G,s.size=32)->1<=G.length->(rootF k G).size=32
 |0,G,_,_=>by
  unfold rootF;rw [<-ybI,ybC (ycG _),ycq]
 |k+1,G,h,h1=>by
  rw [rootF]
  split
  ·cases G with
   |nil=>simp at h1
   |cons a t=>exact h a List.mem_cons_self
  ·exact yc1 _ _
theorem ycs {P:Program} (t e:Nat) (i:TypeInfo) (ht:P.underlying t=some (.slice e)) (hi:P.info? e=some i) (hs:i.size=1) (A:Option Addr) (n c:Nat) (h:Nat) (h2:h<=c) (w:World):
 (Instr.slice t (.slice A n c) none (some (.int .i64 (h:Int))) none).run P w= .ok (.slice (if c=0 then A else A.map (·.add 0)) h c) w:=by
 simp [Instr.slice,run_underlying ht,Instr.sliceBounds,run_sliceBound w .i64 (h:Int) c _ om om,sizeOf,typeInfo,hi,hs]
theorem Sl.partT {w:World} {B n c:Nat} {A:Option Addr} {xs:List ByteArray} (h:Sl fT w B A n xs) (l k:Nat) (hl:l+k<=n) (G:n<=c):Sl fT w B (if c=l then A else A.map (·.add l)) k ((xs.drop l).take k):=by
 have h1:=h.1;refine ⟨by rw [List.length_take,List.length_drop];omega,?_⟩;exact ((h.2.cut (n:=l) (cap:=c) om).take_ k)
theorem ydu:∀(k:Nat) (A:Option Addr) (n c B:Nat) (G:List ByteArray) (w:World) (T:Glob w),Sl fT w B A n G->B<=w.heap.size->n<=c->G.length<=k->1<=n->n<=256->(∀s∈G,s.size=32)->
 Calls prog 102 #[.slice A n c] w fun e M=>e= .returned (.string (rootF k G))/\Below w.heap.size w M
 |0,A,n,c,B,G,w,T,hx,hB,hc,hk,h1,h2,hs=>by have:=hx.1;omega
 |k+1,A,n,c,B,G,w,T,hx,hB,hc,hk,h1,h2,hs=>by
  have hl:G.length=n:=hx.1
  by_cases ay:n=1
  ·subst ay;obtain ⟨b1,o1,x,rfl,_,hg,az⟩:=hx.2.at_ (k:=0) om
   have U:Hid (rootF (k+1) G=x):=by
    show _=_;rw [rootF,if_pos om]
    cases G with
    |nil=>cases hg
    |cons a t=>simpa using hg
   rw [Nat.add_zero] at az;clear hx hg hs hl;go_enter func102,ntmps102;go_wp2;go_ret;exact ⟨by rw [U.out];rfl,Below.refl _ _⟩
  ·obtain ⟨f1,f2,f3,f4,f5⟩:=ycy (n:=n) om h2
   have U:Hid (rootF (k+1) G=ndS (rootF k (G.take (spl n))) (rootF k (G.drop (spl n)))):=by
    show _=_;rw [rootF,if_neg om,hl]
   obtain ⟨p,hp⟩:=gx (spl n);have aa:=lh (fun W=>msplit_any n om h2 W);rw [hp] at aa U f3 f4 f5;obtain ⟨iS,ac,_,af,_⟩:=info_parts Tryz.infoS;obtain ⟨A1,z⟩:∃A1,(if c=0 then A else A.map (·.add 0))=A1:=⟨_,rfl⟩
   obtain ⟨Z,ae⟩:∃Z,(if c=p then A else A.map (·.add p))=Z:=⟨_,rfl⟩
   have au:=ycs (P:=prog) 24 9 iS underlying24 ac af A n c p om;have ar:=fun W=>ybv (P:=prog) 24 9 iS underlying24 ac af A n c .i64 p p rfl om hc W;rw [z] at au;rw [ae] at ar
   have ah:Hid (∀W,Below w.heap.size w W->Sl fT W B A1 p (G.take p)):=fun W H=>by
    have:=(hx.up H hB).partT (c:=c) 0 p om hc;rw [z,List.drop_zero] at this;exact this
   have ak:Hid (∀W,Below w.heap.size w W->Sl fT W B Z (n - p) (G.drop p)):=fun W H=>by
    have:=(hx.up H hB).partT (c:=c) p (n - p) om hc;rw [ae,List.take_of_length_le yaY] at this;exact this
   have aj:Hid (∀W,Below w.heap.size w W->Calls prog 102 #[.slice A1 p c] W fun e M=>e= .returned (.string (rootF k (G.take p)))/\Below W.heap.size W M):=fun W H=>
    ydu k A1 p c B (G.take p) W (T.on H) (ah.out W H) (lT hB H.size) om (by rw [List.length_take];omega) f3 om (fun s h=>hs s (List.mem_of_mem_take h))
   have ap:Hid (∀W,Below w.heap.size w W->Calls prog 102 #[.slice Z (n - p) (c - p)] W fun e M=>e= .returned (.string (rootF k (G.drop p)))/\Below W.heap.size W M):=fun W H=>
    ydu k Z (n - p) (c - p) B (G.drop p) W (T.on H) (ak.out W H) (lT hB H.size) om yaY om om (fun s h=>hs s (List.mem_of_mem_drop h))
   have am:(rootF k (G.take p)).size=32:=yc3 k _ (fun s h=>hs s (List.mem_of_mem_take h)) (by rw [List.length_take];omega);have ao:(rootF k (G.drop p)).size=32:=yc3 k _ (fun s h=>hs s (List.mem_of_mem_drop h)) yaY;obtain ⟨ra,ai⟩:=gx (rootF k (G.take p));obtain ⟨rb,aq⟩:=gx (rootF k (G.drop p));rw [ai] at aj U am;rw [aq] at ap U ao;have ax:Hid (∀W,Below w.heap.size w W->Calls prog 168 #[.string ra,.string rb] W fun e M=>e= .returned (.string (ndS ra rb))/\Below W.heap.size W M):=fun W H=>ycO ra rb W (T.on H) om om;have aB:((n:Int)==0)=false:=by simp;omega
   have aA:((n:Int)==1)=false:=by simp;omega
   have aC:(p:Int)<=(n:Int):=by omega
   have HB:Hid (Below w.heap.size w w):=Below.refl _ _;clear hx ai aq am ao z ae ah ak hs ac af hp f1 f2 T;go_enter func102,ntmps102;go_upto_region 7 with (go_at_call 167;(with_reducible refine (aa.out _).mono ?_);rintro e W1 ⟨rfl,rfl⟩)
   refine rH (S:=(fun _=>True)) ya9 ybb (fun ag=>?_)
   (iterate 3 refine tkA ?_)
   refine tkY 4 ?_;refine tkY 5 ?_;refine tkY 6 ?_;refine rd1 3 (fun K L=>?_)
   (go_simp;go_at_call 102;(with_reducible refine (aj.out _ yaB).mono ?_);rintro e Y ⟨rfl,J⟩;(have HB:Hid (Below w.heap.size w Y):=(Below.trans (B:=w.heap.size) yaB (J.mono yaT)));clear J;go_wp2_with fail)
   refine L.out _ _ ybb (fun O=>?_);clear L K ag
   try simp only [pt]
   refine rd1 7 (fun K L=>?_)
   (go_simp;go_at_call 102;(with_reducible refine (ap.out _ yaB).mono ?_);rintro e Y ⟨rfl,J⟩;(have HB:Hid (Below w.heap.size w Y):=(Below.trans (B:=w.heap.size) yaB (J.mono yaT)));clear J;go_wp2_with fail)
   refine L.out _ _ ybb (fun N=>?_);clear L K O
   try simp only [pt]
   refine rd1 8 (fun K L=>?_)
   (go_simp;go_at_call 168;(with_reducible refine (ax.out _ yaB).mono ?_);rintro e Y ⟨rfl,J⟩;(have HB:Hid (Below w.heap.size w Y):=(Below.trans (B:=w.heap.size) yaB (J.mono yaT)));clear J;go_wp2_with fail)
   refine L.out _ _ ybb (fun aw=>?_);clear L K N
   try simp only [pt]
   refine tkY 9 ?_;refine wpAnyH_done ya9 ?_ _;go_wp2_with fail;go_ret;exact ⟨by rw [U.out];rfl,HB.out⟩
theorem ydv:∀(k:Nat) (A:Option Addr) (n c B:Nat) (G:List ByteArray) (w:World),Sl fT w B A n G->B<=w.heap.size->n<=c->G.length<=k->1<=n->n<=256->(∀s∈G,s.size=32)->
 Calls prog 65 #[.slice A n c] w fun e M=>e= .returned (.string (rootF k G))/\Below w.heap.size w M
 |0,A,n,c,B,G,w,hx,hB,hc,hk,h1,h2,hs=>by have:=hx.1;omega
 |k+1,A,n,c,B,G,w,hx,hB,hc,hk,h1,h2,hs=>by
  have hl:G.length=n:=hx.1
  by_cases ax:n=1
  ·subst ax;obtain ⟨b1,o1,x,rfl,_,hg,ay⟩:=hx.2.at_ (k:=0) om
   have T:Hid (rootF (k+1) G=x):=by
    show _=_;rw [rootF,if_pos om]
    cases G with
    |nil=>cases hg
    |cons a t=>simpa using hg
   rw [Nat.add_zero] at ay;clear hx hg hs hl;go_enter func65,ntmps65;go_wp2;go_ret;exact ⟨by rw [T.out];rfl,Below.refl _ _⟩
  ·obtain ⟨f1,f2,f3,f4,f5⟩:=ycy (n:=n) om h2
   have T:Hid (rootF (k+1) G=ndS (rootF k (G.take (spl n))) (rootF k (G.drop (spl n)))):=by
    show _=_;rw [rootF,if_neg om,hl]
   obtain ⟨p,hp⟩:=gx (spl n);have z:=lh (fun W=>rsplit_any n om h2 W);rw [hp] at z T f3 f4 f5;obtain ⟨iS,aa,_,ae,_⟩:=info_parts Tryz.infoS;obtain ⟨A1,Z⟩:∃A1,(if c=0 then A else A.map (·.add 0))=A1:=⟨_,rfl⟩
   obtain ⟨Y,ac⟩:∃Y,(if c=p then A else A.map (·.add p))=Y:=⟨_,rfl⟩
   have ar:=ycs (P:=prog) 24 9 iS underlying24 aa ae A n c p om;have aq:=fun W=>ybv (P:=prog) 24 9 iS underlying24 aa ae A n c .i64 p p rfl om hc W;rw [Z] at ar;rw [ac] at aq
   have ag:Hid (∀W,Below w.heap.size w W->Sl fT W B A1 p (G.take p)):=fun W H=>by
    have:=(hx.up H hB).partT (c:=c) 0 p om hc;rw [Z,List.drop_zero] at this;exact this
   have aj:Hid (∀W,Below w.heap.size w W->Sl fT W B Y (n - p) (G.drop p)):=fun W H=>by
    have:=(hx.up H hB).partT (c:=c) p (n - p) om hc;rw [ac,List.take_of_length_le yaY] at this;exact this
   have ai:Hid (∀W,Below w.heap.size w W->Calls prog 65 #[.slice A1 p c] W fun e M=>e= .returned (.string (rootF k (G.take p)))/\Below W.heap.size W M):=fun W H=>
    ydv k A1 p c B (G.take p) W (ag.out W H) (lT hB H.size) om (by rw [List.length_take];omega) f3 om (fun s h=>hs s (List.mem_of_mem_take h))
   have ao:Hid (∀W,Below w.heap.size w W->Calls prog 65 #[.slice Y (n - p) (c - p)] W fun e M=>e= .returned (.string (rootF k (G.drop p)))/\Below W.heap.size W M):=fun W H=>
    ydv k Y (n - p) (c - p) B (G.drop p) W (aj.out W H) (lT hB H.size) om yaY om om (fun s h=>hs s (List.mem_of_mem_drop h))
   have ak:(rootF k (G.take p)).size=32:=yc3 k _ (fun s h=>hs s (List.mem_of_mem_take h)) (by rw [List.length_take];omega);have am:(rootF k (G.drop p)).size=32:=yc3 k _ (fun s h=>hs s (List.mem_of_mem_drop h)) yaY;obtain ⟨ra,ah⟩:=gx (rootF k (G.take p));obtain ⟨rb,ap⟩:=gx (rootF k (G.drop p));rw [ah] at ai T ak;rw [ap] at ao T am;have aw:Hid (∀W,Below w.heap.size w W->Calls prog 125 #[.string ra,.string rb] W fun e M=>e= .returned (.string (ndS ra rb))/\Below W.heap.size W M):=fun W H=>ycP ra rb W om om;have aA:((n:Int)==0)=false:=by simp;omega
   have az:((n:Int)==1)=false:=by simp;omega
   have aB:(p:Int)<=(n:Int):=by omega
   have HB:Hid (Below w.heap.size w w):=Below.refl _ _;clear hx ah ap ak am Z ac ag aj hs aa ae hp f1 f2;go_enter func65,ntmps65;go_upto_region 7 with (go_at_call 124;(with_reducible refine (z.out _).mono ?_);rintro e W1 ⟨rfl,rfl⟩)
   refine rH (S:=(fun _=>True)) ya9 ybb (fun af=>?_)
   (iterate 3 refine tkA ?_)
   refine tkY 4 ?_;refine tkY 5 ?_;refine tkY 6 ?_;refine rd1 3 (fun K L=>?_)
   (go_simp;go_at_call 65;(with_reducible refine (ai.out _ yaB).mono ?_);rintro e U ⟨rfl,J⟩;(have HB:Hid (Below w.heap.size w U):=(Below.trans (B:=w.heap.size) yaB (J.mono yaT)));clear J;go_wp2_with fail)
   refine L.out _ _ ybb (fun O=>?_);clear L K af
   try simp only [pt]
   refine rd1 7 (fun K L=>?_)
   (go_simp;go_at_call 65;(with_reducible refine (ao.out _ yaB).mono ?_);rintro e U ⟨rfl,J⟩;(have HB:Hid (Below w.heap.size w U):=(Below.trans (B:=w.heap.size) yaB (J.mono yaT)));clear J;go_wp2_with fail)
   refine L.out _ _ ybb (fun N=>?_);clear L K O
   try simp only [pt]
   refine rd1 8 (fun K L=>?_)
   (go_simp;go_at_call 125;(with_reducible refine (aw.out _ yaB).mono ?_);rintro e U ⟨rfl,J⟩;(have HB:Hid (Below w.heap.size w U):=(Below.trans (B:=w.heap.size) yaB (J.mono yaT)));clear J;go_wp2_with fail)
   refine L.out _ _ ybb (fun au=>?_);clear L K N
   try simp only [pt]
   refine tkY 9 ?_;refine wpAnyH_done ya9 ?_ _;go_wp2_with fail;go_ret;exact ⟨by rw [T.out];rfl,HB.out⟩
def blkU:Nat->List Int->List ByteArray
 |0,_=>[]
 |k+1,xs=>if xs.length=0 then [] else leafS (xs.take 512)::blkU k (xs.drop 512)
theorem blkU_nil (k:Nat) (xs:List Int) (h:xs.length=0):blkU k xs=[]:=by
 cases k with
 |zero=>rfl
 |succ k=>rw [blkU,if_pos h]
theorem ycn (xs:List Int):(leafS xs).size=32:=by unfold leafS;rw [<-ybI,ybC (ycG _),ycq]
theorem blkU_size:∀(k:Nat) (xs:List Int),∀s∈blkU k xs,s.size=32
 |0,_,s,h=>by cases h
 |k+1,xs,s,h=>by
  rw [blkU] at h
  split at h
  ·cases h
  ·rcases List.mem_cons.1 h with h1 |h1
   ·rw [h1];exact ycn _
   ·exact blkU_size k _ s h1
theorem blkU_len:∀(k:Nat) (xs:List Int),(blkU k xs).length*512<=xs.length+511
 |0,xs=>by show 0*512<=xs.length+511;omega
 |k+1,xs=>by
  rw [blkU]
  split
  ·show 0*512<=xs.length+511;omega
  ·have:=blkU_len k (xs.drop 512);rw [List.length_drop] at this;rw [List.length_cons];omega
theorem blkU_pos (k:Nat) (xs:List Int) (h:0 < xs.length):1<=(blkU (k+1) xs).length:=by
 rw [blkU,if_neg om,List.length_cons];omega
theorem Sl.partU {α:Type} {f:α->Value} {w:World} {B n c:Nat} {A:Option Addr} {xs:List α} (h:Sl f w B A n xs) (l k:Nat) (hl:l+k<=n) (G:n<=c):Sl f w B (if c=l then A else A.map (·.add l)) k ((xs.drop l).take k):=by
 have h1:=h.1;refine ⟨by rw [List.length_take,List.length_drop];omega,?_⟩;exact ((h.2.cut (n:=l) (cap:=c) om).take_ k)
theorem Sl.head {f:Int->Value} {w:World} {B n:Nat} {A:Option Addr} {xs:List Int} (h:Sl f w B A n xs) (m:Nat) (hm:m<=n):Sl f w B A m (xs.take m):=
 ⟨by rw [List.length_take,h.1];omega,h.2.take_ m⟩
theorem mblocks_any (A:Option Addr) (n c B:Nat) (xs:List Int) (w:World) (hG:Glob w) (hc:n<=c) (hx:Sl fB w B A n xs) (O:B<=w.heap.size) (hl:n<=65536) (ag:Byt xs):
 Calls prog 166 #[.slice A n c,.int .i64 512] w fun e Z=>∃v,e= .returned (.tuple #[v,.int .i64 0])/\Own fT 9 Z w.heap.size v (blkU (xs.length+1) xs)/\Below w.heap.size w Z:=by
 obtain ⟨i0,hi,ac,ap,aq⟩:=info_parts Tryz.infoS;have HI:=lh hi;have aB:=lh ac;have aH:=lh ap;have aI:=lh aq;obtain ⟨iB,N,_,aj,_⟩:=info_parts Tryz.infoB;have ah:Hid (Below w.heap.size w w):=Below.refl _ _;have aJ:Hid (Own fT 9 w w.heap.size (.slice none 0 0) []):=Own.nil;have aL:=lh O
 have HC:Hid (∀(W:World) (H:Option Addr) (m G:Nat) (ys:List Int),Below w.heap.size w W->Sl fB W B H m ys->m<=G->m<=512->Byt ys->0 < m->Calls prog 151 #[.slice H m G] W fun e Z=>e= .returned (.string (leafS ys))/\Below W.heap.size W Z):=fun W H m G ys M hs hc hm hy h0=>
  ydm H m G B ys W (hG.on M) hs hc (lT O M.size) om hy (fun a ha=>by
     obtain ⟨b,aN,e,hlt⟩:=hs.at0 h0;rw [ha] at e;cases e
     exact Nat.lt_of_lt_of_le hlt (lT O M.size))
 have aC:Hid (Sl fB w B A n xs):=hx.up ah.out O;have aK:=lh ag;have aT:¬(1048576:Int) < (n:Int):=by omega
 have ax:=lh (fun (H:Option Addr) (r G m:Nat) (h:m<=G) (W:World)=>ybW (P:=prog) 40 5 iB underlying40 N H r G .i64 (m:Int) m rfl h W);have aw:=lh (fun (H:Option Addr) (r G m:Nat) (h:m<=r) (h2:r<=G) (W:World)=>ybv (P:=prog) 40 5 iB underlying40 N aj H r G .i64 (m:Int) m rfl h h2 W);have aQ:xs.length=n:=hx.1;clear hi ac ap aq hx ag hG O N aj;go_enter func166,ntmps166;go_upto_region 6 with fail
 skip
 go_loopw [0,6] (fun x v wr=>∃(k r G:Nat) (H:Option Addr) (ys:List Int) (J:List ByteArray),x= .slice H r G/\r<=G/\r<=65536/\r<=k/\J.length+r<=65536/\Hid (Sl fB wr B H r ys)/\Hid (Byt ys)/\Hid (blkU (xs.length+1) xs=J++blkU k ys)/\Hid (Own fT 9 wr w.heap.size v J)/\Hid (Below w.heap.size w wr)) (fun x _ _=>ycp x)
 case atStart=>exact ⟨xs.length+1,n,c,A,xs,[],rfl,hc,hl,by omega,by simpa using hl,aC,aK,rfl,aJ,ah⟩
 case round=>
  obtain ⟨k,r,G,H,ys,J,rfl,af,hr,aR,aP,K,HY,HE,HO,HB⟩:=hrel
  by_cases ao:r=0
  ·subst ao;have HD:Hid (blkU (xs.length+1) xs=J):=by show _=_;rw [HE.out,blkU_nil k ys K.out.1,List.append_nil]
   go_wp2;go_ret2;exact ⟨_,rfl,by rw [HD.out];exact HO.out,HB.out⟩
  ·have aS:(0:Int) < (r:Int):=by omega
   obtain ⟨k,rfl⟩:∃k',k=k'+1:=⟨k - 1,by omega⟩
   obtain ⟨m,hm⟩:=gx (min r 512);have L:0 < m/\m<=512/\m<=r:=by omega
   have au:(if (r:Int) < 512 then (r:Int) else 512)=(m:Int):=by split<;>omega
   have ar:ys.take 512=ys.take m:=by
    have h1:=K.out.1;rcases Nat.lt_or_ge r 512 with c |c
    ·rw [List.take_of_length_le om,List.take_of_length_le om]
    ·rw [show m=512 by omega]
   have aa:ys.drop 512=ys.drop m:=by
    have h1:=K.out.1;rcases Nat.lt_or_ge r 512 with c |c
    ·rw [List.drop_eq_nil_of_le om,List.drop_eq_nil_of_le om]
    ·rw [show m=512 by omega]
   have U:Hid (blkU (xs.length+1) xs=(J++[leafS (ys.take m)])++blkU k (ys.drop m)):=by
    show _=_;rw [HE.out,blkU,if_neg (by rw [K.out.1];exact ao),ar,aa,List.append_assoc];rfl
   obtain ⟨Y,T⟩:∃Y,(if G=m then H else H.map (·.add m))=Y:=⟨_,rfl⟩
   have aA:=ax.out H r G m om;have aG:=aw.out H r G m L.2.2 af;rw [T] at aG;have HCL:=lh (HC.out wr H m G (ys.take m) HB.out (K.out.head m L.2.2) om L.2.1 (HY.out.take m) L.1)
   have z:Hid (∀W,Below w.heap.size wr W->Sl fB W B Y (r - m) (ys.drop m)):=fun W M=>by
    have h3:=(K.out.up M aL.out).partU (c:=G) m (r - m) om af;rw [T,List.take_of_length_le (by rw [List.length_drop,K.out.1];omega)] at h3;exact h3
   have ae:Hid (Byt (ys.drop m)):=HY.out.drop m;have az:Hid ((J.length+1)*16<=140737488355328):=by show _<=_;omega
   have aE:Hid (J.length+1<=maxLen):=by show _<=_;unfold maxLen;omega
   generalize leafS (ys.take m)=lf at HCL U;generalize ys.drop m=ys2 at z ae U;clear ar aa T hm HE K HY
   go_upto_region 9 with (first
    |(go_at_call 151;(with_reducible refine HCL.out.mono ?_);rintro e w1 ⟨rfl,am⟩;(have HB1:=lh am);(have ai:Hid (Own fT 9 w1 w.heap.size u6 J):=HO.out.on HB1.out);(have HS1:Hid (w.heap.size<=w1.heap.size):=lT HB.out.size HB1.out.size);clear am)
    |(at_builtin;(with_reducible refine ybk (o:=⟨some 26,_,_,_,_,_⟩) rfl (.tmp 20) (.tmp 25) 24 rfl 9 i0 (.string ⟨#[]⟩) 16 underlying24 HI.out aB.out aH.out aI.out rfl _ J w.heap.size rfl ai.out lf 1 rfl fT1 az.out aE.out HS1.out ?_);intro v2 w2 aD aF aO))
   have ak:Below w.heap.size wr w2:=(HB1.out.mono HB.out.size).trans (ybe aF.out (fun j hj=>(ol ai.out j hj).1) HS1.out);have ay:Hid (Below w.heap.size w w2):=HB.out.trans ak;have aM:=lh (z.out w2 ak);clear aA au;go_wp2
   all_goals refine ⟨?rel,?measure⟩
   all_goals first
    |exact ⟨k,r - m,G - m,Y,ys2,J++[lf],rfl,by omega,by omega,by omega,by rw [List.length_append];simp only [List.length_cons,List.length_nil];omega,aM,ae,U,aD,ay⟩
    |(show r - m < r;omega)
theorem mof_any (A:Option Addr) (n c B:Nat) (xs:List Int) (w:World) (Z:Glob w) (hc:n<=c) (N:Sl fB w B A n xs) (hB:B<=w.heap.size) (h0:0 < n) (hl:n<=65536) (O:Byt xs):
 Calls prog 101 #[.slice A n c,.int .i64 512] w fun e w'=>e= .returned (.tuple #[.string (rootF 256 (blkU (xs.length+1) xs)),.int .i64 0])/\Below w.heap.size w w':=by
 have HC:=lh (mblocks_any A n c B xs w Z hc N hB hl O);have z:=blkU_len (xs.length+1) xs;have Y:=blkU_pos xs.length xs (by have:=N.1;omega);have ag:xs.length=n:=N.1;have U:=blkU_size (xs.length+1) xs;obtain ⟨L,hL⟩:=gx (blkU (xs.length+1) xs);rw [hL] at HC z Y U ⊢;clear hL
 have HR:Hid (∀W M G H,Below w.heap.size w W->Own fT 9 W w.heap.size (.slice M G H) L->G=L.length->G<=H->Calls prog 102 #[.slice M G H] W fun e w'=>e= .returned (.string (rootF 256 L))/\Below W.heap.size W w'):=fun W M G H J K hn af=>by
  obtain ⟨A5,c5,hv,h1,h2,_⟩:=K.shape;injection hv with e1 e2 e3;subst e1;subst e3;exact ydu 256 M G H W.heap.size L W (Z.on J) ⟨hn.symm,h2⟩ nl af om om om U
 clear N O Z;go_enter func101,ntmps101
 go_wp2_with (first
  |(go_at_call 166;(refine HC.out.mono ?_);rintro e w1 ⟨v,rfl,K,J⟩;(obtain ⟨A5,c5,rfl,aa,_,_⟩:=K.shape);(have HB1:=lh J);(have ac:=lh (HR.out w1 A5 _ c5 J K rfl aa));clear K J)
  |(go_at_call 102;(refine ac.out.mono ?_);rintro e w2 ⟨rfl,T⟩;(have ae:=lh T);clear T))
 go_ret2;exact ⟨rfl,bt HB1.out ae.out⟩
theorem rblocks_any (A:Option Addr) (n c B:Nat) (xs:List Int) (w:World) (hc:n<=c) (hx:Sl fB w B A n xs) (Y:B<=w.heap.size) (hl:n<=65536) (af:Byt xs):
 Calls prog 180 #[.slice A n c,.int .i64 512] w fun e U=>∃v,e= .returned (.tuple #[v,.int .i64 0])/\Own fT 9 U w.heap.size v (blkU (xs.length+1) xs)/\Below w.heap.size w U:=by
 obtain ⟨i0,hi,z,ao,ap⟩:=info_parts Tryz.infoS;have HI:=lh hi;have aA:=lh z;have aG:=lh ao;have aH:=lh ap;obtain ⟨iB,M,_,ai,_⟩:=info_parts Tryz.infoB;have ag:Hid (Below w.heap.size w (w.alloc (.cells #[] 9))):=bl;have aI:Hid (Own fT 9 (w.alloc (.cells #[] 9)) w.heap.size (.slice (some ⟨w.heap.size,0,none⟩) 0 0) []):=World.ownsRow_lit w #[] 0 nl ya5 rfl;have aK:=lh Y
 have HC:Hid (∀(W:World) (H:Option Addr) (m G:Nat) (ys:List Int),Below w.heap.size w W->Sl fB W B H m ys->m<=G->m<=512->Byt ys->0 < m->Calls prog 157 #[.slice H m G] W fun e U=>e= .returned (.string (leafS ys))/\Below W.heap.size W U):=fun W H m G ys hb hs hc hm hy h0=>
  ydn H m G B ys W hs (lT Y hb.size) om hy
 have aB:Hid (Sl fB (w.alloc (.cells #[] 9)) B A n xs):=hx.up ag.out Y;have aJ:=lh af;have aR:¬(1048576:Int) < (n:Int):=by omega
 have aw:=lh (fun (H:Option Addr) (r G m:Nat) (h:m<=G) (W:World)=>ybW (P:=prog) 40 5 iB underlying40 M H r G .i64 (m:Int) m rfl h W);have au:=lh (fun (H:Option Addr) (r G m:Nat) (h:m<=r) (h2:r<=G) (W:World)=>ybv (P:=prog) 40 5 iB underlying40 M ai H r G .i64 (m:Int) m rfl h h2 W);have aO:xs.length=n:=hx.1;clear hi z ao ap hx af Y M ai;go_enter func180,ntmps180;go_upto_region 6 with fail
 skip
 go_loopw [0,6] (fun x v wr=>∃(k r G:Nat) (H:Option Addr) (ys:List Int) (J:List ByteArray),x= .slice H r G/\r<=G/\r<=65536/\r<=k/\J.length+r<=65536/\Hid (Sl fB wr B H r ys)/\Hid (Byt ys)/\Hid (blkU (xs.length+1) xs=J++blkU k ys)/\Hid (Own fT 9 wr w.heap.size v J)/\Hid (Below w.heap.size w wr)) (fun x _ _=>ycp x)
 case atStart=>exact ⟨xs.length+1,n,c,A,xs,[],rfl,hc,hl,by omega,by simpa using hl,aB,aJ,rfl,aI,ag⟩
 case round=>
  obtain ⟨k,r,G,H,ys,J,rfl,ae,hr,aP,aN,K,HY,HE,HO,HB⟩:=hrel
  by_cases am:r=0
  ·subst am;have HD:Hid (blkU (xs.length+1) xs=J):=by show _=_;rw [HE.out,blkU_nil k ys K.out.1,List.append_nil]
   go_wp2;go_ret2;exact ⟨_,rfl,by rw [HD.out];exact HO.out,HB.out⟩
  ·have aQ:(0:Int) < (r:Int):=by omega
   obtain ⟨k,rfl⟩:∃k',k=k'+1:=⟨k - 1,by omega⟩
   obtain ⟨m,hm⟩:=gx (min r 512);have L:0 < m/\m<=512/\m<=r:=by omega
   have ar:(if (r:Int) < 512 then (r:Int) else 512)=(m:Int):=by split<;>omega
   have aq:ys.take 512=ys.take m:=by
    have h1:=K.out.1;rcases Nat.lt_or_ge r 512 with c |c
    ·rw [List.take_of_length_le om,List.take_of_length_le om]
    ·rw [show m=512 by omega]
   have aa:ys.drop 512=ys.drop m:=by
    have h1:=K.out.1;rcases Nat.lt_or_ge r 512 with c |c
    ·rw [List.drop_eq_nil_of_le om,List.drop_eq_nil_of_le om]
    ·rw [show m=512 by omega]
   have O:Hid (blkU (xs.length+1) xs=(J++[leafS (ys.take m)])++blkU k (ys.drop m)):=by
    show _=_;rw [HE.out,blkU,if_neg (by rw [K.out.1];exact am),aq,aa,List.append_assoc];rfl
   obtain ⟨T,N⟩:∃T,(if G=m then H else H.map (·.add m))=T:=⟨_,rfl⟩
   have az:=aw.out H r G m om;have aF:=au.out H r G m L.2.2 ae;rw [N] at aF;have HCL:=lh (HC.out wr H m G (ys.take m) HB.out (K.out.head m L.2.2) om L.2.1 (HY.out.take m) L.1)
   have Z:Hid (∀W,Below w.heap.size wr W->Sl fB W B T (r - m) (ys.drop m)):=fun W hb=>by
    have h3:=(K.out.up hb aK.out).partU (c:=G) m (r - m) om ae;rw [N,List.take_of_length_le (by rw [List.length_drop,K.out.1];omega)] at h3;exact h3
   have ac:Hid (Byt (ys.drop m)):=HY.out.drop m;have ay:Hid ((J.length+1)*16<=140737488355328):=by show _<=_;omega
   have aD:Hid (J.length+1<=maxLen):=by show _<=_;unfold maxLen;omega
   generalize leafS (ys.take m)=lf at HCL O;generalize ys.drop m=ys2 at Z ac O;clear aq aa N hm HE K HY
   go_upto_region 9 with (first
    |(go_at_call 157;(with_reducible refine HCL.out.mono ?_);rintro e w1 ⟨rfl,ak⟩;(have HB1:=lh ak);(have ah:Hid (Own fT 9 w1 w.heap.size u6 J):=HO.out.on HB1.out);(have HS1:Hid (w.heap.size<=w1.heap.size):=lT HB.out.size HB1.out.size);clear ak)
    |(at_builtin;(with_reducible refine ybk (o:=⟨some 27,_,_,_,_,_⟩) rfl (.tmp 21) (.tmp 26) 24 rfl 9 i0 (.string ⟨#[]⟩) 16 underlying24 HI.out aA.out aG.out aH.out rfl _ J w.heap.size rfl ah.out lf 1 rfl fT1 ay.out aD.out HS1.out ?_);intro v2 w2 aC aE aM))
   have aj:Below w.heap.size wr w2:=(HB1.out.mono HB.out.size).trans (ybe aE.out (fun j hj=>(ol ah.out j hj).1) HS1.out);have ax:Hid (Below w.heap.size w w2):=HB.out.trans aj;have aL:=lh (Z.out w2 aj);clear az ar;go_wp2
   all_goals refine ⟨?rel,?measure⟩
   all_goals first
    |exact ⟨k,r - m,G - m,T,ys2,J++[lf],rfl,by omega,by omega,by omega,by rw [List.length_append];simp only [List.length_cons,List.length_nil];omega,aL,ac,O,aC,ax⟩
    |(show r - m < r;omega)
theorem rof_any (A:Option Addr) (n c B:Nat) (xs:List Int) (w:World) (hc:n<=c) (M:Sl fB w B A n xs) (hB:B<=w.heap.size) (h0:0 < n) (hl:n<=65536) (O:Byt xs):
 Calls prog 122 #[.slice A n c,.int .i64 512] w fun e z=>e= .returned (.tuple #[.string (rootF 256 (blkU (xs.length+1) xs)),.int .i64 0])/\Below w.heap.size w z:=by
 have HC:=lh (rblocks_any A n c B xs w hc M hB hl O);have Z:=blkU_len (xs.length+1) xs;have Y:=blkU_pos xs.length xs (by have:=M.1;omega);have ag:xs.length=n:=M.1;have U:=blkU_size (xs.length+1) xs;obtain ⟨L,hL⟩:=gx (blkU (xs.length+1) xs);rw [hL] at HC Z Y U ⊢;clear hL
 have HR:Hid (∀W K G H,Below w.heap.size w W->Own fT 9 W w.heap.size (.slice K G H) L->G=L.length->G<=H->Calls prog 65 #[.slice K G H] W fun e z=>e= .returned (.string (rootF 256 L))/\Below W.heap.size W z):=fun W K G H N J hn af=>by
  obtain ⟨A5,c5,hv,h1,h2,_⟩:=J.shape;injection hv with e1 e2 e3;subst e1;subst e3;exact ydv 256 K G H W.heap.size L W ⟨hn.symm,h2⟩ nl af om om om U
 clear M O;go_enter func122,ntmps122
 go_wp2_with (first
  |(go_at_call 180;(refine HC.out.mono ?_);rintro e w1 ⟨v,rfl,J,N⟩;(obtain ⟨A5,c5,rfl,aa,_,_⟩:=J.shape);(have HB1:=lh N);(have ac:=lh (HR.out w1 A5 _ c5 N J rfl aa));clear J N)
  |(go_at_call 65;(refine ac.out.mono ?_);rintro e w2 ⟨rfl,T⟩;(have ae:=lh T);clear T))
 go_ret2;exact ⟨rfl,bt HB1.out ae.out⟩
def al32 (ys:List ByteArray):Bool:=ys.all fun s=>decide (s.size=32)
theorem yc4 {ys:List ByteArray}:al32 ys=true↔∀s∈ys,s.size=32:=by unfold al32;simp
theorem vfU_any (s:ByteArray) (w:World):Calls prog 100 #[.string s] w fun e G=>e= .returned (.bool (!decide (s.size=32)))/\w=G:=by
 by_cases hs:s.size=32
 ·have H:((s.size:Int) != 32)=false:=by simp [hs]
  go_enter func100,ntmps100;go_wp2;go_ret;exact ⟨by first |rfl |simp [hs],rfl⟩
 ·have H:((s.size:Int) != 32)=true:=by simp;omega
  go_enter func100,ntmps100;go_wp2;go_ret;exact ⟨by first |rfl |simp [hs],rfl⟩
theorem indexFU_any (A:Option Addr) (n c B:Nat) (ys:List ByteArray) (w:World) (H:Sl fT w B A n ys) (hn:n<=1000000):
 Calls prog 165 #[.slice A n c,.func (.func 100) #[] #[]] w fun e M=>(∃r:Int,e= .returned (.int .i64 r)/\decide (0<=r)= !al32 ys)/\w=M:=by
 have N:=lh H;have HXN:Hid (ys.length=n):=H.1;clear H;go_enter func165,ntmps165;go_wp2
 go_loopw [8] (fun i wr=>(∃k:Nat,k<=n/\i= .int .i64 k/\Hid (∀j,j < k->∀s,ys[j]? =some s->s.size=32))/\w=wr) (fun i _=>n - (intOf i).toNat)
 case atStart=>exact ⟨⟨0,by omega,rfl,fun j hj=>absurd hj om⟩,rfl⟩
 case round=>
  obtain ⟨⟨k,z,rfl,HK⟩,rfl⟩:=hrel
  by_cases hlt:k < n
  ·obtain ⟨Z,U,x,rfl,_,G,Y⟩:=N.out.2.at_ (k:=k) ya3;have O:(k:Int) < (n:Int):=by omega
   have T:(0:Int)<=(k:Int):=by omega
   have HC:=lh (fun W=>vfU_any x W)
   by_cases hs:x.size=32
   ·rw [show (!decide (x.size=32))=false by simp [hs]] at HC
    have K:Hid (∀j,j < k+1->∀s,ys[j]? =some s->s.size=32):=fun j hj s h=>by
     rcases Nat.lt_or_ge j k with c |c
     ·exact HK.out j c s h
     ·obtain rfl:j=k:=by omega
      rw [G] at h;cases h;exact hs
    clear G hs
    go_wp2_with (first
     |(go_at_call 100;(with_reducible refine (HC.out _).mono ?_);rintro e w1 ⟨rfl,rfl⟩))
    refine ⟨?rel,?measure⟩;case rel=>exact ⟨⟨k+1,by omega,by go_num,K⟩,by first |rfl |trivial⟩
    case measure=>simp [intOf];omega
   ·rw [show (!decide (x.size=32))=true by simp [hs]] at HC
    have J:Hid (al32 ys=false):=by
     show _=_;rw [Bool.eq_false_iff];intro h;exact hs (yc4.1 h x (List.mem_of_getElem? G))
    clear G hs
    go_wp2_with (first
     |(go_at_call 100;(with_reducible refine (HC.out _).mono ?_);rintro e w1 ⟨rfl,rfl⟩))
    go_ret;exact ⟨⟨k,rfl,by rw [J.out];simp⟩,by first |rfl |trivial⟩
  ·obtain rfl:k=n:=by omega
   have J:Hid (al32 ys=true):=by
    show _=_;rw [yc4];intro s h;obtain ⟨j,hj,L⟩:=List.mem_iff_getElem?.1 h |> fun ⟨j,hj⟩=>(⟨j,(List.getElem?_eq_some_iff.1 hj).1,hj⟩:∃j,j < ys.length/\ys[j]? =some s)
    exact HK.out j (by have:=HXN.out;omega) s L
   go_wp2;go_ret;exact ⟨⟨-1,rfl,by rw [J.out];rfl⟩,by first |rfl |trivial⟩
theorem containsFU_any (A:Option Addr) (n c B:Nat) (ys:List ByteArray) (w:World) (G:Sl fT w B A n ys) (hn:n<=1000000):
 Calls prog 99 #[.slice A n c,.func (.func 100) #[] #[]] w fun e H=>e= .returned (.bool (!al32 ys))/\w=H:=by
 have HC:=lh (indexFU_any A n c B ys w G hn);clear G;go_enter func99,ntmps99
 go_wp2_with (first
  |(go_at_call 165;(with_reducible refine HC.out.mono ?_);rintro e w1 ⟨⟨r,rfl,hr⟩,rfl⟩;have HR:=lh hr;clear hr))
 go_ret;exact ⟨by rw [<-HR.out];rfl,rfl⟩
