import Derived.Test.YtpdledjgbgalcaaGreatDoorPl
import Derived.Shelf.Strings.OnBuilder
import Derived.Shelf.Small.Bits
import Derived.Shelf.Small.Wraps
import Derived.Shelf.Sort.Plain
import Derived.Shelf.Strings.BuilderCap
import Derived.Shelf.Slices.Turned
import Derived.Shelf.Slices.Clone
import Derived.Shelf.Slices.SearchI
import Derived.Shelf.Slices.In.SortNone
import Derived.Shelf.SlicesE.Clone
namespace Go.Proofs.YtpdledjgbgalcaaGreatDoor
set_option maxRecDepth 100000
set_option maxHeartbeats 8000000
open Go.RowKit Go.Lib Go.Proofs.Tryz
set_option linter.unusedVariables false
set_option linter.unusedSimpArgs false
abbrev pbL:List Int:=[112,117,98,108,105,99]
theorem pbL_eq:sB "public".toUTF8=pbL:=by decide+kernel
theorem bit_M {b:Int} {β:Nat} (G:BitN b β):∃M:Nat,2 ^ β - 1=M/\1<=M/\M<=15/\bsF β=(M:Int)+1/\lsF β=(M:Int)/\(2 ^ β:Nat)=M+1:=by
 rcases G with ⟨_,rfl⟩ |⟨_,rfl⟩ |⟨_,rfl⟩
 ·exact ⟨1,rfl,by omega,by omega,rfl,rfl,rfl⟩
 ·exact ⟨3,rfl,by omega,by omega,rfl,rfl,rfl⟩
 ·exact ⟨15,rfl,by omega,by omega,rfl,rfl,rfl⟩
theorem ydT (β:Nat) (G:List Int) (ps:List ByteArray) (h:∀s∈ps,s.size=32) (n:Nat) (hn:n<=ps.length):∀s∈endsF β G ps n,s.size=32:=by
 intro s hs;unfold endsF at hs;obtain ⟨i,hi,rfl⟩:=List.mem_map.1 hs;rw [List.mem_range] at hi;refine yem _ _ _ ?_ _;rw [List.getD_eq_getElem?_getD,List.getElem?_eq_getElem om];exact h _ (List.getElem_mem _)
theorem jnL_len32 (ps:List ByteArray) (h:∀s∈ps,s.size=32):(jnL ps).length=32*ps.length:=by
 induction ps with
 |nil=>rfl
 |cons a t ih=>
  rw [show jnL (a::t)=sB a++jnL t from rfl,List.length_append,ybS,h a List.mem_cons_self,ih (fun s hs=>h s (List.mem_cons_of_mem _ hs)),List.length_cons];omega
theorem rends_any (b:Int) (β:Nat) (hb:BitN b β) (Ad Ap:Option Addr) (nd H cd cp Bd:Nat) (J:List Int) (ps:List ByteArray) (w:World) (hd:Sl I w Bd Ad nd J) (hp:Sl fT w Bd Ap H ps) (hB:Bd<=w.heap.size) (hn:H=nd) (aL:H<=300) (ay:∀d∈J,0<=d/\d<=2 ^ β - 1) (ac:∀s∈ps,s.size=32):
 Calls prog 207 #[.agg (cPm b),.slice Ad nd cd,.slice Ap H cp] w fun e w'=>e= .returned (.string (baOf (pbL++jnL (endsF β J ps H))))/\Below w.heap.size w w':=by
 obtain ⟨M,ah,aP,aJ,ag,aD,aA⟩:=bit_M hb;have ar:((2:Int) ^ β)=((2 ^ β:Nat):Int):=by simp
 have aw:Hid (∀d∈J,0<=d/\d<=(M:Int)):=fun d h=>by
  have:=ay d h;rw [ar,aA] at this;omega
 have HL:=lh (fun W=>rbase_any b β hb W);rw [ag] at HL;have aN:IntKind.i64.wrap (M:Int)=M:=IntWalk.i64_in _ om;have HB:Hid (Below w.heap.size w (w.alloc (.cells (cPm b) 233))):=bl;obtain ⟨L,O⟩:∃L:World,L=w.alloc (.cells (cPm b) 233):=⟨_,rfl⟩
 have ai:L.heap.size=w.heap.size+1:=by rw [O];simp
 have au:L.heap[w.heap.size]? =some (.cells (cPm b) 233 (0,0)):=by rw [O];exact zy w _
 have HC:Hid (∀V,Below (w.heap.size+1) L V->V.cell? ⟨w.heap.size,0,none⟩=some (.int .i64 b)/\V.cell? ⟨w.heap.size,1,none⟩=some (.int .i64 32)):=fun V T=>by
  have q:=(T.block w.heap.size (Nat.lt_succ_self _)).trans au;refine ⟨?_,?_⟩<;>(rw [cell_of_row V _ _ _ _ _ q];rfl)
 rw [<-O] at HB;have HS:=lh ai;have HWE:=lh O;have HB1:Hid (Below (w.heap.size+1) L L):=Below.refl _ _;clear au ai O;have HD:Hid (∀V,Below (w.heap.size+1) L V->Sl I V Bd Ad nd J/\Sl fT V Bd Ap H ps):=fun V T=>⟨(hd.up HB.out hB).up T (Nat.le_succ_of_le hB),(hp.up HB.out hB).up T (Nat.le_succ_of_le hB)⟩;have aE:=lh ac;have ap:Hid (J.length=nd):=hd.1;have am:Hid (ps.length=H):=hp.1;have aI:=lh ah;have HN:=lh hn;have aH:Hid (∀k,k<=H->(endsF β J ps k).length=k/\∀s∈endsF β J ps k,s.size=32):=fun k hk=>⟨yc2 _ _ _ _,ydT β J ps ac k (by rw [hp.1];exact hk)⟩;have HU0:Hid (baOf (pbL++jnL (endsF β J ps 0))=⟨#[112,117,98,108,105,99]⟩):=by show baOf (pbL++jnL [])=_;decide+kernel
 clear hd hp ay ac ah ag aD aA ar hb hn;go_enter func207,ntmps207;go_upto_region 1 with fail
 rw [<-HWE.out];go_upto_region 3 with fail
 go_loopw [7,11] (fun u i wr=>∃(k:Nat) (y:ByteArray),k<=H/\i= .int .i64 k/\u= .string y/\Hid (baOf (pbL++jnL (endsF β J ps k))=y)/\Hid (Below (w.heap.size+1) L wr)) (fun _ i _=>H - (intOf i).toNat)
 case atStart=>exact ⟨0,_,by omega,rfl,rfl,HU0,HB1⟩
 case round=>
  clear HU0 HB1;obtain ⟨k,y,hk,rfl,rfl,HY,HBr⟩:=hrel
  by_cases hlt:k < H
  ·have aF:(k:Int) < (H:Int):=by omega
   have aM:(k:Int) < (nd:Int):=by rw [<-HN.out];exact aF
   have aK:(0:Int)<=(k:Int):=by omega
   obtain ⟨bd,od,dI,aj,_,N,_⟩:=(HD.out wr HBr.out).1.2.at_ (k:=k) (by rw [ap.out,<-HN.out];exact hlt);obtain ⟨bp,op,x,ak,_,aa,_⟩:=(HD.out wr HBr.out).2.2.at_ (k:=k) (by rw [am.out];exact hlt);obtain ⟨d,rfl⟩:∃d:Nat,dI=(d:Int):=⟨dI.toNat,by have:=(aw.out dI (List.mem_of_getElem? N)).1;omega⟩
   have aG:d<=M:=by have:=(aw.out _ (List.mem_of_getElem? N)).2;omega
   have Y:x.size=32:=aE.out x (List.mem_of_getElem? aa)
   have HK:Hid (∀V,Below (w.heap.size+1) L V->V.cell? ⟨w.heap.size,0,none⟩=some (.int .i64 b)/\V.cell? ⟨w.heap.size,1,none⟩=some (.int .i64 32)/\V.cell? ⟨bd,od+k,none⟩=some (.int .i64 (d:Int))/\V.cell? ⟨bp,op+k,none⟩=some (.string x)):=fun V T=>by
    obtain ⟨c0,c1⟩:=HC.out V T;obtain ⟨b2,o2,x2,e2,_,g2,k2⟩:=(HD.out V T).1.2.at_ (k:=k) (by rw [ap.out,<-HN.out];exact hlt);obtain ⟨b3,o3,x3,e3,_,g3,k3⟩:=(HD.out V T).2.2.at_ (k:=k) (by rw [am.out];exact hlt);rw [aj] at e2;cases e2
    rw [ak] at e3;cases e3
    rw [N] at g2;cases g2
    rw [aa] at g3;cases g3
    exact ⟨c0,c1,k2,k3⟩
   have al:=lh (fun W=>rchain_any k d M om aG om x Y W)
   have aq:Hid (baOf (pbL++jnL (endsF β J ps (k+1)))=y++chF k d (M - d) x):=by
    show _=_
    apply ba_eqU
    have Z:∀l,Byt (pbL++jnL l):=fun l z G=>by
     rcases List.mem_append.1 G with G |G
     ·(rcases List.mem_cons.1 G with rfl |G; ·omega);(rcases List.mem_cons.1 G with rfl |G; ·omega);(rcases List.mem_cons.1 G with rfl |G; ·omega);(rcases List.mem_cons.1 G with rfl |G; ·omega);(rcases List.mem_cons.1 G with rfl |G; ·omega);(rcases List.mem_cons.1 G with rfl |G; ·omega);cases G
     ·exact ycZ _ z G
    rw [sB_app,<-HY.out,ybL (Z _),ybL (Z _),endsF_succ,yel,List.append_assoc,ybA N,ybA aa,aI.out];rfl
   have aB:y.size<=10000:=by
    have h1:=aH.out k hk;have h2:=jnL_len32 _ h1.2;rw [h1.1] at h2
    have Z:Byt (pbL++jnL (endsF β J ps k)):=fun z G=>by
     rcases List.mem_append.1 G with G |G
     ·(rcases List.mem_cons.1 G with rfl |G; ·omega);(rcases List.mem_cons.1 G with rfl |G; ·omega);(rcases List.mem_cons.1 G with rfl |G; ·omega);(rcases List.mem_cons.1 G with rfl |G; ·omega);(rcases List.mem_cons.1 G with rfl |G; ·omega);(rcases List.mem_cons.1 G with rfl |G; ·omega);cases G
     ·exact ycZ _ z G
    rw [<-HY.out,ydH Z,List.length_append,h2];show 6+_<=_;omega
   have ae:=yem k d x Y (M - d);obtain ⟨cv,ao⟩:=gX (chF k d (M - d) x);rw [ao] at al aq ae;have aO:¬9223372036854775807 < y.size+cv.size:=by omega
   have HBc:=HBr;subst aj;subst ak;clear N aa Y ae ao aB;go_upto_region 5 with fail
   refine rH (S:=(fun w'=>w'.cell? ⟨w.heap.size,0,none⟩=some (.int .i64 b)/\w'.cell? ⟨w.heap.size,1,none⟩=some (.int .i64 32)/\w'.cell? ⟨bd,od+k,none⟩=some (.int .i64 (d:Int))/\w'.cell? ⟨bp,op+k,none⟩=some (.string x))) ybi yao (fun af=>?_)
   (iterate 7 refine tkA ?_)
   refine tkY 9 ?_;refine tkY 10 ?_;refine tkY 11 ?_;refine tkY 12 ?_;refine rd1 7 (fun K hK=>?_)
   (go_simp;go_at_call 250;(with_reducible refine (HL.out _).mono ?_);rintro e w4 ⟨rfl,az⟩;(have HBc:Hid (Below (w.heap.size+1) L w4):=HBr.out.trans (Below.mono (Below.trans (B:=wr.heap.size) yaH az) (HS.out▸HBr.out.size)));clear az;go_wp2_with fail)
   refine hK.out _ _ yao (fun U=>?_);clear hK K af
   try simp only [pt]
   refine tkY 8 ?_;refine rd1 13 (fun K hK=>?_)
   (go_simp;go_at_call 249;(with_reducible refine (al.out _).mono ?_);rintro e w5 ⟨rfl,ax⟩;(have HBd:Hid (Below (w.heap.size+1) L w5):=HBc.out.trans (ax.mono (HS.out▸HBc.out.size)));clear ax;go_wp2_with fail)
   refine hK.out _ _ yao (fun aC=>?_);clear hK K U
   try simp only [pt]
   (iterate 2 refine tkA ?_)
   refine wpAnyH_done ybi ?_ _;go_wp2_with fail;refine ⟨?rel,?measure⟩;case rel=>exact ⟨k+1,y++cv,by omega,by go_num,rfl,aq,HBd⟩
   case measure=>(simp [intOf]<;>omega)
  ·obtain rfl:k=H:=by omega
   go_wp2;go_ret;exact ⟨by rw [<-HY.out];rfl,HB.out.trans (HBr.out.mono (Nat.le_succ _))⟩
theorem bit_T {b:Int} {β:Nat} (G:BitN b β):∃T:Nat,mN β+cN β=T/\60<=T/\T<=265/\mNI β+cNI β=(T:Int):=by
 rcases G with ⟨_,rfl⟩ |⟨_,rfl⟩ |⟨_,rfl⟩
 ·exact ⟨265,rfl,by omega,by omega,rfl⟩
 ·exact ⟨133,rfl,by omega,by omega,rfl⟩
 ·exact ⟨67,rfl,by omega,by omega,rfl⟩
theorem rparts_any (b:Int) (β:Nat) (hb:BitN b β) (A:Option Addr) (n c B:Nat) (ps:List ByteArray) (w:World) (hp:Sl fT w B A n ps) (hB:B<=w.heap.size) (hn:n<=1000) (Z:∀s∈ps,s.size=32):
 Calls prog 206 #[.agg (cPm b),.slice A n c] w fun e M=>e= .returned (.bool ((n:Int)==((mN β+cN β:Nat):Int)))/\Below w.heap.size w M:=by
 obtain ⟨T,U,ae,aj,K⟩:=bit_T hb;rw [U];have HM:=lh (fun W=>rmain_any b β hb W);have HK:=lh (fun W=>rcheck_any b β hb W);obtain ⟨m,hm⟩:=gX (mNI β);obtain ⟨k0,O⟩:=gX (cNI β);rw [hm] at HM K;rw [O] at HK K;have ah:IntKind.i64.wrap (m+k0)=(T:Int):=by rw [K];exact IntWalk.i64_in _ om
 have aa:=lh Z;have HB:Hid (Below w.heap.size w (w.alloc (.cells (cPm b) 233))):=bl;obtain ⟨G,H⟩:∃G:World,G=w.alloc (.cells (cPm b) 233):=⟨_,rfl⟩
 have Y:G.heap.size=w.heap.size+1:=by rw [H];simp
 have N:G.heap[w.heap.size]? =some (.cells (cPm b) 233 (0,0)):=by rw [H];exact zy w _
 have HC:Hid (∀V,Below (w.heap.size+1) G V->V.cell? ⟨w.heap.size,0,none⟩=some (.int .i64 b)/\V.cell? ⟨w.heap.size,1,none⟩=some (.int .i64 32)):=fun V hv=>by
  have q:=(hv.block w.heap.size (Nat.lt_succ_self _)).trans N;refine ⟨?_,?_⟩<;>(rw [cell_of_row V _ _ _ _ _ q];rfl)
 rw [<-H] at HB;have HS:=lh Y;have HWE:=lh H;have HB1:Hid (Below (w.heap.size+1) G G):=Below.refl _ _;clear N Y H;have HP:Hid (∀V,Below (w.heap.size+1) G V->Sl fT V B A n ps):=fun V hv=>(hp.up HB.out hB).up hv (Nat.le_succ_of_le hB);have ac:Hid (ps.length=n):=hp.1;clear hp Z U K hm O;go_enter func206,ntmps206;go_upto_region 1 with fail
 rw [<-HWE.out];go_upto_region 2 with fail
 go_loopw [9] (fun i wr=>(∃k:Nat,k<=n/\i= .int .i64 k)/\G=wr) (fun i _=>n - (intOf i).toNat)
 case atStart=>exact ⟨⟨0,by omega,rfl⟩,rfl⟩
 case round=>
  obtain ⟨⟨k,hk,rfl⟩,rfl⟩:=hrel
  by_cases hlt:k < n
  ·have ai:(k:Int) < (n:Int):=by omega
   have ag:(0:Int)<=(k:Int):=by omega
   obtain ⟨bp,op,x,rfl,_,z,hc⟩:=(HP.out G HB1.out).2.at_ (k:=k) (by rw [ac.out];exact hlt);have L:x.size=32:=aa.out x (List.mem_of_getElem? z);have af:((x.size:Int) != 32)=false:=by simp [L]
   clear z L;go_wp2;refine ⟨?rel,?measure⟩;case rel=>exact ⟨⟨k+1,by omega,by go_num⟩,by first |rfl |trivial⟩
   case measure=>(simp [intOf]<;>omega)
  ·obtain rfl:k=n:=by omega
   obtain ⟨c0,c1⟩:=HC.out G HB1.out;have HBc:=HB1;go_wp2_with fail
   go_region_held3 (fun M=>M.cell? ⟨w.heap.size,0,none⟩=some (.int .i64 b)/\M.cell? ⟨w.heap.size,1,none⟩=some (.int .i64 32)) (first |exact HC.out _ HBc.out |go_keep) (first
    |(go_at_call 247;(with_reducible (refine (HM.out _).mono ?_));rintro e w4 ⟨rfl,J⟩;(have HBc:=lh (HBc.out.trans (Below.mono (Below.trans yaV J) (HS.out▸HBc.out.size))));clear J)
    |(go_at_call 248;(with_reducible (refine (HK.out _).mono ?_));rintro e w4 ⟨rfl,J⟩;(have HBc:=lh (HBc.out.trans (Below.mono (Below.trans yaV J) (HS.out▸HBc.out.size))));clear J))
   go_wp2;go_ret;exact ⟨rfl,HB.out.trans (HBc.out.mono (Nat.le_succ _))⟩
theorem yd5 {w:World} {ops:Array Oper} {o:Oper} {a:Act} {K:Act->World->Prop} {Q:Exit->Act->World->Prop} {E:Prop} (x:Operand) (L:o.op= .convert 9 40 x) (G:o.guard=none) (s:ByteArray) (J:a.eval x= .string s)
 (h:∀c W,Hid (Sl fB W W.heap.size (some ⟨w.heap.size,0,none⟩) s.size (sB s))->Hid (s.size<=c)->Hid (Below w.heap.size w W)->K (a.put o.dst (.slice (some ⟨w.heap.size,0,none⟩) s.size c)) W):if Region.wanted o (yielded ops a.tmps)=true then Oper.wp prog o a w K Q else E:=by
 have H:Region.wanted o (yielded ops a.tmps)=true:=by simp [Region.wanted,G]
 rw [if_pos H];unfold Oper.wp execOp;simp only [L,J,Sem.run_bind,run_bytes_of_string (P:=prog) w 9 40 5 s underlying9 underlying40 underlying5,Result.andThen_ok];refine h _ _ (yd4 (zy w.drew _) sI) (grownCap_ge w s.size 0 _) ?_;exact (Below.drew bR).alloc nl _
theorem rrecover_any (b:Int) (β:Nat) (hb:BitN b β) (s:ByteArray) (hs:s.size=32) (A:Option Addr) (n c B:Nat) (ps:List ByteArray) (w:World) (hp:Sl fT w B A n ps) (hB:B<=w.heap.size) (hn:n=mN β+cN β) (ag:∀s∈ps,s.size=32):
 Calls prog 161 #[.agg (cPm b),.string s,.slice A n c] w fun e M=>e= .returned (.string (pubF β (dgF β (sB s)) ps))/\Below w.heap.size w M:=by
 obtain ⟨T,aG,aE,aK,aI⟩:=bit_T hb;have HD:=lh (fun W=>rdigits_any b β hb s hs W);have am:ps.length=n:=hp.1
 have HE:Hid (∀W v,Below w.heap.size w W->Own I 3 W w.heap.size v (dgF β (sB s))->∃Z cd,v= .slice Z n cd/\Calls prog 207 #[.agg (cPm b),.slice Z n cd,.slice A n c] W fun e M=>e= .returned (.string (baOf (pbL++jnL (endsF β (dgF β (sB s)) ps n))))/\Below W.heap.size W M):=fun W v aA ho=>by
  obtain ⟨Z,cd,hv,_,aH,_⟩:=ho.shape;rw [dgF_len,<-hn] at hv;exact ⟨Z,cd,hv,rends_any b β hb Z A n n cd c W.heap.size _ ps W ⟨by rw [dgF_len,hn],aH⟩ ((hp.up aA hB).more' (lT hB aA.size)) nl rfl om (dgF_rng β _) ag⟩
 have O:∀z∈endsF β (dgF β (sB s)) ps n,z.size=32:=ydT β _ ps ag n om;have af:=jnL_len32 _ O;rw [yc2] at af
 have J:Byt (pbL++jnL (endsF β (dgF β (sB s)) ps n)):=fun z G=>by
  rcases List.mem_append.1 G with G |G
  ·(rcases List.mem_cons.1 G with rfl |G; ·omega);(rcases List.mem_cons.1 G with rfl |G; ·omega);(rcases List.mem_cons.1 G with rfl |G; ·omega);(rcases List.mem_cons.1 G with rfl |G; ·omega);(rcases List.mem_cons.1 G with rfl |G; ·omega);(rcases List.mem_cons.1 G with rfl |G; ·omega);cases G
  ·exact ycZ _ z G
 have HV:Hid (pubF β (dgF β (sB s)) ps=baOf (shaB (pbL++jnL (endsF β (dgF β (sB s)) ps n)))):=by
  show _=_;unfold pubF;rw [pbL_eq,am]
 have ak:Hid ((pbL++jnL (endsF β (dgF β (sB s)) ps n)).length<=10000):=by
  show _<=_;rw [List.length_append,af];show 6+_<=_;omega
 obtain ⟨Y,ax⟩:=gX (pbL++jnL (endsF β (dgF β (sB s)) ps n));rw [ax] at HE HV ak J;have al:Hid (sB (baOf Y)=Y):=ybL J;have aL:=lh J;have aq:Hid ((baOf Y).size<=10000):=by show _<=_;rw [ydH J];exact ak.out
 obtain ⟨zt,aw⟩:=gX (baOf Y);rw [aw] at HE al aq;rw [HV.out];obtain ⟨rs,ae⟩:=gX (baOf (shaB Y));have aJ:Hid (∀(W:World) A' c',Sl fB W W.heap.size A' zt.size (sB zt)->Calls prog 123 #[.slice A' zt.size c'] W fun e M=>e= .returned (.string rs)/\Below W.heap.size W M):=fun W A' c' h=>ae▸ydA A' _ c' W.heap.size Y W (al.out▸h) nl (lT aq.out om) J;rw [ae];have HB:Hid (Below w.heap.size w (w.alloc (.cells (cPm b) 233))):=bl;obtain ⟨H,N⟩:∃H:World,H=w.alloc (.cells (cPm b) 233):=⟨_,rfl⟩
 have O:H.heap.size=w.heap.size+1:=by rw [N];simp
 have ai:H.heap[w.heap.size]? =some (.cells (cPm b) 233 (0,0)):=by rw [N];exact zy w _
 have HC:Hid (∀V,Below (w.heap.size+1) H V->V.cell? ⟨w.heap.size,0,none⟩=some (.int .i64 b)/\V.cell? ⟨w.heap.size,1,none⟩=some (.int .i64 32)):=fun V hv=>by
  have q:=(hv.block w.heap.size (Nat.lt_succ_self _)).trans ai;refine ⟨?_,?_⟩<;>(rw [cell_of_row V _ _ _ _ _ q];rfl)
 rw [<-N] at HB;have HS:=lh O;have HWE:=lh N;have HB1:Hid (Below (w.heap.size+1) H H):=Below.refl _ _;clear ai O N;clear hp hB hn ag aG aE aK aI am O af J ax aw ae hb hs;go_enter func161,ntmps161;go_upto_region 1 with fail
 rw [<-HWE.out];obtain ⟨c0,c1⟩:=HC.out H HB1.out;go_wp2_with fail;refine rH (S:=(fun M=>M.cell? ⟨w.heap.size,0,none⟩=some (.int .i64 b)/\M.cell? ⟨w.heap.size,1,none⟩=some (.int .i64 32))) ybi yaZ (fun ah=>?_)
 (iterate 3 refine tkA ?_)
 refine tkY 4 ?_;refine rd1 3 (fun K L=>?_)
 (go_simp;go_at_call 208;(with_reducible refine (HD.out _).mono ?_);rintro e w4 ⟨v4,rfl,ap,az⟩;(have HBx:Hid (Below (w.heap.size+1) H w4):=Below.trans (B:=w.heap.size+1) yaH (Below.mono az (Nat.le_of_eq HS.out.symm)));(obtain ⟨Z,cd,rfl,au⟩:=HE.out w4 v4 (HB.out.trans (HBx.out.mono (Nat.le_succ _))) (yc3 ap (by show _<=H.heap.size;rw [HS.out];omega)));(have aF:=lh au);clear ap az au;go_wp2_with fail)
 refine L.out _ _ yaZ (fun ac=>?_);clear L K ah
 try simp only [pt]
 refine rd1 5 (fun K L=>?_)
 (go_simp;go_at_call 207;(with_reducible refine aF.out.mono ?_);rintro e w5 ⟨rfl,ar⟩;(have HBx:Hid (Below (w.heap.size+1) H w5):=HBx.out.trans (Below.mono ar (HS.out▸HBx.out.size)));clear ar;go_wp2_with fail)
 refine L.out _ _ yaZ (fun U=>?_);clear L K ac
 try simp only [pt]
 refine rd1 6 (fun K L=>?_)
 ((refine yd5 (.tmp 12) rfl rfl zt rfl ?_);intro cb W6 ao aC aj;(have HBx:Hid (Below (w.heap.size+1) H W6):=HBx.out.trans (Below.mono aj.out (HS.out▸HBx.out.size)));(have aD:=lh (aJ.out W6 _ cb ao.out));clear ao aC aj)
 refine L.out _ _ yaZ (fun aa=>?_);clear L K U
 try simp only [pt]
 refine rd1 7 (fun K L=>?_)
 (go_simp;go_at_call 123;(with_reducible refine aD.out.mono ?_);rintro e w7 ⟨rfl,ay⟩;(have HBx:Hid (Below (w.heap.size+1) H w7):=HBx.out.trans (Below.mono ay (HS.out▸HBx.out.size)));clear ay;go_wp2_with fail)
 refine L.out _ _ yaZ (fun aB=>?_);clear L K aa
 try simp only [pt]
 refine tkY 8 ?_;refine wpAnyH_done ybi ?_ _;go_wp2_with fail;go_ret;exact ⟨rfl,HB.out.trans (HBx.out.mono (Nat.le_succ _))⟩
def sgOk (b h:Int):Bool:=decide ((b=1∨b=2∨b=4)/\0<=h/\h<=8)
abbrev cSc (b h:Int):Array Value:=#[.int .i64 b,.int .i64 h]
theorem sgvalid_any (b h:Int) (w:World):Calls prog 201 #[.agg (cSc b h)] w fun e L=>e= .returned (.bool (sgOk b h))/\Below w.heap.size w L:=by
 have HB:Hid (Below w.heap.size w (w.alloc (.cells (cSc b h) 26))):=bl;have U:∀w,(Instr.index 303 (.agg #[.int .i64 1,.int .i64 2,.int .i64 4]) (.int .i64 0)).run prog w= .ok (.int .i64 1) w:=fun _=>by kernel_rfl
 have W:∀w,(Instr.index 303 (.agg #[.int .i64 1,.int .i64 2,.int .i64 4]) (.int .i64 1)).run prog w= .ok (.int .i64 2) w:=fun _=>by kernel_rfl
 have Z:∀w,(Instr.index 303 (.agg #[.int .i64 1,.int .i64 2,.int .i64 4]) (.int .i64 2)).run prog w= .ok (.int .i64 4) w:=fun _=>by kernel_rfl
 by_cases h0:h < 0
 ·have G:Hid (sgOk b h=false):=by show _=_;unfold sgOk;rw [decide_eq_false];omega
  rw [G.out];go_enter func201,ntmps201;go_wp2;go_ret;exact ⟨rfl,HB.out⟩
 ·by_cases Y:8 < h
  ·have G:Hid (sgOk b h=false):=by show _=_;unfold sgOk;rw [decide_eq_false];omega
   rw [G.out];go_enter func201,ntmps201;go_wp2;go_ret;exact ⟨rfl,HB.out⟩
  ·by_cases M:b=1∨b=2∨b=4
   ·have G:Hid (sgOk b h=true):=by show _=_;unfold sgOk;rw [decide_eq_true];omega
    rw [G.out];rcases M with rfl |rfl |rfl
    all_goals
     go_enter func201,ntmps201;go_wp2;refine wp_loop_rounds 3 ?_;rw [rounds_succ];go_wp2
     (try rw [rounds_succ])
     go_wp2
     (try rw [rounds_succ])
     go_wp2;go_ret;exact ⟨rfl,HB.out⟩
   ·have G:Hid (sgOk b h=false):=by show _=_;unfold sgOk;rw [decide_eq_false];omega
    rw [G.out];have J:¬b=1:=by omega
    have K:¬b=2:=by omega
    have H:¬b=4:=by omega
    have T:(b==1)=false:=by simp [J]
    have O:(b==2)=false:=by simp [K]
    have N:(b==4)=false:=by simp [H]
    go_enter func201,ntmps201;go_wp2;refine wp_loop_rounds 4 ?_;rw [rounds_succ];go_wp2;rw [rounds_succ];go_wp2;rw [rounds_succ];go_wp2;rw [rounds_succ];go_wp2;go_ret;exact ⟨rfl,HB.out⟩
theorem rgvalid_any (b h:Int) (w:World):Calls prog 205 #[.agg (cSc b h)] w fun e L=>e= .returned (.bool (sgOk b h))/\Below w.heap.size w L:=by
 have HB:Hid (Below w.heap.size w (w.alloc (.cells (cSc b h) 26))):=bl;have M:b=1∨b=2∨b=4∨(¬b=1/\¬b=2/\¬b=4):=by omega
 have J:Hid (sgOk b h=((b==1||b==2||b==4)&&decide (0<=h)&&decide (h<=8))):=by
  show _=_;unfold sgOk;rw [Bool.eq_iff_iff];simp [or_assoc,and_assoc]
 rw [J.out];rcases M with rfl |rfl |rfl |⟨O,T,N⟩
 all_goals
  by_cases hd:0<=h
  ·by_cases K:h<=8
   ·have G:decide (0<=h)=true:=by simp [hd]
    have H:decide (h<=8)=true:=by simp [K]
    go_enter func205,ntmps205;go_wp2;go_ret;exact ⟨by (try simp only [J.out]);simp [*],HB.out⟩
   ·have G:decide (0<=h)=true:=by simp [hd]
    have H:decide (h<=8)=false:=by simp;omega
    go_enter func205,ntmps205;go_wp2;go_ret;exact ⟨by simp [hd,H],HB.out⟩
  ·have G:decide (0<=h)=false:=by simp;omega
   go_enter func205,ntmps205;go_wp2;go_ret;exact ⟨by simp [G],HB.out⟩
open Go.Shelf
def Tryz.lays156_ren:Go.Shelf.Ren:=⟨fun |156=>267 |165=>272 |166=>273 |169=>274 |240=>275 |241=>276 |276=>277 |277=>278 |n=>n,fun |31=>24 |9=>9 |3=>3 |4=>4 |0=>0 |20=>20 |72=>327 |76=>330 |70=>325 |37=>40 |75=>329 |127=>332 |164=>333 |5=>5 |80=>240 |n=>n,fun |n=>n⟩
theorem Tryz.lays156:Go.Proofs.Lays.n156 prog Tryz.lays156_ren:={
 mixed:=by kernel_rfl
 f156:=func267.trans (congrArg some ybi)
 f165:=func272.trans (congrArg some ybi)
 f166:=func273.trans (congrArg some ybi)
 f169:=func274.trans (congrArg some ybi)
 f240:=func275.trans (congrArg some ybi)
 f241:=func276.trans (congrArg some ybi)
 f276:=func277.trans (congrArg some ybi)
 f277:=func278.trans (congrArg some ybi)
 t0:=underlying0
 a0:=isAgg0
 z0:=sizeOf0
 v0:=zeroValue0
 t3:=underlying3
 a3:=isAgg3
 z3:=sizeOf3
 v3:=zeroValue3
 t4:=underlying4
 a4:=isAgg4
 z4:=sizeOf4
 v4:=zeroValue4
 t9:=underlying9
 a9:=isAgg9
 z9:=sizeOf9
 v9:=zeroValue9
 t20:=underlying20
 a20:=isAgg20
 z20:=sizeOf20
 v20:=zeroValue20
 t31:=underlying24
 a31:=isAgg24
 z31:=sizeOf24
 v31:=zeroValue24
 t37:=underlying40
 a37:=isAgg40
 z37:=sizeOf40
 v37:=zeroValue40
 t70:=underlying325
 a70:=isAgg325
 z70:=sizeOf325
 v70:=zeroValue325
 t72:=underlying327
 a72:=isAgg327
 z72:=sizeOf327
 v72:=zeroValue327
 t75:=underlying329
 a75:=isAgg329
 z75:=sizeOf329
 v75:=zeroValue329
 t76:=underlying330
 a76:=isAgg330
 z76:=sizeOf330
 v76:=zeroValue330
 t127:=underlying332
 a127:=isAgg332
 z127:=sizeOf332
 v127:=zeroValue332
 t164:=underlying333
 a164:=isAgg333
 z164:=sizeOf333
 v164:=zeroValue333}
theorem Tryz.Builder_Extra_156:Builder.Extra prog Tryz.lays156_ren:={
 sizeBuilder:=by kernel_rfl
 liesBuilder:=by kernel_rfl
 t5:=underlying5
 a5:=isAgg5
 z5:=sizeOf5
 v5:=zeroValue5
 infoByte:=by kernel_rfl
 cellsByte:=by kernel_rfl
 sizeByte:=by kernel_rfl
 neB5:=by decide}
open Go.RowKit in
theorem Tryz.strings_Join (J o c:Nat) (xs:List ByteArray) (G:ByteArray) (w:World) (H:∀(j:Nat) x,xs[j]? =some x->w.cell? ⟨J,o+j,none⟩=some (.string x)) (M:J < w.heap.size) (O:xs.length<=140737488355328) (K:xs.length<=c) (L:(Lib.join (xs.map (·.data.toList)) G.data.toList).length<=140737488355328):
 Calls prog 267 #[.slice (some ⟨J,o,none⟩) xs.length c,.string G] w fun e N=>e= .returned (.string ⟨(Lib.join (xs.map (·.data.toList)) G.data.toList).toArray⟩)/\Below w.heap.size w N:=Any.strings_Join Tryz.lays156 Tryz.Builder_Extra_156 J o c xs G w H M O K L
def Tryz.lays189_ren:Go.Shelf.Ren:=⟨fun |189=>109 |125=>177 |257=>176 |128=>229 |129=>230 |294=>220 |295=>221 |296=>222 |297=>223 |298=>224 |299=>225 |216=>226 |300=>227 |301=>228 |328=>254 |329=>255 |330=>256 |331=>257 |332=>258 |215=>259 |343=>269 |n=>n,fun |28=>27 |3=>3 |46=>247 |0=>0 |51=>250 |53=>93 |4=>4 |183=>284 |182=>283 |131=>287 |5=>5 |9=>9 |218=>310 |222=>279 |228=>321 |229=>317 |n=>n,fun |n=>n⟩
theorem Tryz.lays189:Go.Proofs.Lays.n189 prog Tryz.lays189_ren:={
 mixed:=by kernel_rfl
 f125:=func177.trans (congrArg some ybi)
 f128:=func229.trans (congrArg some ybi)
 f129:=func230.trans (congrArg some ybi)
 f189:=func109.trans (congrArg some ybi)
 f215:=func259.trans (congrArg some ybi)
 f216:=func226.trans (congrArg some ybi)
 f257:=func176.trans (congrArg some ybi)
 f294:=func220.trans (congrArg some ybi)
 f295:=func221.trans (congrArg some ybi)
 f296:=func222.trans (congrArg some ybi)
 f297:=func223.trans (congrArg some ybi)
 f298:=func224.trans (congrArg some ybi)
 f299:=func225.trans (congrArg some ybi)
 f300:=func227.trans (congrArg some ybi)
 f301:=func228.trans (congrArg some ybi)
 f328:=func254.trans (congrArg some ybi)
 f329:=func255.trans (congrArg some ybi)
 f330:=func256.trans (congrArg some ybi)
 f331:=func257.trans (congrArg some ybi)
 f332:=func258.trans (congrArg some ybi)
 f343:=func269.trans (congrArg some ybi)
 t0:=underlying0
 a0:=isAgg0
 z0:=sizeOf0
 v0:=zeroValue0
 t3:=underlying3
 a3:=isAgg3
 z3:=sizeOf3
 v3:=zeroValue3
 t4:=underlying4
 a4:=isAgg4
 z4:=sizeOf4
 v4:=zeroValue4
 t5:=underlying5
 a5:=isAgg5
 z5:=sizeOf5
 v5:=zeroValue5
 t9:=underlying9
 a9:=isAgg9
 z9:=sizeOf9
 v9:=zeroValue9
 t28:=underlying27
 a28:=isAgg27
 z28:=sizeOf27
 v28:=zeroValue27
 t46:=underlying247
 a46:=isAgg247
 z46:=sizeOf247
 v46:=zeroValue247
 t51:=underlying250
 a51:=isAgg250
 z51:=sizeOf250
 v51:=zeroValue250
 t53:=underlying93
 a53:=isAgg93
 z53:=sizeOf93
 v53:=zeroValue93
 t131:=underlying287
 a131:=isAgg287
 z131:=sizeOf287
 v131:=zeroValue287
 t182:=underlying283
 a182:=isAgg283
 z182:=sizeOf283
 v182:=zeroValue283
 t183:=underlying284
 a183:=isAgg284
 z183:=sizeOf284
 v183:=zeroValue284
 t218:=underlying310
 a218:=isAgg310
 z218:=sizeOf310
 v218:=zeroValue310
 t222:=underlying279
 a222:=isAgg279
 z222:=sizeOf279
 v222:=zeroValue279
 t228:=underlying321
 a228:=isAgg321
 z228:=sizeOf321
 v228:=zeroValue321
 t229:=underlying317
 a229:=isAgg317
 z229:=sizeOf317
 v229:=zeroValue317}
open Go.Sort Go.RowKit in
theorem Tryz.slices_Sort_int (blk G cap:Nat) (H:List Int) (w:World) (M:Holds (Value.int .i64) w blk G H.toArray) (J:blk < w.heap.size) (K:H.length < 4611686018427387904):
 Calls prog 109 #[.slice (some ⟨blk,G,none⟩) H.length cap] w fun e L=>
  e= .returned (.tuple #[])/\∃n os,L=grow (putRow (Value.int .i64) (Sort.ahead w n) blk G (H.mergeSort fun x y=>decide (x<=y)).toArray) os:=Any.slices_Sort_int Tryz.lays189 blk G cap H w M J K
def Tryz.lays110_ren:Go.Shelf.Ren:=⟨fun |110=>173 |109=>217 |n=>n,fun |31=>24 |9=>9 |4=>4 |3=>3 |0=>0 |n=>n,fun |n=>n⟩
theorem Tryz.lays110:Go.Proofs.Lays.n110 prog Tryz.lays110_ren:={
 mixed:=by kernel_rfl
 f109:=func217.trans (congrArg some ybi)
 f110:=func173.trans (congrArg some ybi)
 t0:=underlying0
 a0:=isAgg0
 z0:=sizeOf0
 v0:=zeroValue0
 t3:=underlying3
 a3:=isAgg3
 z3:=sizeOf3
 v3:=zeroValue3
 t4:=underlying4
 a4:=isAgg4
 z4:=sizeOf4
 v4:=zeroValue4
 t9:=underlying9
 a9:=isAgg9
 z9:=sizeOf9
 v9:=zeroValue9
 t31:=underlying24
 a31:=isAgg24
 z31:=sizeOf24
 v31:=zeroValue24}
open Go.Lib in
theorem Tryz.slices_Contains_string (b G n c:Nat) (H:List ByteArray) (x:ByteArray) (w:World) (M:n<=H.length) (J:n<=9223372036854775807) (L:∀j,j < H.length->w.cell? ⟨b,G+j,none⟩=some (.string (H.getD j ByteArray.empty))):
 Calls prog 173 #[.slice (some ⟨b,G,none⟩) n c,.string x] w fun e K=>e= .returned (.bool (Lib.containsS (H.take n) x))/\K=w:=Any.slices_Contains_string Tryz.lays110 b G n c H x w M J L
open Go.Lib in
theorem Tryz.slices_Contains_string_empty (a:Option Addr) (c:Nat) (x:ByteArray) (w:World):
 Calls prog 173 #[.slice a 0 c,.string x] w fun e G=>e= .returned (.bool false)/\G=w:=Any.slices_Contains_string_empty Tryz.lays110 a c x w
open Go.RowKit Go.Sort in
theorem Tryz.slices_Sort_int_none (p:Option Addr) (cap:Nat) (w:World):
 Calls prog 109 #[.slice p 0 cap] w fun e w'=>e= .returned (.tuple #[])/\w'=w:=Any.slices_Sort_int_none Tryz.lays189 p cap w
theorem join_emp:∀(xs:List (List UInt8)),Lib.join xs []=xs.flatten
 | []=>rfl
 |a::t=>by
  rw [Lib.join_cons];simp [Lib.joinTail]
theorem sB_mk (l:List UInt8):sB ⟨l.toArray⟩=l.map fun b=>(b.toNat:Int):=by unfold sB;simp
theorem join_jnL (vs:List ByteArray):sB ⟨(Lib.join (vs.map (·.data.toList)) []).toArray⟩=jnL vs:=by
 rw [join_emp,sB_mk]
 induction vs with
 |nil=>rfl
 |cons a t ih=>
  rw [List.map_cons,List.flatten_cons,List.map_append,ih];rfl
theorem join_len (vs:List ByteArray):(Lib.join (vs.map (·.data.toList)) []).length=(jnL vs).length:=by
 rw [<-join_jnL,sB_mk,List.length_map]
theorem two_sl (w:World) (a b:ByteArray):Sl fT (w.alloc (.cells #[.string a,.string b] 9)) (w.alloc (.cells #[.string a,.string b] 9)).heap.size (some ⟨w.heap.size,0,none⟩) 2 [a,b]:=
 ⟨rfl,SL.of_block (t:=9) (fr:=(0,0)) (zy w _) sI⟩
theorem pubkey_any (A:Option Addr) (n c B:Nat) (vs:List ByteArray) (w:World) (hG:Glob w) (O:Sl fT w B A n vs) (hB:B<=w.heap.size) (hc:n<=c) (h1:1<=n) (hn:n<=300) (hv:∀s∈vs,s.size=32):
 Calls prog 246 #[.slice A n c] w fun e J=>e= .returned (.string (baOf (shaB (pbL++jnL vs))))/\Below w.heap.size w J:=by
 have L:vs.length=n:=O.1;have H:=jnL_len32 vs hv;rw [L] at H;obtain ⟨Z,o1,x,rfl,G,_,_⟩:=O.2.at_ (k:=0) om
 have z:Hid (Calls prog 267 #[.slice (some ⟨Z,o1,none⟩) n c,.string ⟨#[]⟩] w fun e J=>e= .returned (.string ⟨(Lib.join (vs.map (·.data.toList)) []).toArray⟩)/\Below w.heap.size w J):=by
  have h:=Tryz.strings_Join Z o1 c vs ⟨#[]⟩ w (fun j y hj=>by
   obtain ⟨b2,o2,x2,e2,_,g2,k2⟩:=O.2.at_ (k:=j) (List.getElem?_eq_some_iff.1 hj).1;cases e2
   rw [hj] at g2;cases g2
   exact k2) (Nat.lt_of_lt_of_le G hB) om om (by show (Lib.join _ []).length<=_;rw [join_len,H];omega)
  rw [L] at h;exact h
 obtain ⟨K,M⟩:=gX ((⟨(Lib.join (vs.map (·.data.toList)) []).toArray⟩:ByteArray));have U:sB K=jnL vs:=by rw [<-M,join_jnL]
 rw [M] at z
 have N:jnL [⟨#[112,117,98,108,105,99]⟩,K]=pbL++jnL vs:=by
  show sB ⟨#[112,117,98,108,105,99]⟩++(sB K++[])=_;rw [U,List.append_nil];rfl
 have HM:Hid (∀W,Below w.heap.size w W->Calls prog 209 #[.slice (some ⟨W.heap.size,0,none⟩) 2 2] (W.alloc (.cells #[.string ⟨#[112,117,98,108,105,99]⟩,.string K] 9)) fun e J=>e= .returned (.string (baOf (shaB (pbL++jnL vs))))/\Below W.heap.size W J):=fun W hb=>by
  have T:=(Below.refl W.heap.size W).alloc nl (.cells #[.string ⟨#[112,117,98,108,105,99]⟩,.string K] 9);have h:=mjoin_any _ 2 2 _ [⟨#[112,117,98,108,105,99]⟩,K] _ (hG.on (bt hb T)) (two_sl W _ _) nl om (by rw [N,List.length_append,H];show 6+_<=_;omega);rw [N] at h;exact h.mono fun e J ⟨h1,h2⟩=>⟨h1,bt T h2⟩
 clear hG O hB hv L H G M U N;go_enter func246,ntmps246
 go_wp2_with (first
  |(go_at_call 267;(with_reducible refine z.out.mono ?_);rintro e w1 ⟨rfl,G⟩;(have HB1:=lh G);(have ac:=lh (HM.out w1 G));clear G)
  |(go_at_call 209;(with_reducible refine ac.out.mono ?_);rintro e w2 ⟨rfl,Y⟩;(have aa:=lh (bt HB1.out Y));clear Y))
 go_ret;exact ⟨rfl,aa.out⟩
