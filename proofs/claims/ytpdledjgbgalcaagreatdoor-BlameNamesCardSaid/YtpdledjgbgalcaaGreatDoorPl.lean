import Derived.Test.YtpdledjgbgalcaaGreatDoorPi
import Derived.Lib.SlBytesConst
namespace Go.Proofs.YtpdledjgbgalcaaGreatDoor
set_option maxRecDepth 100000
set_option maxHeartbeats 8000000
open Go.RowKit Go.Lib Go.Proofs.Tryz
set_option linter.unusedVariables false
set_option linter.unusedSimpArgs false
def bsF (β:Nat):Int:=if β=1 then 2 else if β=2 then 4 else 16
theorem rbase_any (b:Int) (β:Nat) (H:BitN b β) (w:World):Calls prog 250 #[.agg (cPm b)] w fun e G=>e= .returned (.int .i64 (bsF β))/\Below w.heap.size w G:=by
 have HB:Hid (Below w.heap.size w (w.alloc (.cells (cPm b) 233))):=bl;rcases H with ⟨rfl,rfl⟩ |⟨rfl,rfl⟩ |⟨rfl,rfl⟩
 all_goals
  go_enter func250,ntmps250;go_wp2;go_ret;exact ⟨rfl,HB.out⟩
theorem rmain_any (b:Int) (β:Nat) (H:BitN b β) (w:World):Calls prog 247 #[.agg (cPm b)] w fun e G=>e= .returned (.int .i64 (mNI β))/\Below w.heap.size w G:=by
 have HB:Hid (Below w.heap.size w (w.alloc (.cells (cPm b) 233))):=bl;rcases H with ⟨rfl,rfl⟩ |⟨rfl,rfl⟩ |⟨rfl,rfl⟩
 all_goals
  go_enter func247,ntmps247;go_wp2;go_ret;exact ⟨rfl,HB.out⟩
theorem rcheck_any (b:Int) (β:Nat) (Y:BitN b β) (w:World):Calls prog 248 #[.agg (cPm b)] w fun e N=>e= .returned (.int .i64 (cNI β))/\Below w.heap.size w N:=by
 obtain ⟨E,L,C,M,F,ai⟩:∃E L C M F:Nat,(β=1/\E=2/\L=1/\C=9/\M=256/\F=256)∨(β=2/\E=4/\L=3/\C=5/\M=128/\F=384)∨(β=4/\E=16/\L=15/\C=3/\M=64/\F=960):=by
  rcases Y with ⟨_,rfl⟩ |⟨_,rfl⟩ |⟨_,rfl⟩
  ·exact ⟨2,1,9,256,256,.inl ⟨rfl,rfl,rfl,rfl,rfl,rfl⟩⟩
  ·exact ⟨4,3,5,128,384,.inr (.inl ⟨rfl,rfl,rfl,rfl,rfl,rfl⟩)⟩
  ·exact ⟨16,15,3,64,960,.inr (.inr ⟨rfl,rfl,rfl,rfl,rfl,rfl⟩)⟩
 obtain rfl:b=(β:Int):=by rcases Y with ⟨rfl,rfl⟩ |⟨rfl,rfl⟩ |⟨rfl,rfl⟩<;>rfl
 have HCZ:=lh ai;clear ai;have al:E<=16:=yaI;have am:0 < E:=yaI;have az:1<=C:=yaI;have aw:C<=9:=yaI;have hF:F<=960:=yaI;rw [show cNI β=(C:Int) from yaK];have HB:Hid (Below w.heap.size w (w.alloc (.cells (cPm (β:Int)) 233))):=bl;obtain ⟨H,J⟩:∃H:World,H=w.alloc (.cells (cPm (β:Int)) 233):=⟨_,rfl⟩
 have ag:H.heap.size=w.heap.size+1:=by rw [J];simp
 have z:H.heap[w.heap.size]? =some (.cells (cPm (β:Int)) 233 (0,0)):=by rw [J];exact zy w _
 have HC:Hid (∀V,Below (w.heap.size+1) H V->V.cell? ⟨w.heap.size,0,none⟩=some (.int .i64 (β:Int))/\V.cell? ⟨w.heap.size,1,none⟩=some (.int .i64 32)):=fun V hv=>by
  have q:=(hv.block w.heap.size (Nat.lt_succ_self _)).trans z;refine ⟨?_,?_⟩<;>(rw [cell_of_row V _ _ _ _ _ q];rfl)
 rw [<-J] at HB;have O:=lh ag;have HWE:=lh J;have HBc:Hid (Below (w.heap.size+1) H H):=Below.refl _ _;clear z ag J;have U:=lh (fun W=>rbase_any _ β Y W);have HM:=lh (fun W=>rmain_any _ β Y W);rw [show mNI β=(M:Int) from yaK] at HM;rw [show bsF β=(E:Int) from yaK] at U;obtain ⟨c0,c1⟩:=HC.out H bR;go_enter func248,ntmps248;go_upto_region 1 with fail
 rw [<-HWE.out];go_upto_region 2 with (go_at_call 250;(with_reducible refine (U.out _).mono ?_);rintro e w1 ⟨rfl,aj⟩;(have HBc:Hid (Below (w.heap.size+1) H w1):=O.out▸aj);clear aj)
 go_loopw [3,4] (fun n p wr=>(∃j q:Nat,j<=C - 1/\n= .int .i64 ((j:Int)+1)/\p= .int .i64 (q:Int)/\Hid (E ^ (j+1)=q))/\Hid (Below (w.heap.size+1) H wr)) (fun n _ _=>16 - (intOf n).toNat)
 case atStart=>exact ⟨⟨0,E,by omega,by simp,rfl,by show _=_;rw [Nat.zero_add,Nat.pow_one]⟩,HBc⟩
 case round=>
  clear HBc;obtain ⟨⟨j,q,hj,rfl,rfl,HQ⟩,HBr⟩:=hrel;obtain ⟨c0,c1⟩:=HC.out wr HBr.out;have HBc:=HBr;have ak:(E:Int) - 1=(L:Int):=yaI;have ah:IntKind.i64.wrap (L:Int)=L:=IntWalk.i64_in _ yaI;have T:(M:Int)*(L:Int)=(F:Int):=yaK;have aa:(L:Int)*(M:Int)=(F:Int):=by rw [Int.mul_comm];exact T
  have ac:IntKind.i64.wrap (F:Int)=F:=IntWalk.i64_in _ om;obtain ⟨Z,K⟩:=gX (q*E);have ap:Hid (E ^ (j+1+1)=Z):=by show _=_;rw [Nat.pow_succ,HQ.out,K]
  by_cases ax:j < C - 1
  ·have hq:q<=F:=by
    rw [<-HQ.out];exact lT (Nat.pow_le_pow_right am (show j+1<=C - 1 by omega)) yaF
   have ar:(q:Int)<=(F:Int):=by omega
   have au:Z<=15360:=by rw [<-K];exact Nat.mul_le_mul (lT hq hF) al
   have ay:(q:Int)*(E:Int)=(Z:Int):=by rw [<-K];simp
   clear K;go_wp2_with fail
   go_region_held3 (fun N=>N.cell? ⟨w.heap.size,0,none⟩=some (.int .i64 (β:Int))/\N.cell? ⟨w.heap.size,1,none⟩=some (.int .i64 32)) (first |exact HC.out _ HBc.out |go_keep) (first
    |(go_at_call 250;(with_reducible (refine (U.out _).mono ?_));rintro e w4 ⟨rfl,G⟩;(have HBc:=lh (HBc.out.trans (Below.mono (Below.trans yaV G) (O.out▸HBc.out.size))));clear G)
    |(go_at_call 247;(with_reducible (refine (HM.out _).mono ?_));rintro e w4 ⟨rfl,G⟩;(have HBc:=lh (HBc.out.trans (Below.mono (Below.trans yaV G) (O.out▸HBc.out.size))));clear G))
   obtain ⟨c0,c1⟩:=HC.out w4 HBc.out;have HBq:=HBc;clear ak ah ac T aa;go_wp2_with (go_at_call 250;(with_reducible refine (U.out _).mono ?_);rintro e w5 ⟨rfl,af⟩;(have ao:Hid (Below (w.heap.size+1) H w5):=HBq.out.trans (af.mono (O.out▸HBq.out.size)));clear af);refine ⟨?rel,?measure⟩;case rel=>exact ⟨⟨j+1,Z,by omega,by go_num,by first |rfl |go_num,ap⟩,ao⟩
   case measure=>(simp [intOf]<;>omega)
  ·have ae:j+1=C:=by omega
   have hq:F < q:=by rw [<-HQ.out,ae];exact yaF
   have ar:¬(q:Int)<=(F:Int):=by omega
   have aq:Hid ((j:Int)+1=(C:Int)):=by show _=_;omega
   clear ae K;go_wp2_with fail
   go_region_held3 (fun N=>N.cell? ⟨w.heap.size,0,none⟩=some (.int .i64 (β:Int))/\N.cell? ⟨w.heap.size,1,none⟩=some (.int .i64 32)) (first |exact HC.out _ HBc.out |go_keep) (first
    |(go_at_call 250;(with_reducible (refine (U.out _).mono ?_));rintro e w4 ⟨rfl,G⟩;(have HBc:=lh (HBc.out.trans (Below.mono (Below.trans yaV G) (O.out▸HBc.out.size))));clear G)
    |(go_at_call 247;(with_reducible (refine (HM.out _).mono ?_));rintro e w4 ⟨rfl,G⟩;(have HBc:=lh (HBc.out.trans (Below.mono (Below.trans yaV G) (O.out▸HBc.out.size))));clear G))
   clear ak ah ac T aa;go_wp2;go_ret;exact ⟨by rw [aq.out];rfl,HB.out.trans (HBc.out.mono (Nat.le_succ _))⟩
theorem rbit_any (s:ByteArray) (hs:s.size=32) (i:Nat) (hi:i < 256) (w:World):Calls prog 251 #[.string s,.int .i64 i] w fun e O=>e= .returned (.int .i64 (bitN (sB s) i))/\w=O:=by
 obtain ⟨q,K⟩:∃q:Nat,i / 8=q:=⟨_,rfl⟩
 obtain ⟨r,hr⟩:∃r:Nat,i % 8=r:=⟨_,rfl⟩
 obtain ⟨t,ht⟩:∃t:Nat,7 - r=t:=⟨_,rfl⟩
 have Z:r < 8:=by omega
 have W:q < 32:=by omega
 have h1:(i:Int) / 8=(q:Int):=by omega
 have h2:(i:Int) % 8=(r:Int):=by omega
 have z:7 - (r:Int)=(t:Int):=by omega
 have M:q < s.size:=by omega
 have T:(q:Int) < (s.size:Int):=by omega
 obtain ⟨x,U⟩:∃x:Nat,s[q].toNat=x:=⟨_,rfl⟩
 have H:x<=255:=by have:=s[q].toNat_lt;omega
 have J:bitN (sB s) i=x / 2 ^ t % 2:=by
  unfold bitN;rw [K,hr,ht,sB_getD M,U];rfl
 obtain ⟨y,G⟩:∃y:Nat,x / 2 ^ t=y:=⟨_,rfl⟩
 have N:y<=255:=by rw [<-G];exact lT (Nat.div_le_self _ _) H
 have Y:(x:Int) / 2 ^ t=(y:Int):=by rw [<-G];simp
 rw [G] at J;have L:bits .and .i64 (y:Int) 1=(bitN (sB s) i:Int):=by rw [J];exact band_1 om
 obtain ⟨d,hd⟩:∃d:Nat,bitN (sB s) i=d:=⟨_,rfl⟩
 rw [hd] at L ⊢;clear J hd K hr ht G;go_enter func251,ntmps251;go_wp2;go_ret;exact ⟨rfl,rfl⟩
theorem bitN_le (xs:List Int) (i:Nat):bitN xs i<=1:=by unfold bitN;omega
theorem rdg_le (β:Nat) (xs:List Int) (i:Nat):∀k,rdg β xs i k+1<=2 ^ k
 |0=>by simp [rdg]
 |k+1=>by
  have h1:=rdg_le β xs i k;have h2:=bitN_le xs (i*β+k);rw [rdg,Nat.pow_succ];omega
theorem rdigits_any (b:Int) (β:Nat) (hb:BitN b β) (s:ByteArray) (hs:s.size=32) (w:World):
 Calls prog 208 #[.agg (cPm b),.string s] w fun e w'=>∃v,e= .returned v/\Own I 3 w' w.heap.size v (dgF β (sB s))/\Below w.heap.size w w':=by
 obtain ⟨E,L,C,M,aK⟩:∃E L C M:Nat,(β=1/\E=2/\L=1/\C=9/\M=256)∨(β=2/\E=4/\L=3/\C=5/\M=128)∨(β=4/\E=16/\L=15/\C=3/\M=64):=by
  rcases hb with ⟨_,rfl⟩ |⟨_,rfl⟩ |⟨_,rfl⟩
  ·exact ⟨2,1,9,256,.inl ⟨rfl,rfl,rfl,rfl,rfl⟩⟩
  ·exact ⟨4,3,5,128,.inr (.inl ⟨rfl,rfl,rfl,rfl,rfl⟩)⟩
  ·exact ⟨16,15,3,64,.inr (.inr ⟨rfl,rfl,rfl,rfl,rfl⟩)⟩
 obtain rfl:b=(β:Int):=by rcases hb with ⟨rfl,rfl⟩ |⟨rfl,rfl⟩ |⟨rfl,rfl⟩<;>rfl
 have HCZ:=lh aK;clear aK;have bK:β<=4:=yaQ;have bW:1<=β:=yaQ;have a5:E<=16:=yaQ;have am:0 < E:=yaQ;have bH:¬E=0:=by omega
 have bP:¬(E:Int)=0:=by omega
 have bb:Hid (E=L+1):=yaR;have bD:L<=15:=yaQ;have bN:C<=9:=yaQ;have bv:M<=256:=yaQ;have aU:Hid (2 ^ β=E):=yaR;have ao:Hid (2 ^ β=L+1):=yaR;obtain ⟨i0,hi,aH,aY,aO⟩:=info_parts Tryz.info3;have HI:=lh hi;have a0:=lh aH;have a1:=lh aY;have aI:=lh aO;have aN:∀x∈sB s,0<=x/\x < 256:=fun x hx=>ycR s x hx;have aC:β=1∨β=2∨β=4:=(by rcases HCZ.out with ⟨rfl,rfl,rfl,rfl,rfl⟩ |⟨rfl,rfl,rfl,rfl,rfl⟩ |⟨rfl,rfl,rfl,rfl,rfl⟩<;>simp);have br:Hid (∀i,rdg β (sB s) i β=dig β (sB s) i):=fun i=>rdg_eq β (sB s) i aC aN;have HB:Hid (Below w.heap.size w (w.alloc (.cells (cPm (β:Int)) 233))):=bl;obtain ⟨G,Z⟩:∃G:World,G=w.alloc (.cells (cPm (β:Int)) 233):=⟨_,rfl⟩
 have aF:G.heap.size=w.heap.size+1:=by rw [Z];simp
 have aT:G.heap[w.heap.size]? =some (.cells (cPm (β:Int)) 233 (0,0)):=by rw [Z];exact zy w _
 have HC:Hid (∀V,Below (w.heap.size+1) G V->V.cell? ⟨w.heap.size,0,none⟩=some (.int .i64 (β:Int))/\V.cell? ⟨w.heap.size,1,none⟩=some (.int .i64 32)):=fun V hv=>by
  have q:=(hv.block w.heap.size (Nat.lt_succ_self _)).trans aT;refine ⟨?_,?_⟩<;>(rw [cell_of_row V _ _ _ _ _ q];rfl)
 rw [<-Z] at HB;have HS:=lh aF;have HWE:=lh Z;have HBc:Hid (Below (w.heap.size+1) G G):=Below.refl _ _;clear aT aF Z;have HL:=lh (fun W=>rbase_any _ β hb W);have HM:=lh (fun W=>rmain_any _ β hb W);rw [show mNI β=(M:Int) from yaR] at HM;rw [show bsF β=(E:Int) from yaR] at HL;obtain ⟨c0,c1⟩:=HC.out G bR;have aE:=lh (fun W=>rcheck_any _ β hb W);rw [show cNI β=(C:Int) from yaR] at aE;have bf:=lh (fun i (hi:i < 256) W=>rbit_any s hs i hi W);clear hi aH aY aO hs aN;go_enter func208,ntmps208;go_upto_region 1 with fail
 rw [<-HWE.out];go_upto_region 4 with fail
 have aQ:Hid (Own I 3 G (w.heap.size+1) (.slice none 0 0) (digs β (sB s) 0)):=Own.nil
 go_loopw [5,6,7] (fun v c i wr=>∃n c':Nat,n<=M/\i= .int .i64 n/\c= .int .i64 c'/\c'<=960/\Hid (cks β (sB s) n=c')/\Hid (Own I 3 wr (w.heap.size+1) v (digs β (sB s) n))/\Hid (Below (w.heap.size+1) G wr)) (fun _ _ i _=>M - (intOf i).toNat)
 case atStart=>exact ⟨0,0,by omega,rfl,rfl,by omega,rfl,aQ,HBc⟩
 case round=>
  clear HBc c0 c1 aQ;obtain ⟨n,c,hn,rfl,rfl,bo,HK,J,HBr⟩:=hrel;obtain ⟨c0,c1⟩:=HC.out wr HBr.out
  by_cases hlt:n < M
  ·
   have a6:(n:Int) < (M:Int):=by omega
   go_upto_region 8 with (go_at_call 247;(with_reducible refine (HM.out _).mono ?_);rintro e T ⟨rfl,N⟩;(have H:Hid (Below (w.heap.size+1) G T):=HBr.out.trans (N.mono (HS.out▸HBr.out.size)));(have Y:Hid (Own I 3 T (w.heap.size+1) u5 (digs β (sB s) n)):=J.out.on N);clear N)
   clear c0 c1
   go_loopw [8,9] (fun d k wq=>(∃j y:Nat,j<=β/\k= .int .i64 j/\d= .int .i64 y/\Hid (rdg β (sB s) n j=y))/\T=wq) (fun _ k _=>β - (intOf k).toNat)
   case atStart=>exact ⟨⟨0,0,by omega,rfl,rfl,rfl⟩,rfl⟩
   case round=>
    obtain ⟨⟨j,y,hj,rfl,rfl,HY⟩,rfl⟩:=hrel;obtain ⟨c0,c1⟩:=HC.out T H.out
    by_cases bQ:j < β
    ·have a7:(j:Int) < (β:Int):=by omega
     have hp:n*β+j < 256:=yaQ;obtain ⟨U,ah⟩:=gX (n*β);have bB:U<=256:=by omega
     have bw:(n:Int)*(β:Int)=(U:Int):=by rw [<-ah];simp
     rw [ah] at hp;have a8:(U:Int)+(j:Int)=((U+j:Nat):Int):=by omega
     have ay:=lh (bf.out (U+j) hp T);have bu:=bitN_le (sB s) (U+j);have aW:Hid (rdg β (sB s) n (j+1)=2*y+bitN (sB s) (U+j)):=by show _=_;rw [rdg,HY.out,ah]
     have bA:y<=15:=by
      have h:=rdg_le β (sB s) n j;rw [HY.out] at h;have:2 ^ j<=2 ^ β:=Nat.pow_le_pow_right de hj;rw [aU.out] at this;omega
     obtain ⟨d1,aP⟩:∃d:Nat,bitN (sB s) (U+j)=d:=⟨_,rfl⟩
     rw [aP] at ay aW bu;obtain ⟨p1,aV⟩:∃p:Nat,U+j=p:=⟨_,rfl⟩
     rw [aV] at ay a8;clear aP aV ah;go_wp2_with (go_at_call 251;(with_reducible refine ay.out.mono ?_);rintro e w3 ⟨rfl,rfl⟩);refine ⟨?rel,?measure⟩;case rel=>exact ⟨⟨j+1,2*y+d1,by omega,by go_num,by go_num,aW⟩,by first |rfl |trivial⟩
     case measure=>(simp [intOf]<;>omega)
    ·obtain rfl:β=j:=by omega
     have a7:¬(β:Int) < (β:Int):=by omega
     rw [br.out n] at HY;have ag:Hid (digs β (sB s) (n+1)=digs β (sB s) n++[(y:Int)]):=by show _=_;rw [digs_succ,HY.out]
     have bS:y<=L:=by rw [<-HY.out];have h1:=dig_lt β (sB s) n;rw [ao.out] at h1;omega
     have HCS:Hid (cks β (sB s) (n+1)=c+(L - y)):=by show _=_;rw [cks,HK.out,HY.out,ao.out,Nat.add_sub_cancel]
     have be:c+(L - y)<=960:=by
      have h1:=cks_le β (sB s) (n+1);rw [HCS.out,ao.out,Nat.add_sub_cancel] at h1;exact lT h1 yaQ
     have al:Hid (((digs β (sB s) n).length+1)*8<=140737488355328):=by show _<=_;rw [ycM];omega
     have ar:Hid ((digs β (sB s) n).length+1<=maxLen):=by show _<=_;rw [ycM];unfold maxLen;omega
     have ac:Hid (w.heap.size+1<=T.heap.size):=HS.out▸H.out.size;have aS:((c:Int)+(E:Int) - 1) - (y:Int)=((c+(L - y):Nat):Int):=by have:=bb.out;omega
     have bi:=lh aS;clear aS;go_upto_region 12 with (at_builtin;(with_reducible refine ybw (o:=⟨some 39,_,_,_,_,_⟩) rfl (.tmp 36) (.tmp 38) 27 rfl 3 i0 (.int .i64 0) 8 underlying27 HI.out a0.out a1.out aI.out rfl _ (digs β (sB s) n) (w.heap.size+1) rfl Y.out (y:Int) 1 rfl I1 al.out ar.out ac.out ?_);intro v5 w5 a9 HG5 bT;(have az:Hid (Below (w.heap.size+1) G w5):=H.out.trans (ybm HG5.out (fun j hj=>(ol Y.out j hj).1) ac.out)))
     obtain ⟨c0,c1⟩:=HC.out w5 az.out;go_wp2_with (go_at_call 250;(with_reducible refine (HL.out _).mono ?_);rintro e w6 ⟨rfl,O⟩;(have HB6:Hid (Below (w.heap.size+1) G w6):=az.out.trans (O.mono (HS.out▸az.out.size)));(have au:Hid (Own I 3 w6 (w.heap.size+1) v5 (digs β (sB s) (n+1))):=ag.out▸(a9.out.on O));clear O);refine ⟨?rel,?measure⟩;case rel=>exact ⟨n+1,c+(L - y),by omega,by go_num,by rw [<-bi.out],be,HCS,au,HB6⟩
     case measure=>(simp [intOf]<;>omega)
  ·
   obtain rfl:M=n:=by omega
   have aD:Hid (Own I 3 wr (w.heap.size+1) u5 (digs β (sB s) M)):=J;have bj:Hid (cks β (sB s) M=c):=HK;clear J HK;have a6:¬(M:Int) < (M:Int):=by omega
   go_upto_region 14 with (first
    |(go_at_call 247;(with_reducible refine (HM.out _).mono ?_);rintro e T ⟨rfl,N⟩;(have H:Hid (Below (w.heap.size+1) G T):=HBr.out.trans (N.mono (HS.out▸HBr.out.size)));(have Y:Hid (Own I 3 T (w.heap.size+1) u5 (digs β (sB s) M)):=aD.out.on N);(obtain ⟨c0,c1⟩:=HC.out T H.out);clear N)
    |(go_at_call 248;(with_reducible refine (aE.out _).mono ?_);rintro e w3 ⟨rfl,aq⟩;(have aM:Hid (Below (w.heap.size+1) G w3):=H.out.trans (aq.mono (HS.out▸H.out.size)));(have aZ:Hid (Own I 3 w3 (w.heap.size+1) u5 (digs β (sB s) M)):=Y.out.on aq);clear aq))
   have aG:Hid (Own I 3 w3 (w.heap.size+1) u5 (digs β (sB s) M++cdigs β C c 0)):=by show Own ..;rw [show cdigs β C c 0=[] from rfl,List.append_nil];exact aZ.out
   clear c0 c1
   go_loopw [5,10] (fun v i wr=>∃j:Nat,j<=C/\i= .int .i64 ((C:Int) - 1 - (j:Int))/\Hid (Own I 3 wr (w.heap.size+1) v (digs β (sB s) M++cdigs β C c j))/\Hid (Below (w.heap.size+1) G wr)) (fun _ i _=>(intOf i+1).toNat)
   case atStart=>exact ⟨0,by omega,by simp,aG,aM⟩
   case round=>
    clear aG aM aD aZ Y H HBr;obtain ⟨j,hj,rfl,J,HBr⟩:=hrel
    by_cases bO:j < C
    ·
     obtain ⟨pl,aL⟩:∃pl:Nat,pl=C - 1 - j:=⟨_,rfl⟩
     have aw:((C:Int) - 1 - (j:Int))=(pl:Int):=by omega
     have aJ:=lh aL;have bC:pl<=8:=by omega
     have bE:pl<=C - 1:=by omega
     rw [aw];clear aL aw;go_upto_region 18 with fail
     obtain ⟨wo,rfl⟩:∃wo:World,wo=wr:=⟨_,rfl⟩
     go_loopw [11,12] (fun p k wr=>(∃m q:Nat,m<=pl/\k= .int .i64 m/\p= .int .i64 q/\Hid (E ^ m=q))/\Hid (Own I 3 wr (w.heap.size+1) u5 (digs β (sB s) M++cdigs β C c j))/\Hid (Below (w.heap.size+1) G wr)) (fun _ k _=>pl - (intOf k).toNat)
     case atStart=>exact ⟨⟨0,1,by omega,rfl,rfl,rfl⟩,J,HBr⟩
     case round=>
      clear J HBr;obtain ⟨⟨m,q,hm,rfl,rfl,HQ⟩,J,HBr⟩:=hrel;obtain ⟨c0,c1⟩:=HC.out _ HBr.out
      have aA:q<=256:=by
       rw [<-HQ.out];exact lT (Nat.pow_le_pow_right am (show m<=C - 1 by omega)) (by rcases HCZ.out with ⟨rfl,rfl,rfl,rfl,rfl⟩ |⟨rfl,rfl,rfl,rfl,rfl⟩ |⟨rfl,rfl,rfl,rfl,rfl⟩<;>decide)
      by_cases bU:m < pl
      ·obtain ⟨q2,ai⟩:=gX (q*E);have bz:q2<=4096:=by rw [<-ai];exact Nat.mul_le_mul aA a5
       have bI:(q:Int)*(E:Int)=(q2:Int):=by rw [<-ai];simp
       have bq:Hid (E ^ (m+1)=q2):=by show _=_;rw [Nat.pow_succ,HQ.out,ai]
       clear ai;go_wp2_with (go_at_call 250;(with_reducible refine (HL.out _).mono ?_);rintro e w6 ⟨rfl,O⟩;(have HB6:Hid (Below (w.heap.size+1) G w6):=HBr.out.trans (O.mono (HS.out▸HBr.out.size)));(have au:Hid (Own I 3 w6 (w.heap.size+1) u5 (digs β (sB s) M++cdigs β C c j)):=J.out.on O);clear O);refine ⟨?rel,?measure⟩;case rel=>exact ⟨⟨m+1,q2,by omega,by go_num,by first |rfl |go_num,bq⟩,au,HB6⟩
       case measure=>(simp [intOf]<;>omega)
      ·obtain rfl:m=pl:=by omega
       have bM:0 < q:=by rw [<-HQ.out];first |exact Nat.pow_pos am |exact Nat.one_le_pow _ _ am
       obtain ⟨z,aa⟩:=gX (c / q);obtain ⟨d,hd⟩:∃d:Nat,cdig β C c j=d:=⟨_,rfl⟩
       have aj:d=z % E:=by
        rw [<-hd,<-aa,<-HQ.out,aJ.out];show c / 2 ^ (β*(C - 1 - j)) % 2 ^ β=c / E ^ (C - 1 - j) % E;rw [Nat.pow_mul,aU.out]
       have bh:(c:Int).tdiv (q:Int)=(z:Int):=by rw [<-aa];rfl
       have a2:(c:Int) / (q:Int)=(z:Int):=by rw [<-aa];simp
       have bJ:z<=960:=by rw [<-aa];exact lT (Nat.div_le_self _ _) bo
       have bm:(z:Int).tmod (E:Int)=(d:Int):=by rw [aj];rfl
       have a4:(z:Int) % (E:Int)=(d:Int):=by rw [aj];simp
       have bp:IntKind.i64.wrap (z:Int)=z:=IntWalk.i64_in _ om;have bx:¬(q:Int)=0:=by omega
       have bV:¬q=0:=by omega
       have ag:Hid (digs β (sB s) M++cdigs β C c (j+1)=(digs β (sB s) M++cdigs β C c j)++[(d:Int)]):=by
        show _=_;rw [cdigs_succ,hd,List.append_assoc]
       obtain ⟨ls,ax⟩:=gX (digs β (sB s) M++cdigs β C c j);have aX:Hid (ls.length=M+j):=by show _=_;rw [<-ax,List.length_append,ycM,cdigs_len]
       rw [ax] at J ag;have al:Hid ((ls.length+1)*8<=140737488355328):=by show _<=_;rw [aX.out];omega
       have ar:Hid (ls.length+1<=maxLen):=by show _<=_;rw [aX.out];unfold maxLen;omega
       have HBc:=HBr;have ac:Hid (w.heap.size+1<=wr.heap.size):=HS.out▸HBr.out.size;have bG:=lh aj;have aR:=aJ;clear aa hd aj ax HQ;go_upto_region 21 with fail
       refine rH (S:=(fun w'=>w'.cell? ⟨w.heap.size,0,none⟩=some (.int .i64 (β:Int))/\w'.cell? ⟨w.heap.size,1,none⟩=some (.int .i64 32))) ybi yai (fun aB=>?_)
       (iterate 5 refine tkA ?_)
       refine rd1 5 (fun K hK=>?_)
       (go_simp;go_at_call 250;(with_reducible refine (HL.out _).mono ?_);rintro e w4 ⟨rfl,ak⟩;(have HBc:Hid (Below (w.heap.size+1) G w4):=HBr.out.trans (Below.mono (Below.trans (B:=wr.heap.size) yaH ak) ac.out));(have HS4:Hid (w.heap.size+1<=w4.heap.size):=lT ac.out ak.size);(have bg:Hid (Own I 3 w4 (w.heap.size+1) u5 (ls)):=J.out.on (Below.trans (B:=wr.heap.size) yaH ak));clear ak;go_wp2_with fail)
       refine hK.out _ _ yai (fun ae=>?_);clear hK K aB
       try simp only [pt]
       refine tkY 6 ?_;refine rd1 7 (fun K hK=>?_);go_simp;refine hK.out _ _ yai (fun af=>?_);clear hK K ae
       try simp only [pt]
       refine rd1 8 (fun K hK=>?_)
       ((refine ycC (f:=I) (.tmp 63) (.tmp 70) 27 rfl rfl 3 i0 (.int .i64 0) 8 underlying27 HI.out a0.out a1.out aI.out rfl ls (w.heap.size+1) ?hown [(d:Int)] ?hrow I1 al.out ar.out ?hbase ?_);(case hown=>exact bg.out.alloc _);(case hrow=>exact ⟨_,_,1,1,rfl,rfl,SL.of_block (t:=3) (fr:=(0,0)) (zy _ _) (Nat.lt_succ_self _)⟩);(case hbase=>have:=HS4.out;simp;omega);(intro v7 w7 bk HG7 bL HB7);(have HBd:Hid (Below (w.heap.size+1) G w7):=HB7.out (w.heap.size+1) G (HBc.out.alloc HS4.out _) nl))
       refine hK.out _ _ yai (fun a3=>?_);clear hK K af
       try simp only [pt]
       refine tkY 9 ?_;refine wpAnyH_done ybi ?_ _;clear bh a2 bm a4 bp;obtain ⟨c0,c1⟩:=HC.out w7 HBd.out;have ap:Hid (Own I 3 w7 (w.heap.size+1) v7 (digs β (sB s) M++cdigs β C c (j+1))):=ag.out▸bk.out;go_wp2;refine ⟨?rel,?measure⟩;case rel=>exact ⟨j+1,by omega,(by (have:=aR.out;refine congrArg (Value.int .i64) ?_;omega)),ap,HBd⟩
       case measure=>(have:=aR.out;simp [intOf]<;>omega)
    ·obtain rfl:C=j:=by omega
     have ap:Hid (Own I 3 wr (w.heap.size+1) u5 (dgF β (sB s))):=by
      show Own ..
      have h:dgF β (sB s)=digs β (sB s) M++cdigs β C c C:=by
       rw [<-bj.out];unfold dgF;rw [show mN β=M from yaR,show cN β=C from yaR]
      rw [h];exact J.out
     have bF:¬(0:Int)<=(C:Int) - 1 - (C:Int):=by omega
     go_wp2;go_ret;exact ⟨_,rfl,yc3 ap.out (Nat.le_succ _),HB.out.trans (HBr.out.mono (Nat.le_succ _))⟩
abbrev chL:List Int:=[99,104,97,105,110]
theorem chL_eq:sB "chain".toUTF8=chL:=by decide+kernel
theorem ovc_any (i:Nat) (hi:i<=999) (w:World):Calls prog 265 #[.int .i64 i] w fun e G=>e= .returned (.bool true)/\w=G:=by
 have h1:(i:Int)<=999:=by omega
 have h0:(0:Int)<=i:=by omega
 go_enter func265,ntmps265;go_wp2;go_ret;exact ⟨rfl,rfl⟩
theorem ois_any (x:ByteArray) (H:x.size=32) (w:World):Calls prog 266 #[.string x] w fun e G=>e= .returned (.bool true)/\w=G:=by
 have h1:((x.size:Int)==32)=true:=by simp [H]
 go_enter func266,ntmps266;go_wp2;go_ret;exact ⟨rfl,rfl⟩
theorem enc_len10 (n:Nat) (h:n < 18446744073709551616):(enc n).length<=10:=ybx n
theorem own_hA {w:World} {B n:Nat} {A:Option Addr} {xs:List Int} (h:Sl fB w B A n xs) (h0:0 < n):∀a,A=some a->a.block < B:=fun a ha=>by
 obtain ⟨b,off,e,hlt⟩:=h.at0 h0;rw [ha] at e;cases e
 exact hlt
theorem chain_any (i f t:Nat) (hi:i<=999) (hf:f<=t) (ht:t<=255) (x:ByteArray) (hx:x.size=32) (w:World) (hG:Glob w):
 Calls prog 244 #[.int .i64 i,.int .i64 f,.int .i64 t,.string x] w fun e J=>e= .returned (.tuple #[.string (chF i f (t - f) x),.int .i64 0])/\Below w.heap.size w J:=by
 obtain ⟨i0,aw,ac,ah,al⟩:=info_parts Tryz.infoB;have HI:=lh aw;have aI:=lh ac;have aJ:=lh ah;have aD:=lh al;have HG:=lh hG;have HV:=lh (fun W=>ovc_any i hi W);have au:=lh (fun W=>ois_any x hx W);have aH:Hid (∀k,(chF i f k x).size=32):=yem i f x hx;have aG:=lh (enc_len10 i om);have h1:¬(f:Int) < 0:=by omega
 have h2:¬(t:Int) < (f:Int):=by omega
 have h3:¬(255:Int) < (t:Int):=by omega
 have aT:IntKind.u64.wrap (i:Int)=i:=by unfold IntKind.wrap;simp [IntKind.bits,IntKind.signed];omega
 have kc:Hid (∀W:World,Sl fB (W.alloc (.cells #[.int .u8 99,.int .u8 104,.int .u8 97,.int .u8 105,.int .u8 110] 5 (5,6))) (W.alloc (.cells #[.int .u8 99,.int .u8 104,.int .u8 97,.int .u8 105,.int .u8 110] 5 (5,6))).heap.size (some ⟨W.heap.size,0,none⟩) 5 chL):=fun W=>⟨rfl,SL.of_block (t:=5) (fr:=(5,6)) (zy W _) sI⟩;have L:Hid (∀W:World,Calls prog 70 #[.slice (some ⟨W.heap.size,0,none⟩) 5 5,.int .u64 i] (W.alloc (.cells #[.int .u8 99,.int .u8 104,.int .u8 97,.int .u8 105,.int .u8 110] 5 (5,6))) fun e J=>∃v,e= .returned v/\Own fB 5 J (W.alloc (.cells #[.int .u8 99,.int .u8 104,.int .u8 97,.int .u8 105,.int .u8 110] 5 (5,6))).heap.size v (chL++enc i)/\Below (W.alloc (.cells #[.int .u8 99,.int .u8 104,.int .u8 97,.int .u8 105,.int .u8 110] 5 (5,6))).heap.size (W.alloc (.cells #[.int .u8 99,.int .u8 104,.int .u8 97,.int .u8 105,.int .u8 110] 5 (5,6))) J):=fun W=>apG_any _ 5 5 _ chL i _ (kc.out W) nl om om;have ax:Hid (Below w.heap.size w (w.alloc (.cells #[.int .u8 99,.int .u8 104,.int .u8 97,.int .u8 105,.int .u8 110] 5 (5,6)))):=bl;have aL:=fun (w:World) (C:Array Value) (n c:Nat)=>Lib.run_convert_bytes_const (P:=prog) w 40 5 C n c underlying40 underlying5;clear aw ac ah al hG hi hx;go_enter func244,ntmps244
 go_upto_region 5 with (first
  |(go_at_call 265;(with_reducible refine (HV.out _).mono ?_);rintro e w1 ⟨rfl,rfl⟩)
  |(go_at_call 266;(with_reducible refine (au.out _).mono ?_);rintro e w1 ⟨rfl,rfl⟩)
  |(go_at_call 70;(with_reducible refine (L.out _).mono ?_);rintro e H ⟨v1,rfl,U,aq⟩;(have HO:=lh U);(have ap:Hid (Below w.heap.size w H):=bt ax.out aq);clear U aq))
 obtain ⟨A1,c1,aa,aO,am,_⟩:=HO.out.shape;obtain ⟨m1,T⟩:=gX ((chL++enc i).length);have HS1:Hid (Sl fB H H.heap.size A1 m1 (chL++enc i)):=⟨T,am⟩;have aR:m1<=15:=by rw [<-T,List.length_append];have:=aG.out;show 5+_<=15;omega
 rw [T] at aa aO;subst aa;clear am aL HO kc L HV au;have aA:Hid (chF i f 0 x=x):=rfl;have HBW:Hid (Below H.heap.size H H):=Below.refl _ _
 go_loopw [3,11] (fun v s wr=>∃(k:Nat) (y:ByteArray),k<=t - f/\s= .int .i64 ((f+k:Nat):Int)/\v= .string y/\Hid (chF i f k x=y)/\Hid (Below H.heap.size H wr)) (fun _ s _=>t - (intOf s).toNat)
 case atStart=>exact ⟨0,x,by omega,rfl,rfl,aA,HBW⟩
 case round=>
  obtain ⟨k,y,hk,rfl,rfl,HY,HBr⟩:=hrel;have N:y.size=32:=by rw [<-HY.out];exact aH.out k
  have Z:=lh N;clear N
  by_cases hlt:k < t - f
  ·obtain ⟨q,hq⟩:=gX (f+k);have HQ:=lh hq;have aU:q < t:=by omega
   have aQ:(q:Int) < (t:Int):=by omega
   have aV:IntKind.u64.wrap (q:Int)=q:=by unfold IntKind.wrap;simp [IntKind.bits,IntKind.signed];omega
   rw [hq];have aC:=lh (enc_len10 q om);have L:Hid (Calls prog 70 #[.slice A1 m1 c1,.int .u64 q] wr fun e J=>∃v,e= .returned v/\Own fB 5 J wr.heap.size v ((chL++enc i)++enc q)/\Below wr.heap.size wr J):=apG_any A1 m1 c1 H.heap.size _ q wr (HS1.out.up HBr.out nl) HBr.out.size om om;have O:Hid (((chL++enc i)++enc q).length+y.size<=60):=by show _<=_;rw [List.length_append,HS1.out.1,Z.out];have:=aC.out;omega
   have aF:Hid (((chL++enc i)++enc q).length+y.size<=140737488355328):=lT O.out om
   have ay:Hid (Byt (((chL++enc i)++enc q)++sB y)):=fun z G=>by
    rcases List.mem_append.1 G with G |G
    ·rcases List.mem_append.1 G with G |G
     ·rcases List.mem_append.1 G with G |G
      ·(rcases List.mem_cons.1 G with rfl |G; ·omega);(rcases List.mem_cons.1 G with rfl |G; ·omega);(rcases List.mem_cons.1 G with rfl |G; ·omega);(rcases List.mem_cons.1 G with rfl |G; ·omega);(rcases List.mem_cons.1 G with rfl |G; ·omega);cases G
      ·exact ybO _ z G
     ·exact ybO _ z G
    ·exact ycR y z G
   have az:Hid (chF i f (k+1) x=baOf (shaB (((chL++enc i)++enc q)++sB y))):=by
    show _=_;rw [chF,HY.out,chL_eq,HQ.out]
   clear hq
   go_wp2_with (first
    |(go_at_call 70;(with_reducible refine L.out.mono ?_);rintro e w3 ⟨v3,rfl,U,M⟩;(have aj:=lh U);(have ag:Hid (Below H.heap.size H w3):=bt HBr.out M);(have aB:Hid (wr.heap.size<=w3.heap.size):=M.size);(have aP:Hid (Below wr.heap.size wr w3):=M);clear U M)
    |(at_builtin;(refine ycf (o:=⟨some 49,_,_,_,_,_⟩) rfl (.tmp 47) (.tmp 48) 40 9 rfl 5 i0 underlying40 underlying9 HI.out aI.out aJ.out aD.out v3 ((chL++enc i)++enc q) wr.heap.size (by rfl) aj.out y (by rfl) aF.out aB.out ?_);intro v4 w4 aK aN aW;(obtain ⟨A4,c4,af,Y,ai,_⟩:=aK.out.shape);(obtain ⟨n4,K⟩:=gX ((((chL++enc i)++enc q)++sB y).length));(have ae:=lh K);(rw [K] at af Y);subst af;(have ar:Hid (Below H.heap.size H w4):=ag.out.trans (ybm aN.out (fun j hj=>lT HBr.out.size (ol aj.out j hj).1) ag.out.size));(have HS4:Hid (Sl fB w4 w4.heap.size A4 n4 (((chL++enc i)++enc q)++sB y)):=⟨K,ai⟩);(have aM:=lh Y);clear ai Y K;(have ao:Hid (Calls prog 154 #[.slice A4 n4 c4] w4 fun e J=>e= .returned (.string (baOf (shaB (((chL++enc i)++enc q)++sB y))))/\Below w4.heap.size w4 J):=ssum_any A4 _ c4 w4.heap.size _ w4 (HG.out.on (bt ap.out ar.out)) HS4.out aM.out nl (by have:=O.out;rw [<-ae.out,List.length_append,ybS];omega) (ay.out) (own_hA HS4.out (by rw [<-ae.out,List.length_append,ybS,Z.out];omega)));(rw [<-az.out] at ao))
    |(go_at_call 154;(with_reducible refine ao.out.mono ?_);rintro e w5 ⟨rfl,ak⟩;(have aE:Hid (Below H.heap.size H w5):=bt ar.out ak);clear ak))
   refine ⟨?rel,?measure⟩;case rel=>exact ⟨k+1,_,by omega,(by (have:=HQ.out;refine congrArg (Value.int .i64) ?_;omega)),rfl,rfl,aE⟩
   case measure=>(have:=HQ.out;simp [intOf]<;>omega)
  ·obtain rfl:k=t - f:=by omega
   have aS:¬((f+(t - f):Nat):Int) < (t:Int):=by omega
   go_wp2;go_ret2;exact ⟨by rw [HY.out];rfl,bt ap.out HBr.out⟩
theorem ydn {w:World} {B:Nat} {A:Option Addr} {n c:Nat} {xs:List Int} (h:Sl fB w B A n xs):(convert 40 9 (.slice A n c)).run prog w= .ok (.string (baOf xs)) w:=
 yb1 (P:=prog) 40 5 9 underlying40 underlying5 underlying9 w B A n c xs h
theorem ydH {xs:List Int} (h:∀b∈xs,0<=b/\b < 256):(baOf xs).size=xs.length:=by rw [<-ybS,ybL h]
def NumS (n:Nat) (w:World) (e:Ending) (w':World):Prop:=
 ∃A m c,e= .returned (.slice A m c)/\Hid (∀V,Below w'.heap.size w' V->(convert 40 9 (.slice A m c)).run prog V= .ok (.string (baOf (enc n))) V)/\Below w.heap.size w w'
theorem numS_any (n:Nat) (w:World) (hn:n < 18446744073709551616):Calls prog 79 #[.int .u64 n] w (NumS n w):=(ycK n w hn).mono fun e J ⟨v,K,G,L⟩=>by
 obtain ⟨A,c,H,_,hs,_⟩:=G.shape;exact ⟨A,_,c,by rw [K,H],fun V M=>ydn (B:=J.heap.size) (Sl.up ⟨rfl,hs⟩ M nl),L⟩
theorem rinput_any (i q:Nat) (hi:i < 1000) (hq:q < 1000) (x:ByteArray) (hx:x.size=32) (w:World):
 Calls prog 268 #[.int .i64 i,.int .i64 q,.string x] w fun e w'=>e= .returned (.string (baOf (((chL++enc i)++enc q)++sB x)))/\Below w.heap.size w w':=by
 have aj:IntKind.u64.wrap (i:Int)=i:=by unfold IntKind.wrap;simp [IntKind.bits,IntKind.signed];omega
 have ak:IntKind.u64.wrap (q:Int)=q:=by unfold IntKind.wrap;simp [IntKind.bits,IntKind.signed];omega
 have HN:=lh (fun n (hn:n < 1000) W=>numS_any n W om);have HI:=lh hi;have HQ:=lh hq;obtain ⟨si,N⟩:=gX (baOf (enc i));obtain ⟨sq,M⟩:=gX (baOf (enc q));have ah:si.size<=10:=by rw [<-N,ydH (ybO i)];exact ybx i
 have ai:sq.size<=10:=by rw [<-M,ydH (ybO q)];exact ybx q
 have HV:Hid (baOf (((chL++enc i)++enc q)++sB x)=(⟨#[99,104,97,105,110]⟩:ByteArray)++si++sq++x):=by
  show _=_
  apply ba_eqU;rw [sB_app,sB_app,sB_app,<-N,<-M,ybL (ybO i),ybL (ybO q),ybL]
  ·rfl
  ·intro z G
   rcases List.mem_append.1 G with G |G
   ·rcases List.mem_append.1 G with G |G
    ·rcases List.mem_append.1 G with G |G
     ·(rcases List.mem_cons.1 G with rfl |G; ·omega);(rcases List.mem_cons.1 G with rfl |G; ·omega);(rcases List.mem_cons.1 G with rfl |G; ·omega);(rcases List.mem_cons.1 G with rfl |G; ·omega);(rcases List.mem_cons.1 G with rfl |G; ·omega);cases G
     ·exact ybO _ z G
    ·exact ybO _ z G
   ·exact ycR x z G
 have af:=lh N;have ag:=lh M;have HB:Hid (Below w.heap.size w w):=Below.refl _ _;rw [HV.out];have l1:¬9223372036854775807 < 5+si.size:=by omega
 have l2:¬9223372036854775807 < 5+si.size+sq.size:=by omega
 have l3:¬9223372036854775807 < 5+si.size+sq.size+x.size:=by omega
 clear N M HV hi hq hx;go_enter func268,ntmps268;go_wp2_with fail
 go_region_law (first
  |(go_simp;go_at_call 79;((with_reducible refine (HN.out i HI.out _).mono ?_));rintro e K ⟨A6,m6,c6,rfl,J,U⟩;(have O:Below w.heap.size w K:=Below.trans (B:=w.heap.size) (by repeat (first |exact HB.out |refine Below.drew ?_ |refine below_dN' ?_ _)) (U.mono ya0));(try (have H:=lh (fun (V:World) (hV:Below K.heap.size K V)=>H.out V (Below.trans (B:=L.heap.size) (Below.trans (B:=L.heap.size) (by repeat (first |exact Below.refl _ _ |refine Below.drew ?_ |refine below_dN' ?_ _)) U) (hV.mono U.size)))));(have HB:=lh O);clear O;rw [af.out] at J;(have Z:=J.out K bR);(have ae:=J.out K.drew bR.drew);(try (have aa:=H.out K bR));(try (have ac:=H.out K.drew bR.drew));(try go_simp))
  |(go_simp;go_at_call 79;((with_reducible refine (HN.out q HQ.out _).mono ?_));rintro e L ⟨A7,m7,c7,rfl,H,Y⟩;(have T:Below w.heap.size w L:=Below.trans (B:=w.heap.size) (by repeat (first |exact HB.out |refine Below.drew ?_ |refine below_dN' ?_ _)) (Y.mono ya0));(try (have J:=lh (fun (V:World) (hV:Below L.heap.size L V)=>J.out V (Below.trans (B:=K.heap.size) (Below.trans (B:=K.heap.size) (by repeat (first |exact Below.refl _ _ |refine Below.drew ?_ |refine below_dN' ?_ _)) Y) (hV.mono Y.size)))));(have HB:=lh T);clear T;rw [ag.out] at H;(have Z:=H.out L bR);(have ae:=H.out L.drew bR.drew);(try (have aa:=J.out L bR));(try (have ac:=J.out L.drew bR.drew));(try go_simp)))
 all_goals
  go_wp2_with fail
  go_ret;exact ⟨rfl,(by first |exact HB.out |exact HB.out.drew)⟩
theorem byt_in (i q:Nat) (x:ByteArray):∀z∈((chL++enc i)++enc q)++sB x,0<=z/\z < 256:=by
 intro z G;rcases List.mem_append.1 G with G |G
 ·rcases List.mem_append.1 G with G |G
  ·rcases List.mem_append.1 G with G |G
   ·(rcases List.mem_cons.1 G with rfl |G; ·omega);(rcases List.mem_cons.1 G with rfl |G; ·omega);(rcases List.mem_cons.1 G with rfl |G; ·omega);(rcases List.mem_cons.1 G with rfl |G; ·omega);(rcases List.mem_cons.1 G with rfl |G; ·omega);cases G
   ·exact ybO _ z G
  ·exact ybO _ z G
 ·exact ycR x z G
theorem rchain_any (i f t:Nat) (hi:i<=999) (hf:f<=t) (ht:t<=255) (x:ByteArray) (hx:x.size=32) (w:World):
 Calls prog 249 #[.int .i64 i,.int .i64 f,.int .i64 t,.string x] w fun e w'=>e= .returned (.string (chF i f (t - f) x))/\Below w.heap.size w w':=by
 have ak:Hid (∀k,(chF i f k x).size=32):=yem i f x hx;have HI:=lh hi;have ah:Hid (chF i f 0 x=x):=rfl;have HBW:Hid (Below w.heap.size w w):=Below.refl _ _;clear hi hx;go_enter func249,ntmps249;go_upto_region 2 with fail
 go_loopw [3,9] (fun v s wr=>∃(k:Nat) (y:ByteArray),k<=t - f/\s= .int .i64 ((f+k:Nat):Int)/\v= .string y/\Hid (chF i f k x=y)/\Hid (Below w.heap.size w wr)) (fun _ s _=>t - (intOf s).toNat)
 case atStart=>exact ⟨0,x,by omega,rfl,rfl,ah,HBW⟩
 case round=>
  obtain ⟨k,y,hk,rfl,rfl,HY,HBr⟩:=hrel;have N:Hid (y.size=32):=by show _=_;rw [<-HY.out];exact ak.out k
  by_cases hlt:k < t - f
  ·obtain ⟨q,hq⟩:=gX (f+k);have HQ:=lh hq;have ap:q < t:=by omega
   have am:(q:Int) < (t:Int):=by omega
   rw [hq];have M:=lh (rinput_any i q (by have:=HI.out;omega) om y N.out wr)
   have U:Hid (chF i f (k+1) x=baOf (shaB (((chL++enc i)++enc q)++sB y))):=by
    show _=_;rw [chF,HY.out,chL_eq,HQ.out]
   obtain ⟨G,H⟩:=gX (((chL++enc i)++enc q)++sB y)
   have Z:G.length<=60:=by
    rw [<-H,List.length_append,List.length_append,List.length_append,ybS,N.out];have h1:=ybx i;have h2:=ybx q;show 5+_+_+32<=60;omega
   have J:∀z∈G,0<=z/\z < 256:=by rw [<-H];exact byt_in i q y
   have T:Hid (sB (baOf G)=G):=ybL J;have L:Hid ((baOf G).size<=60):=by show _<=_;rw [ydH J];exact Z
   rw [H] at M U;have ag:=lh J;obtain ⟨zt,aa⟩:=gX (baOf G);rw [aa] at M T L;clear hq H J Z aa
   go_wp2_with (first
    |(go_at_call 268;(with_reducible refine M.out.mono ?_);rintro e w3 ⟨rfl,ae⟩;(have ai:Hid (Below w.heap.size w w3):=bt HBr.out ae);clear ae)
    |((with_reducible refine yb8 (o:=⟨some 20,_,_,_,_,_⟩) rfl (.tmp 19) rfl zt rfl ?_);intro cb K Y af O;(have al:Hid (Below w.heap.size w K):=bt ai.out O.out);(have W:Hid (Calls prog 123 #[.slice (some ⟨w3.heap.size,0,none⟩) zt.size cb] K fun e w'=>e= .returned (.string (baOf (shaB G)))/\Below K.heap.size K w'):=ydA _ _ cb K.heap.size G K (T.out▸Y.out) nl (lT L.out om) ag.out);(rw [<-U.out] at W);clear Y af O)
    |(go_at_call 123;(with_reducible refine W.out.mono ?_);rintro e W2 ⟨rfl,ac⟩;(have aj:Hid (Below w.heap.size w W2):=bt al.out ac);clear ac))
   refine ⟨?rel,?measure⟩;case rel=>exact ⟨k+1,_,by omega,(by (have:=HQ.out;refine congrArg (Value.int .i64) ?_;omega)),rfl,rfl,aj⟩
   case measure=>(have:=HQ.out;simp [intOf]<;>omega)
  ·obtain rfl:k=t - f:=by omega
   have ao:¬((f+(t - f):Nat):Int) < (t:Int):=by omega
   go_wp2;go_ret;exact ⟨by rw [HY.out];rfl,HBr.out⟩
