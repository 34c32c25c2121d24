import Derived.Test.YtpdledjgbgalcaaGreatDoorPj
namespace Go.Proofs.YtpdledjgbgalcaaGreatDoor
set_option maxRecDepth 100000
set_option maxHeartbeats 8000000
open Go.RowKit Go.Lib Go.Proofs.Tryz
set_option linter.unusedVariables false
set_option linter.unusedSimpArgs false
theorem rbit_any (s:ByteArray) (hs:s.size=32) (i:Nat) (hi:i < 256) (w:World):Calls prog 251 #[.string s,.int .i64 i] w fun e U=>e= .returned (.int .i64 (bitN (sB s) i))/\w=U:=by
 obtain ⟨q,L⟩:∃q:Nat,i / 8=q:=⟨_,rfl⟩
 obtain ⟨r,hr⟩:∃r:Nat,i % 8=r:=⟨_,rfl⟩
 obtain ⟨t,ht⟩:∃t:Nat,7 - r=t:=⟨_,rfl⟩
 have Y:r < 8:=by omega
 have W:q < 32:=by omega
 have h1:(i:Int) / 8=(q:Int):=by omega
 have h2:(i:Int) % 8=(r:Int):=by omega
 have z:7 - (r:Int)=(t:Int):=by omega
 have M:q < s.size:=by omega
 have T:(q:Int) < (s.size:Int):=by omega
 obtain ⟨x,O⟩:∃x:Nat,s[q].toNat=x:=⟨_,rfl⟩
 have H:x<=255:=by have:=s[q].toNat_lt;omega
 have J:bitN (sB s) i=x / 2 ^ t % 2:=by
  unfold bitN;rw [L,hr,ht,sB_getD M,O];rfl
 obtain ⟨y,G⟩:∃y:Nat,x / 2 ^ t=y:=⟨_,rfl⟩
 have N:y<=255:=by rw [<-G];exact lT (Nat.div_le_self _ _) H
 have Z:(x:Int) / 2 ^ t=(y:Int):=by rw [<-G];simp
 rw [G] at J;have K:bits .and .i64 (y:Int) 1=(bitN (sB s) i:Int):=by rw [J];exact band_1 om
 obtain ⟨d,hd⟩:∃d:Nat,bitN (sB s) i=d:=⟨_,rfl⟩
 rw [hd] at K ⊢;clear J hd L hr ht G;go_enter func251,ntmps251;go_wp2;go_ret;exact ⟨rfl,rfl⟩
theorem bitN_le (xs:List Int) (i:Nat):bitN xs i<=1:=by unfold bitN;omega
theorem rdg_le (β:Nat) (xs:List Int) (i:Nat):∀k,rdg β xs i k+1<=2 ^ k
 |0=>by simp [rdg]
 |k+1=>by
  have h1:=rdg_le β xs i k;have h2:=bitN_le xs (i*β+k);rw [rdg,Nat.pow_succ];omega
theorem rdigits_1 (s:ByteArray) (hs:s.size=32) (w:World):
 Calls prog 208 #[.agg (cPm 1),.string s] w fun e w'=>∃v,e= .returned v/\Own I 3 w' w.heap.size v (dgF 1 (sB s))/\Below w.heap.size w w':=by
 obtain ⟨i0,hi,aM,aG,aK⟩:=info_parts Tryz.info3;have HI:=lh hi;have aA:=lh aM;have aB:=lh aG;have aD:=lh aK;have aP:∀x∈sB s,0<=x/\x < 256:=fun x hx=>ycw s x hx;have ba:Hid (∀i,rdg 1 (sB s) i 1=dig 1 (sB s) i):=fun i=>rdg_eq 1 (sB s) i om aP;have HB:Hid (Below w.heap.size w (w.alloc (.cells (cPm 1) 233))):=bl;obtain ⟨G,T⟩:∃G:World,G=w.alloc (.cells (cPm 1) 233):=⟨_,rfl⟩
 have aH:G.heap.size=w.heap.size+1:=by rw [T];simp
 have aQ:G.heap[w.heap.size]? =some (.cells (cPm 1) 233 (0,0)):=by rw [T];exact zy w _
 have HC:Hid (∀V,Below (w.heap.size+1) G V->V.cell? ⟨w.heap.size,0,none⟩=some (.int .i64 1)/\V.cell? ⟨w.heap.size,1,none⟩=some (.int .i64 32)):=fun V hv=>by
  have q:=(hv.block w.heap.size (Nat.lt_succ_self _)).trans aQ;refine ⟨?_,?_⟩<;>(rw [cell_of_row V _ _ _ _ _ q];rfl)
 rw [<-T] at HB;have HS:=lh aH;have HWE:=lh T;have HBc:Hid (Below (w.heap.size+1) G G):=Below.refl _ _;clear aQ aH T;have hb:BitN 1 1:=by unfold BitN;omega
 have HL:=lh (fun W=>ycl 1 1 hb W);have HM:=lh (fun W=>ycm 1 1 hb W);rw [show mNI 1=256 from rfl] at HM;rw [show bsF 1=2 from rfl] at HL;obtain ⟨c0,c1⟩:=HC.out G bR;have aY:=lh (fun W=>rcheck_1 W);have a5:=lh (fun i (hi:i < 256) W=>rbit_any s hs i hi W);clear hi aM aG aK hs aP;go_enter func208,ntmps208;go_upto_region 1 with fail
 rw [<-HWE.out];go_upto_region 4 with fail
 have aI:Hid (Own I 3 G (w.heap.size+1) (.slice none 0 0) (digs 1 (sB s) 0)):=Own.nil
 go_loopw [5,6,7] (fun v c i wr=>∃n c':Nat,n<=256/\i= .int .i64 n/\c= .int .i64 c'/\c'<=960/\Hid (cks 1 (sB s) n=c')/\Hid (Own I 3 wr (w.heap.size+1) v (digs 1 (sB s) n))/\Hid (Below (w.heap.size+1) G wr)) (fun _ _ i _=>256 - (intOf i).toNat)
 case atStart=>exact ⟨0,0,by omega,rfl,rfl,by omega,rfl,aI,HBc⟩
 case round=>
  clear HBc c0 c1 aI;obtain ⟨n,c,hn,rfl,rfl,be,HK,J,HBr⟩:=hrel;obtain ⟨c0,c1⟩:=HC.out wr HBr.out
  by_cases hlt:n < 256
  ·
   have aU:(n:Int) < 256:=by omega
   go_upto_region 8 with (go_at_call 247;(with_reducible refine (HM.out _).mono ?_);rintro e N ⟨rfl,M⟩;(have H:Hid (Below (w.heap.size+1) G N):=HBr.out.trans (M.mono (HS.out▸HBr.out.size)));(have z:Hid (Own I 3 N (w.heap.size+1) u5 (digs 1 (sB s) n)):=J.out.on M);clear M)
   clear c0 c1
   go_loopw [8,9] (fun d k wq=>(∃j y:Nat,j<=1/\k= .int .i64 j/\d= .int .i64 y/\Hid (rdg 1 (sB s) n j=y))/\N=wq) (fun _ k _=>1 - (intOf k).toNat)
   case atStart=>exact ⟨⟨0,0,by omega,rfl,rfl,rfl⟩,rfl⟩
   case round=>
    obtain ⟨⟨j,y,hj,rfl,rfl,HY⟩,rfl⟩:=hrel;obtain ⟨c0,c1⟩:=HC.out N H.out
    by_cases br:j < 1
    ·have aX:(j:Int) < 1:=by omega
     have hp:n*1+j < 256:=by omega
     have a1:(n:Int)+(j:Int)=((n*1+j:Nat):Int):=by omega
     have aq:=lh (a5.out (n*1+j) hp N);have bb:=bitN_le (sB s) (n*1+j);have aN:Hid (rdg 1 (sB s) n (j+1)=2*y+bitN (sB s) (n*1+j)):=by show _=_;rw [rdg,HY.out]
     have bi:y<=15:=by
      have h:=rdg_le 1 (sB s) n j;rw [HY.out] at h;have:2 ^ j<=2 ^ 1:=Nat.pow_le_pow_right de hj;omega
     obtain ⟨d1,aF⟩:∃d:Nat,bitN (sB s) (n*1+j)=d:=⟨_,rfl⟩
     rw [aF] at aq aN bb;obtain ⟨p1,aO⟩:∃p:Nat,n*1+j=p:=⟨_,rfl⟩
     rw [aO] at aq a1;clear aF aO;go_wp2_with (go_at_call 251;(with_reducible refine aq.out.mono ?_);rintro e w3 ⟨rfl,rfl⟩);refine ⟨?rel,?measure⟩;case rel=>exact ⟨⟨j+1,2*y+d1,by omega,by go_num,by go_num,aN⟩,by first |rfl |trivial⟩
     case measure=>(simp [intOf]<;>omega)
    ·obtain rfl:j=1:=by omega
     have aX:¬((1:Nat):Int) < 1:=by omega
     rw [ba.out n] at HY;have ae:Hid (digs 1 (sB s) (n+1)=digs 1 (sB s) n++[(y:Int)]):=by show _=_;rw [ycz,HY.out]
     have bq:y<=1:=by rw [<-HY.out];have:=dig_lt 1 (sB s) n;omega
     have ax:Hid (cks 1 (sB s) (n+1)=c+(1 - y)):=by show _=_;rw [cks,HK.out,HY.out]
     have a4:c+(1 - y)<=960:=by
      have h1:=cks_le 1 (sB s) (n+1);rw [ax.out] at h1;simp at h1;omega
     have ap:Hid (((digs 1 (sB s) n).length+1)*8<=140737488355328):=by show _<=_;rw [ybx];omega
     have am:Hid ((digs 1 (sB s) n).length+1<=maxLen):=by show _<=_;rw [ybx];unfold maxLen;omega
     have O:Hid (w.heap.size+1<=N.heap.size):=HS.out▸H.out.size;have aE:((c:Int)+2 - 1) - (y:Int)=((c+(1 - y):Nat):Int):=by omega
     have a8:=lh aE;clear aE;go_upto_region 12 with (at_builtin;(with_reducible refine ybk (o:=⟨some 39,_,_,_,_,_⟩) rfl (.tmp 36) (.tmp 38) 27 rfl 3 i0 (.int .i64 0) 8 underlying27 HI.out aA.out aB.out aD.out rfl _ (digs 1 (sB s) n) (w.heap.size+1) rfl z.out (y:Int) 1 rfl I1 ap.out am.out O.out ?_);intro v5 w5 a3 HG5 bm;(have ah:Hid (Below (w.heap.size+1) G w5):=H.out.trans (ybe HG5.out (fun j hj=>(ol z.out j hj).1) O.out)))
     obtain ⟨c0,c1⟩:=HC.out w5 ah.out;go_wp2_with (go_at_call 250;(with_reducible refine (HL.out _).mono ?_);rintro e w6 ⟨rfl,L⟩;(have HB6:Hid (Below (w.heap.size+1) G w6):=ah.out.trans (L.mono (HS.out▸ah.out.size)));(have ak:Hid (Own I 3 w6 (w.heap.size+1) v5 (digs 1 (sB s) (n+1))):=ae.out▸(a3.out.on L));clear L);refine ⟨?rel,?measure⟩;case rel=>exact ⟨n+1,c+(1 - y),by omega,by go_num,by rw [<-a8.out],a4,ax,ak,HB6⟩
     case measure=>(simp [intOf]<;>omega)
  ·
   obtain rfl:n=256:=by omega
   have aL:Hid (Own I 3 wr (w.heap.size+1) u5 (digs 1 (sB s) 256)):=J;have a7:Hid (cks 1 (sB s) 256=c):=HK;clear J HK;have aU:¬((256:Nat):Int) < 256:=by omega
   go_upto_region 14 with (first
    |(go_at_call 247;(with_reducible refine (HM.out _).mono ?_);rintro e N ⟨rfl,M⟩;(have H:Hid (Below (w.heap.size+1) G N):=HBr.out.trans (M.mono (HS.out▸HBr.out.size)));(have z:Hid (Own I 3 N (w.heap.size+1) u5 (digs 1 (sB s) 256)):=aL.out.on M);(obtain ⟨c0,c1⟩:=HC.out N H.out);clear M)
    |(go_at_call 248;(with_reducible refine (aY.out _).mono ?_);rintro e w3 ⟨rfl,aj⟩;(have ay:Hid (Below (w.heap.size+1) G w3):=H.out.trans (aj.mono (HS.out▸H.out.size)));(have aR:Hid (Own I 3 w3 (w.heap.size+1) u5 (digs 1 (sB s) 256)):=z.out.on aj);clear aj))
   have aJ:Hid (Own I 3 w3 (w.heap.size+1) u5 (digs 1 (sB s) 256++cdigs 1 9 c 0)):=by show Own ..;rw [show cdigs 1 9 c 0=[] from rfl,List.append_nil];exact aR.out
   clear c0 c1
   go_loopw [5,10] (fun v i wr=>∃j:Nat,j<=9/\i= .int .i64 ((9:Int) - 1 - (j:Int))/\Hid (Own I 3 wr (w.heap.size+1) v (digs 1 (sB s) 256++cdigs 1 9 c j))/\Hid (Below (w.heap.size+1) G wr)) (fun _ i _=>(intOf i+1).toNat)
   case atStart=>exact ⟨0,by omega,rfl,aJ,ay⟩
   case round=>
    clear aJ ay aL aR z H HBr;obtain ⟨j,hj,rfl,J,HBr⟩:=hrel
    by_cases bo:j < 9
    ·
     obtain ⟨pl,az⟩:∃pl:Nat,pl=9 - 1 - j:=⟨_,rfl⟩
     have ar:((9:Int) - 1 - (j:Int))=(pl:Int):=by omega
     have HPL:=lh az;have bh:pl<=8:=by omega
     rw [ar];clear az ar;go_upto_region 18 with fail
     obtain ⟨wo,rfl⟩:∃wo:World,wo=wr:=⟨_,rfl⟩
     go_loopw [11,12] (fun p k wr=>(∃m q:Nat,m<=pl/\k= .int .i64 m/\p= .int .i64 q/\Hid (2 ^ m=q))/\Hid (Own I 3 wr (w.heap.size+1) u5 (digs 1 (sB s) 256++cdigs 1 9 c j))/\Hid (Below (w.heap.size+1) G wr)) (fun _ k _=>pl - (intOf k).toNat)
     case atStart=>exact ⟨⟨0,1,by omega,rfl,rfl,rfl⟩,J,HBr⟩
     case round=>
      clear J HBr;obtain ⟨⟨m,q,hm,rfl,rfl,HQ⟩,J,HBr⟩:=hrel;obtain ⟨c0,c1⟩:=HC.out _ HBr.out
      have bf:q<=256:=by
       rw [<-HQ.out];exact lT (Nat.pow_le_pow_right de (show m<=8 by omega)) de
      by_cases bv:m < pl
      ·have aw:(q:Int)*2=((q*2:Nat):Int):=by omega
       have a2:=lh aw;have aZ:Hid (2 ^ (m+1)=q*2):=by show _=_;rw [Nat.pow_succ,HQ.out]
       clear aw;go_wp2_with (go_at_call 250;(with_reducible refine (HL.out _).mono ?_);rintro e w6 ⟨rfl,L⟩;(have HB6:Hid (Below (w.heap.size+1) G w6):=HBr.out.trans (L.mono (HS.out▸HBr.out.size)));(have ak:Hid (Own I 3 w6 (w.heap.size+1) u5 (digs 1 (sB s) 256++cdigs 1 9 c j)):=J.out.on L);clear L);refine ⟨?rel,?measure⟩;case rel=>exact ⟨⟨m+1,q*2,by omega,by go_num,by rw [a2.out],aZ⟩,ak,HB6⟩
       case measure=>(simp [intOf]<;>omega)
      ·obtain rfl:m=pl:=by omega
       have bj:0 < q:=by rw [<-HQ.out];exact Nat.pos_of_ne_zero sI
       obtain ⟨U,Z⟩:=gx (c / q);obtain ⟨d,hd⟩:∃d:Nat,cdig 1 9 c j=d:=⟨_,rfl⟩
       have ag:d=U % 2:=by
        rw [<-hd,<-Z,<-HQ.out,HPL.out];show c / 2 ^ (1*(9 - 1 - j)) % 2 ^ 1=c / 2 ^ (9 - 1 - j) % 2;rw [Nat.pow_mul]
       have aW:(c:Int).tdiv (q:Int)=(U:Int):=by rw [<-Z];rfl
       have aT:(c:Int) / (q:Int)=(U:Int):=by rw [<-Z];simp
       have bk:U<=960:=by rw [<-Z];exact lT (Nat.div_le_self _ _) be
       have a0:(U:Int).tmod 2=(d:Int):=by rw [ag];rfl
       have aV:(U:Int) % 2=(d:Int):=by rw [ag];simp
       have a6:IntKind.i64.wrap (U:Int)=U:=IntWalk.i64_in _ om;have bg:¬(q:Int)=0:=by omega
       have bw:¬q=0:=by omega
       have ae:Hid (digs 1 (sB s) 256++cdigs 1 9 c (j+1)=(digs 1 (sB s) 256++cdigs 1 9 c j)++[(d:Int)]):=by
        show _=_;rw [ych,hd,List.append_assoc]
       obtain ⟨ls,ao⟩:=gx (digs 1 (sB s) 256++cdigs 1 9 c j);have aC:Hid (ls.length=256+j):=by show _=_;rw [<-ao,List.length_append,ybx,yck]
       rw [ao] at J ae;have ap:Hid ((ls.length+1)*8<=140737488355328):=by show _<=_;rw [aC.out];omega
       have am:Hid (ls.length+1<=maxLen):=by show _<=_;rw [aC.out];unfold maxLen;omega
       have HBc:=HBr;have O:Hid (w.heap.size+1<=wr.heap.size):=HS.out▸HBr.out.size;have bn:=lh ag;have HPM:=HPL;clear Z hd ag ao HQ;go_upto_region 21 with fail
       refine rH (S:=(fun w'=>w'.cell? ⟨w.heap.size,0,none⟩=some (.int .i64 1)/\w'.cell? ⟨w.heap.size,1,none⟩=some (.int .i64 32))) ya9 yai (fun au=>?_)
       (iterate 5 refine tkA ?_)
       refine rd1 5 (fun K Y=>?_)
       (go_simp;go_at_call 250;(with_reducible refine (HL.out _).mono ?_);rintro e w4 ⟨rfl,af⟩;(have HBc:Hid (Below (w.heap.size+1) G w4):=HBr.out.trans (Below.mono (Below.trans (B:=wr.heap.size) yaF af) O.out));(have HS4:Hid (w.heap.size+1<=w4.heap.size):=lT O.out af.size);(have a9:Hid (Own I 3 w4 (w.heap.size+1) u5 (ls)):=J.out.on (Below.trans (B:=wr.heap.size) yaF af));clear af;go_wp2_with fail)
       refine Y.out _ _ yai (fun ac=>?_);clear Y K au
       try simp only [pt]
       refine tkY 6 ?_;refine rd1 7 (fun K Y=>?_);go_simp;refine Y.out _ _ yai (fun aa=>?_);clear Y K ac
       try simp only [pt]
       refine rd1 8 (fun K Y=>?_)
       ((refine ybT (f:=I) (.tmp 63) (.tmp 70) 27 rfl rfl 3 i0 (.int .i64 0) 8 underlying27 HI.out aA.out aB.out aD.out rfl ls (w.heap.size+1) ?hown [(d:Int)] ?hrow I1 ap.out am.out ?hbase ?_);(case hown=>exact a9.out.alloc _);(case hrow=>exact ⟨_,_,1,1,rfl,rfl,SL.of_block (t:=3) (fr:=(0,0)) (zy _ _) (Nat.lt_succ_self _)⟩);(case hbase=>have:=HS4.out;simp;omega);(intro v7 w7 bc HG7 bp HB7);(have HBd:Hid (Below (w.heap.size+1) G w7):=HB7.out (w.heap.size+1) G (HBc.out.alloc HS4.out _) nl))
       refine Y.out _ _ yai (fun aS=>?_);clear Y K aa
       try simp only [pt]
       refine tkY 9 ?_;refine wpAnyH_done ya9 ?_ _;clear aW aT a0 aV a6;obtain ⟨c0,c1⟩:=HC.out w7 HBd.out;have ai:Hid (Own I 3 w7 (w.heap.size+1) v7 (digs 1 (sB s) 256++cdigs 1 9 c (j+1))):=ae.out▸bc.out;go_wp2;refine ⟨?rel,?measure⟩;case rel=>exact ⟨j+1,by omega,yaS,ai,HBd⟩
       case measure=>(have:=HPM.out;simp [intOf]<;>omega)
    ·obtain rfl:j=9:=by omega
     have ai:Hid (Own I 3 wr (w.heap.size+1) u5 (dgF 1 (sB s))):=by
      show Own ..
      have h:dgF 1 (sB s)=digs 1 (sB s) 256++cdigs 1 9 c 9:=by
       rw [<-a7.out];rfl
      rw [h];exact J.out
     have bu:¬(0:Int)<=(9:Int) - 1 - ((9:Nat):Int):=by omega
     go_wp2;go_ret;exact ⟨_,rfl,ybR ai.out (Nat.le_succ _),HB.out.trans (HBr.out.mono (Nat.le_succ _))⟩
theorem rdigits_2 (s:ByteArray) (hs:s.size=32) (w:World):
 Calls prog 208 #[.agg (cPm 2),.string s] w fun e w'=>∃v,e= .returned v/\Own I 3 w' w.heap.size v (dgF 2 (sB s))/\Below w.heap.size w w':=by
 obtain ⟨i0,hi,aM,aG,aK⟩:=info_parts Tryz.info3;have HI:=lh hi;have aA:=lh aM;have aB:=lh aG;have aD:=lh aK;have aP:∀x∈sB s,0<=x/\x < 256:=fun x hx=>ycw s x hx;have ba:Hid (∀i,rdg 2 (sB s) i 2=dig 2 (sB s) i):=fun i=>rdg_eq 2 (sB s) i om aP;have HB:Hid (Below w.heap.size w (w.alloc (.cells (cPm 2) 233))):=bl;obtain ⟨G,T⟩:∃G:World,G=w.alloc (.cells (cPm 2) 233):=⟨_,rfl⟩
 have aH:G.heap.size=w.heap.size+1:=by rw [T];simp
 have aQ:G.heap[w.heap.size]? =some (.cells (cPm 2) 233 (0,0)):=by rw [T];exact zy w _
 have HC:Hid (∀V,Below (w.heap.size+1) G V->V.cell? ⟨w.heap.size,0,none⟩=some (.int .i64 2)/\V.cell? ⟨w.heap.size,1,none⟩=some (.int .i64 32)):=fun V hv=>by
  have q:=(hv.block w.heap.size (Nat.lt_succ_self _)).trans aQ;refine ⟨?_,?_⟩<;>(rw [cell_of_row V _ _ _ _ _ q];rfl)
 rw [<-T] at HB;have HS:=lh aH;have HWE:=lh T;have HBc:Hid (Below (w.heap.size+1) G G):=Below.refl _ _;clear aQ aH T;have hb:BitN 2 2:=by unfold BitN;omega
 have HL:=lh (fun W=>ycl 2 2 hb W);have HM:=lh (fun W=>ycm 2 2 hb W);rw [show mNI 2=128 from rfl] at HM;rw [show bsF 2=4 from rfl] at HL;obtain ⟨c0,c1⟩:=HC.out G bR;have aY:=lh (fun W=>rcheck_2 W);have a5:=lh (fun i (hi:i < 256) W=>rbit_any s hs i hi W);clear hi aM aG aK hs aP;go_enter func208,ntmps208;go_upto_region 1 with fail
 rw [<-HWE.out];go_upto_region 4 with fail
 have aI:Hid (Own I 3 G (w.heap.size+1) (.slice none 0 0) (digs 2 (sB s) 0)):=Own.nil
 go_loopw [5,6,7] (fun v c i wr=>∃n c':Nat,n<=128/\i= .int .i64 n/\c= .int .i64 c'/\c'<=960/\Hid (cks 2 (sB s) n=c')/\Hid (Own I 3 wr (w.heap.size+1) v (digs 2 (sB s) n))/\Hid (Below (w.heap.size+1) G wr)) (fun _ _ i _=>128 - (intOf i).toNat)
 case atStart=>exact ⟨0,0,by omega,rfl,rfl,by omega,rfl,aI,HBc⟩
 case round=>
  clear HBc c0 c1 aI;obtain ⟨n,c,hn,rfl,rfl,be,HK,J,HBr⟩:=hrel;obtain ⟨c0,c1⟩:=HC.out wr HBr.out
  by_cases hlt:n < 128
  ·
   have aU:(n:Int) < 128:=by omega
   go_upto_region 8 with (go_at_call 247;(with_reducible refine (HM.out _).mono ?_);rintro e N ⟨rfl,M⟩;(have H:Hid (Below (w.heap.size+1) G N):=HBr.out.trans (M.mono (HS.out▸HBr.out.size)));(have z:Hid (Own I 3 N (w.heap.size+1) u5 (digs 2 (sB s) n)):=J.out.on M);clear M)
   clear c0 c1
   go_loopw [8,9] (fun d k wq=>(∃j y:Nat,j<=2/\k= .int .i64 j/\d= .int .i64 y/\Hid (rdg 2 (sB s) n j=y))/\N=wq) (fun _ k _=>2 - (intOf k).toNat)
   case atStart=>exact ⟨⟨0,0,by omega,rfl,rfl,rfl⟩,rfl⟩
   case round=>
    obtain ⟨⟨j,y,hj,rfl,rfl,HY⟩,rfl⟩:=hrel;obtain ⟨c0,c1⟩:=HC.out N H.out
    by_cases br:j < 2
    ·have aX:(j:Int) < 2:=by omega
     have hp:n*2+j < 256:=by omega
     have a1:(n:Int)*2+(j:Int)=((n*2+j:Nat):Int):=by omega
     have aq:=lh (a5.out (n*2+j) hp N);have bb:=bitN_le (sB s) (n*2+j);have aN:Hid (rdg 2 (sB s) n (j+1)=2*y+bitN (sB s) (n*2+j)):=by show _=_;rw [rdg,HY.out]
     have bi:y<=15:=by
      have h:=rdg_le 2 (sB s) n j;rw [HY.out] at h;have:2 ^ j<=2 ^ 2:=Nat.pow_le_pow_right de hj;omega
     obtain ⟨d1,aF⟩:∃d:Nat,bitN (sB s) (n*2+j)=d:=⟨_,rfl⟩
     rw [aF] at aq aN bb;obtain ⟨p1,aO⟩:∃p:Nat,n*2+j=p:=⟨_,rfl⟩
     rw [aO] at aq a1;clear aF aO;go_wp2_with (go_at_call 251;(with_reducible refine aq.out.mono ?_);rintro e w3 ⟨rfl,rfl⟩);refine ⟨?rel,?measure⟩;case rel=>exact ⟨⟨j+1,2*y+d1,by omega,by go_num,by go_num,aN⟩,by first |rfl |trivial⟩
     case measure=>(simp [intOf]<;>omega)
    ·obtain rfl:j=2:=by omega
     have aX:¬((2:Nat):Int) < 2:=by omega
     rw [ba.out n] at HY;have ae:Hid (digs 2 (sB s) (n+1)=digs 2 (sB s) n++[(y:Int)]):=by show _=_;rw [ycz,HY.out]
     have bq:y<=3:=by rw [<-HY.out];have:=dig_lt 2 (sB s) n;omega
     have ax:Hid (cks 2 (sB s) (n+1)=c+(3 - y)):=by show _=_;rw [cks,HK.out,HY.out]
     have a4:c+(3 - y)<=960:=by
      have h1:=cks_le 2 (sB s) (n+1);rw [ax.out] at h1;simp at h1;omega
     have ap:Hid (((digs 2 (sB s) n).length+1)*8<=140737488355328):=by show _<=_;rw [ybx];omega
     have am:Hid ((digs 2 (sB s) n).length+1<=maxLen):=by show _<=_;rw [ybx];unfold maxLen;omega
     have O:Hid (w.heap.size+1<=N.heap.size):=HS.out▸H.out.size;have aE:((c:Int)+4 - 1) - (y:Int)=((c+(3 - y):Nat):Int):=by omega
     have a8:=lh aE;clear aE;go_upto_region 12 with (at_builtin;(with_reducible refine ybk (o:=⟨some 39,_,_,_,_,_⟩) rfl (.tmp 36) (.tmp 38) 27 rfl 3 i0 (.int .i64 0) 8 underlying27 HI.out aA.out aB.out aD.out rfl _ (digs 2 (sB s) n) (w.heap.size+1) rfl z.out (y:Int) 1 rfl I1 ap.out am.out O.out ?_);intro v5 w5 a3 HG5 bm;(have ah:Hid (Below (w.heap.size+1) G w5):=H.out.trans (ybe HG5.out (fun j hj=>(ol z.out j hj).1) O.out)))
     obtain ⟨c0,c1⟩:=HC.out w5 ah.out;go_wp2_with (go_at_call 250;(with_reducible refine (HL.out _).mono ?_);rintro e w6 ⟨rfl,L⟩;(have HB6:Hid (Below (w.heap.size+1) G w6):=ah.out.trans (L.mono (HS.out▸ah.out.size)));(have ak:Hid (Own I 3 w6 (w.heap.size+1) v5 (digs 2 (sB s) (n+1))):=ae.out▸(a3.out.on L));clear L);refine ⟨?rel,?measure⟩;case rel=>exact ⟨n+1,c+(3 - y),by omega,by go_num,by rw [<-a8.out],a4,ax,ak,HB6⟩
     case measure=>(simp [intOf]<;>omega)
  ·
   obtain rfl:n=128:=by omega
   have aL:Hid (Own I 3 wr (w.heap.size+1) u5 (digs 2 (sB s) 128)):=J;have a7:Hid (cks 2 (sB s) 128=c):=HK;clear J HK;have aU:¬((128:Nat):Int) < 128:=by omega
   go_upto_region 14 with (first
    |(go_at_call 247;(with_reducible refine (HM.out _).mono ?_);rintro e N ⟨rfl,M⟩;(have H:Hid (Below (w.heap.size+1) G N):=HBr.out.trans (M.mono (HS.out▸HBr.out.size)));(have z:Hid (Own I 3 N (w.heap.size+1) u5 (digs 2 (sB s) 128)):=aL.out.on M);(obtain ⟨c0,c1⟩:=HC.out N H.out);clear M)
    |(go_at_call 248;(with_reducible refine (aY.out _).mono ?_);rintro e w3 ⟨rfl,aj⟩;(have ay:Hid (Below (w.heap.size+1) G w3):=H.out.trans (aj.mono (HS.out▸H.out.size)));(have aR:Hid (Own I 3 w3 (w.heap.size+1) u5 (digs 2 (sB s) 128)):=z.out.on aj);clear aj))
   have aJ:Hid (Own I 3 w3 (w.heap.size+1) u5 (digs 2 (sB s) 128++cdigs 2 5 c 0)):=by show Own ..;rw [show cdigs 2 5 c 0=[] from rfl,List.append_nil];exact aR.out
   clear c0 c1
   go_loopw [5,10] (fun v i wr=>∃j:Nat,j<=5/\i= .int .i64 ((5:Int) - 1 - (j:Int))/\Hid (Own I 3 wr (w.heap.size+1) v (digs 2 (sB s) 128++cdigs 2 5 c j))/\Hid (Below (w.heap.size+1) G wr)) (fun _ i _=>(intOf i+1).toNat)
   case atStart=>exact ⟨0,by omega,rfl,aJ,ay⟩
   case round=>
    clear aJ ay aL aR z H HBr;obtain ⟨j,hj,rfl,J,HBr⟩:=hrel
    by_cases bo:j < 5
    ·
     obtain ⟨pl,az⟩:∃pl:Nat,pl=5 - 1 - j:=⟨_,rfl⟩
     have ar:((5:Int) - 1 - (j:Int))=(pl:Int):=by omega
     have HPL:=lh az;have bh:pl<=4:=by omega
     rw [ar];clear az ar;go_upto_region 18 with fail
     obtain ⟨wo,rfl⟩:∃wo:World,wo=wr:=⟨_,rfl⟩
     go_loopw [11,12] (fun p k wr=>(∃m q:Nat,m<=pl/\k= .int .i64 m/\p= .int .i64 q/\Hid (4 ^ m=q))/\Hid (Own I 3 wr (w.heap.size+1) u5 (digs 2 (sB s) 128++cdigs 2 5 c j))/\Hid (Below (w.heap.size+1) G wr)) (fun _ k _=>pl - (intOf k).toNat)
     case atStart=>exact ⟨⟨0,1,by omega,rfl,rfl,rfl⟩,J,HBr⟩
     case round=>
      clear J HBr;obtain ⟨⟨m,q,hm,rfl,rfl,HQ⟩,J,HBr⟩:=hrel;obtain ⟨c0,c1⟩:=HC.out _ HBr.out
      have bf:q<=256:=by
       rw [<-HQ.out];exact lT (Nat.pow_le_pow_right de (show m<=4 by omega)) de
      by_cases bv:m < pl
      ·have aw:(q:Int)*4=((q*4:Nat):Int):=by omega
       have a2:=lh aw;have aZ:Hid (4 ^ (m+1)=q*4):=by show _=_;rw [Nat.pow_succ,HQ.out]
       clear aw;go_wp2_with (go_at_call 250;(with_reducible refine (HL.out _).mono ?_);rintro e w6 ⟨rfl,L⟩;(have HB6:Hid (Below (w.heap.size+1) G w6):=HBr.out.trans (L.mono (HS.out▸HBr.out.size)));(have ak:Hid (Own I 3 w6 (w.heap.size+1) u5 (digs 2 (sB s) 128++cdigs 2 5 c j)):=J.out.on L);clear L);refine ⟨?rel,?measure⟩;case rel=>exact ⟨⟨m+1,q*4,by omega,by go_num,by rw [a2.out],aZ⟩,ak,HB6⟩
       case measure=>(simp [intOf]<;>omega)
      ·obtain rfl:m=pl:=by omega
       have bj:0 < q:=by rw [<-HQ.out];exact Nat.pos_of_ne_zero sI
       obtain ⟨U,Z⟩:=gx (c / q);obtain ⟨d,hd⟩:∃d:Nat,cdig 2 5 c j=d:=⟨_,rfl⟩
       have ag:d=U % 4:=by
        rw [<-hd,<-Z,<-HQ.out,HPL.out];show c / 2 ^ (2*(5 - 1 - j)) % 2 ^ 2=c / 4 ^ (5 - 1 - j) % 4;rw [Nat.pow_mul]
       have aW:(c:Int).tdiv (q:Int)=(U:Int):=by rw [<-Z];rfl
       have aT:(c:Int) / (q:Int)=(U:Int):=by rw [<-Z];simp
       have bk:U<=960:=by rw [<-Z];exact lT (Nat.div_le_self _ _) be
       have a0:(U:Int).tmod 4=(d:Int):=by rw [ag];rfl
       have aV:(U:Int) % 4=(d:Int):=by rw [ag];simp
       have a6:IntKind.i64.wrap (U:Int)=U:=IntWalk.i64_in _ om;have bg:¬(q:Int)=0:=by omega
       have bw:¬q=0:=by omega
       have ae:Hid (digs 2 (sB s) 128++cdigs 2 5 c (j+1)=(digs 2 (sB s) 128++cdigs 2 5 c j)++[(d:Int)]):=by
        show _=_;rw [ych,hd,List.append_assoc]
       obtain ⟨ls,ao⟩:=gx (digs 2 (sB s) 128++cdigs 2 5 c j);have aC:Hid (ls.length=128+j):=by show _=_;rw [<-ao,List.length_append,ybx,yck]
       rw [ao] at J ae;have ap:Hid ((ls.length+1)*8<=140737488355328):=by show _<=_;rw [aC.out];omega
       have am:Hid (ls.length+1<=maxLen):=by show _<=_;rw [aC.out];unfold maxLen;omega
       have HBc:=HBr;have O:Hid (w.heap.size+1<=wr.heap.size):=HS.out▸HBr.out.size;have bn:=lh ag;have HPM:=HPL;clear Z hd ag ao HQ;go_upto_region 21 with fail
       refine rH (S:=(fun w'=>w'.cell? ⟨w.heap.size,0,none⟩=some (.int .i64 2)/\w'.cell? ⟨w.heap.size,1,none⟩=some (.int .i64 32))) ya9 yai (fun au=>?_)
       (iterate 5 refine tkA ?_)
       refine rd1 5 (fun K Y=>?_)
       (go_simp;go_at_call 250;(with_reducible refine (HL.out _).mono ?_);rintro e w4 ⟨rfl,af⟩;(have HBc:Hid (Below (w.heap.size+1) G w4):=HBr.out.trans (Below.mono (Below.trans (B:=wr.heap.size) yaF af) O.out));(have HS4:Hid (w.heap.size+1<=w4.heap.size):=lT O.out af.size);(have a9:Hid (Own I 3 w4 (w.heap.size+1) u5 (ls)):=J.out.on (Below.trans (B:=wr.heap.size) yaF af));clear af;go_wp2_with fail)
       refine Y.out _ _ yai (fun ac=>?_);clear Y K au
       try simp only [pt]
       refine tkY 6 ?_;refine rd1 7 (fun K Y=>?_);go_simp;refine Y.out _ _ yai (fun aa=>?_);clear Y K ac
       try simp only [pt]
       refine rd1 8 (fun K Y=>?_)
       ((refine ybT (f:=I) (.tmp 63) (.tmp 70) 27 rfl rfl 3 i0 (.int .i64 0) 8 underlying27 HI.out aA.out aB.out aD.out rfl ls (w.heap.size+1) ?hown [(d:Int)] ?hrow I1 ap.out am.out ?hbase ?_);(case hown=>exact a9.out.alloc _);(case hrow=>exact ⟨_,_,1,1,rfl,rfl,SL.of_block (t:=3) (fr:=(0,0)) (zy _ _) (Nat.lt_succ_self _)⟩);(case hbase=>have:=HS4.out;simp;omega);(intro v7 w7 bc HG7 bp HB7);(have HBd:Hid (Below (w.heap.size+1) G w7):=HB7.out (w.heap.size+1) G (HBc.out.alloc HS4.out _) nl))
       refine Y.out _ _ yai (fun aS=>?_);clear Y K aa
       try simp only [pt]
       refine tkY 9 ?_;refine wpAnyH_done ya9 ?_ _;clear aW aT a0 aV a6;obtain ⟨c0,c1⟩:=HC.out w7 HBd.out;have ai:Hid (Own I 3 w7 (w.heap.size+1) v7 (digs 2 (sB s) 128++cdigs 2 5 c (j+1))):=ae.out▸bc.out;go_wp2;refine ⟨?rel,?measure⟩;case rel=>exact ⟨j+1,by omega,yaS,ai,HBd⟩
       case measure=>(have:=HPM.out;simp [intOf]<;>omega)
    ·obtain rfl:j=5:=by omega
     have ai:Hid (Own I 3 wr (w.heap.size+1) u5 (dgF 2 (sB s))):=by
      show Own ..
      have h:dgF 2 (sB s)=digs 2 (sB s) 128++cdigs 2 5 c 5:=by
       rw [<-a7.out];rfl
      rw [h];exact J.out
     have bu:¬(0:Int)<=(5:Int) - 1 - ((5:Nat):Int):=by omega
     go_wp2;go_ret;exact ⟨_,rfl,ybR ai.out (Nat.le_succ _),HB.out.trans (HBr.out.mono (Nat.le_succ _))⟩
theorem rdigits_4 (s:ByteArray) (hs:s.size=32) (w:World):
 Calls prog 208 #[.agg (cPm 4),.string s] w fun e w'=>∃v,e= .returned v/\Own I 3 w' w.heap.size v (dgF 4 (sB s))/\Below w.heap.size w w':=by
 obtain ⟨i0,hi,aM,aG,aK⟩:=info_parts Tryz.info3;have HI:=lh hi;have aA:=lh aM;have aB:=lh aG;have aD:=lh aK;have aP:∀x∈sB s,0<=x/\x < 256:=fun x hx=>ycw s x hx;have ba:Hid (∀i,rdg 4 (sB s) i 4=dig 4 (sB s) i):=fun i=>rdg_eq 4 (sB s) i om aP;have HB:Hid (Below w.heap.size w (w.alloc (.cells (cPm 4) 233))):=bl;obtain ⟨G,T⟩:∃G:World,G=w.alloc (.cells (cPm 4) 233):=⟨_,rfl⟩
 have aH:G.heap.size=w.heap.size+1:=by rw [T];simp
 have aQ:G.heap[w.heap.size]? =some (.cells (cPm 4) 233 (0,0)):=by rw [T];exact zy w _
 have HC:Hid (∀V,Below (w.heap.size+1) G V->V.cell? ⟨w.heap.size,0,none⟩=some (.int .i64 4)/\V.cell? ⟨w.heap.size,1,none⟩=some (.int .i64 32)):=fun V hv=>by
  have q:=(hv.block w.heap.size (Nat.lt_succ_self _)).trans aQ;refine ⟨?_,?_⟩<;>(rw [cell_of_row V _ _ _ _ _ q];rfl)
 rw [<-T] at HB;have HS:=lh aH;have HWE:=lh T;have HBc:Hid (Below (w.heap.size+1) G G):=Below.refl _ _;clear aQ aH T;have hb:BitN 4 4:=by unfold BitN;omega
 have HL:=lh (fun W=>ycl 4 4 hb W);have HM:=lh (fun W=>ycm 4 4 hb W);rw [show mNI 4=64 from rfl] at HM;rw [show bsF 4=16 from rfl] at HL;obtain ⟨c0,c1⟩:=HC.out G bR;have aY:=lh (fun W=>rcheck_4 W);have a5:=lh (fun i (hi:i < 256) W=>rbit_any s hs i hi W);clear hi aM aG aK hs aP;go_enter func208,ntmps208;go_upto_region 1 with fail
 rw [<-HWE.out];go_upto_region 4 with fail
 have aI:Hid (Own I 3 G (w.heap.size+1) (.slice none 0 0) (digs 4 (sB s) 0)):=Own.nil
 go_loopw [5,6,7] (fun v c i wr=>∃n c':Nat,n<=64/\i= .int .i64 n/\c= .int .i64 c'/\c'<=960/\Hid (cks 4 (sB s) n=c')/\Hid (Own I 3 wr (w.heap.size+1) v (digs 4 (sB s) n))/\Hid (Below (w.heap.size+1) G wr)) (fun _ _ i _=>64 - (intOf i).toNat)
 case atStart=>exact ⟨0,0,by omega,rfl,rfl,by omega,rfl,aI,HBc⟩
 case round=>
  clear HBc c0 c1 aI;obtain ⟨n,c,hn,rfl,rfl,be,HK,J,HBr⟩:=hrel;obtain ⟨c0,c1⟩:=HC.out wr HBr.out
  by_cases hlt:n < 64
  ·
   have aU:(n:Int) < 64:=by omega
   go_upto_region 8 with (go_at_call 247;(with_reducible refine (HM.out _).mono ?_);rintro e N ⟨rfl,M⟩;(have H:Hid (Below (w.heap.size+1) G N):=HBr.out.trans (M.mono (HS.out▸HBr.out.size)));(have z:Hid (Own I 3 N (w.heap.size+1) u5 (digs 4 (sB s) n)):=J.out.on M);clear M)
   clear c0 c1
   go_loopw [8,9] (fun d k wq=>(∃j y:Nat,j<=4/\k= .int .i64 j/\d= .int .i64 y/\Hid (rdg 4 (sB s) n j=y))/\N=wq) (fun _ k _=>4 - (intOf k).toNat)
   case atStart=>exact ⟨⟨0,0,by omega,rfl,rfl,rfl⟩,rfl⟩
   case round=>
    obtain ⟨⟨j,y,hj,rfl,rfl,HY⟩,rfl⟩:=hrel;obtain ⟨c0,c1⟩:=HC.out N H.out
    by_cases br:j < 4
    ·have aX:(j:Int) < 4:=by omega
     have hp:n*4+j < 256:=by omega
     have a1:(n:Int)*4+(j:Int)=((n*4+j:Nat):Int):=by omega
     have aq:=lh (a5.out (n*4+j) hp N);have bb:=bitN_le (sB s) (n*4+j);have aN:Hid (rdg 4 (sB s) n (j+1)=2*y+bitN (sB s) (n*4+j)):=by show _=_;rw [rdg,HY.out]
     have bi:y<=15:=by
      have h:=rdg_le 4 (sB s) n j;rw [HY.out] at h;have:2 ^ j<=2 ^ 4:=Nat.pow_le_pow_right de hj;omega
     obtain ⟨d1,aF⟩:∃d:Nat,bitN (sB s) (n*4+j)=d:=⟨_,rfl⟩
     rw [aF] at aq aN bb;obtain ⟨p1,aO⟩:∃p:Nat,n*4+j=p:=⟨_,rfl⟩
     rw [aO] at aq a1;clear aF aO;go_wp2_with (go_at_call 251;(with_reducible refine aq.out.mono ?_);rintro e w3 ⟨rfl,rfl⟩);refine ⟨?rel,?measure⟩;case rel=>exact ⟨⟨j+1,2*y+d1,by omega,by go_num,by go_num,aN⟩,by first |rfl |trivial⟩
     case measure=>(simp [intOf]<;>omega)
    ·obtain rfl:j=4:=by omega
     have aX:¬((4:Nat):Int) < 4:=by omega
     rw [ba.out n] at HY;have ae:Hid (digs 4 (sB s) (n+1)=digs 4 (sB s) n++[(y:Int)]):=by show _=_;rw [ycz,HY.out]
     have bq:y<=15:=by rw [<-HY.out];have:=dig_lt 4 (sB s) n;omega
     have ax:Hid (cks 4 (sB s) (n+1)=c+(15 - y)):=by show _=_;rw [cks,HK.out,HY.out]
     have a4:c+(15 - y)<=960:=by
      have h1:=cks_le 4 (sB s) (n+1);rw [ax.out] at h1;simp at h1;omega
     have ap:Hid (((digs 4 (sB s) n).length+1)*8<=140737488355328):=by show _<=_;rw [ybx];omega
     have am:Hid ((digs 4 (sB s) n).length+1<=maxLen):=by show _<=_;rw [ybx];unfold maxLen;omega
     have O:Hid (w.heap.size+1<=N.heap.size):=HS.out▸H.out.size;have aE:((c:Int)+16 - 1) - (y:Int)=((c+(15 - y):Nat):Int):=by omega
     have a8:=lh aE;clear aE;go_upto_region 12 with (at_builtin;(with_reducible refine ybk (o:=⟨some 39,_,_,_,_,_⟩) rfl (.tmp 36) (.tmp 38) 27 rfl 3 i0 (.int .i64 0) 8 underlying27 HI.out aA.out aB.out aD.out rfl _ (digs 4 (sB s) n) (w.heap.size+1) rfl z.out (y:Int) 1 rfl I1 ap.out am.out O.out ?_);intro v5 w5 a3 HG5 bm;(have ah:Hid (Below (w.heap.size+1) G w5):=H.out.trans (ybe HG5.out (fun j hj=>(ol z.out j hj).1) O.out)))
     obtain ⟨c0,c1⟩:=HC.out w5 ah.out;go_wp2_with (go_at_call 250;(with_reducible refine (HL.out _).mono ?_);rintro e w6 ⟨rfl,L⟩;(have HB6:Hid (Below (w.heap.size+1) G w6):=ah.out.trans (L.mono (HS.out▸ah.out.size)));(have ak:Hid (Own I 3 w6 (w.heap.size+1) v5 (digs 4 (sB s) (n+1))):=ae.out▸(a3.out.on L));clear L);refine ⟨?rel,?measure⟩;case rel=>exact ⟨n+1,c+(15 - y),by omega,by go_num,by rw [<-a8.out],a4,ax,ak,HB6⟩
     case measure=>(simp [intOf]<;>omega)
  ·
   obtain rfl:n=64:=by omega
   have aL:Hid (Own I 3 wr (w.heap.size+1) u5 (digs 4 (sB s) 64)):=J;have a7:Hid (cks 4 (sB s) 64=c):=HK;clear J HK;have aU:¬((64:Nat):Int) < 64:=by omega
   go_upto_region 14 with (first
    |(go_at_call 247;(with_reducible refine (HM.out _).mono ?_);rintro e N ⟨rfl,M⟩;(have H:Hid (Below (w.heap.size+1) G N):=HBr.out.trans (M.mono (HS.out▸HBr.out.size)));(have z:Hid (Own I 3 N (w.heap.size+1) u5 (digs 4 (sB s) 64)):=aL.out.on M);(obtain ⟨c0,c1⟩:=HC.out N H.out);clear M)
    |(go_at_call 248;(with_reducible refine (aY.out _).mono ?_);rintro e w3 ⟨rfl,aj⟩;(have ay:Hid (Below (w.heap.size+1) G w3):=H.out.trans (aj.mono (HS.out▸H.out.size)));(have aR:Hid (Own I 3 w3 (w.heap.size+1) u5 (digs 4 (sB s) 64)):=z.out.on aj);clear aj))
   have aJ:Hid (Own I 3 w3 (w.heap.size+1) u5 (digs 4 (sB s) 64++cdigs 4 3 c 0)):=by show Own ..;rw [show cdigs 4 3 c 0=[] from rfl,List.append_nil];exact aR.out
   clear c0 c1
   go_loopw [5,10] (fun v i wr=>∃j:Nat,j<=3/\i= .int .i64 ((3:Int) - 1 - (j:Int))/\Hid (Own I 3 wr (w.heap.size+1) v (digs 4 (sB s) 64++cdigs 4 3 c j))/\Hid (Below (w.heap.size+1) G wr)) (fun _ i _=>(intOf i+1).toNat)
   case atStart=>exact ⟨0,by omega,rfl,aJ,ay⟩
   case round=>
    clear aJ ay aL aR z H HBr;obtain ⟨j,hj,rfl,J,HBr⟩:=hrel
    by_cases bo:j < 3
    ·
     obtain ⟨pl,az⟩:∃pl:Nat,pl=3 - 1 - j:=⟨_,rfl⟩
     have ar:((3:Int) - 1 - (j:Int))=(pl:Int):=by omega
     have HPL:=lh az;have bh:pl<=2:=by omega
     rw [ar];clear az ar;go_upto_region 18 with fail
     obtain ⟨wo,rfl⟩:∃wo:World,wo=wr:=⟨_,rfl⟩
     go_loopw [11,12] (fun p k wr=>(∃m q:Nat,m<=pl/\k= .int .i64 m/\p= .int .i64 q/\Hid (16 ^ m=q))/\Hid (Own I 3 wr (w.heap.size+1) u5 (digs 4 (sB s) 64++cdigs 4 3 c j))/\Hid (Below (w.heap.size+1) G wr)) (fun _ k _=>pl - (intOf k).toNat)
     case atStart=>exact ⟨⟨0,1,by omega,rfl,rfl,rfl⟩,J,HBr⟩
     case round=>
      clear J HBr;obtain ⟨⟨m,q,hm,rfl,rfl,HQ⟩,J,HBr⟩:=hrel;obtain ⟨c0,c1⟩:=HC.out _ HBr.out
      have bf:q<=256:=by
       rw [<-HQ.out];exact lT (Nat.pow_le_pow_right de (show m<=2 by omega)) de
      by_cases bv:m < pl
      ·have aw:(q:Int)*16=((q*16:Nat):Int):=by omega
       have a2:=lh aw;have aZ:Hid (16 ^ (m+1)=q*16):=by show _=_;rw [Nat.pow_succ,HQ.out]
       clear aw;go_wp2_with (go_at_call 250;(with_reducible refine (HL.out _).mono ?_);rintro e w6 ⟨rfl,L⟩;(have HB6:Hid (Below (w.heap.size+1) G w6):=HBr.out.trans (L.mono (HS.out▸HBr.out.size)));(have ak:Hid (Own I 3 w6 (w.heap.size+1) u5 (digs 4 (sB s) 64++cdigs 4 3 c j)):=J.out.on L);clear L);refine ⟨?rel,?measure⟩;case rel=>exact ⟨⟨m+1,q*16,by omega,by go_num,by rw [a2.out],aZ⟩,ak,HB6⟩
       case measure=>(simp [intOf]<;>omega)
      ·obtain rfl:m=pl:=by omega
       have bj:0 < q:=by rw [<-HQ.out];exact Nat.pos_of_ne_zero sI
       obtain ⟨U,Z⟩:=gx (c / q);obtain ⟨d,hd⟩:∃d:Nat,cdig 4 3 c j=d:=⟨_,rfl⟩
       have ag:d=U % 16:=by
        rw [<-hd,<-Z,<-HQ.out,HPL.out];show c / 2 ^ (4*(3 - 1 - j)) % 2 ^ 4=c / 16 ^ (3 - 1 - j) % 16;rw [Nat.pow_mul]
       have aW:(c:Int).tdiv (q:Int)=(U:Int):=by rw [<-Z];rfl
       have aT:(c:Int) / (q:Int)=(U:Int):=by rw [<-Z];simp
       have bk:U<=960:=by rw [<-Z];exact lT (Nat.div_le_self _ _) be
       have a0:(U:Int).tmod 16=(d:Int):=by rw [ag];rfl
       have aV:(U:Int) % 16=(d:Int):=by rw [ag];simp
       have a6:IntKind.i64.wrap (U:Int)=U:=IntWalk.i64_in _ om;have bg:¬(q:Int)=0:=by omega
       have bw:¬q=0:=by omega
       have ae:Hid (digs 4 (sB s) 64++cdigs 4 3 c (j+1)=(digs 4 (sB s) 64++cdigs 4 3 c j)++[(d:Int)]):=by
        show _=_;rw [ych,hd,List.append_assoc]
       obtain ⟨ls,ao⟩:=gx (digs 4 (sB s) 64++cdigs 4 3 c j);have aC:Hid (ls.length=64+j):=by show _=_;rw [<-ao,List.length_append,ybx,yck]
       rw [ao] at J ae;have ap:Hid ((ls.length+1)*8<=140737488355328):=by show _<=_;rw [aC.out];omega
       have am:Hid (ls.length+1<=maxLen):=by show _<=_;rw [aC.out];unfold maxLen;omega
       have HBc:=HBr;have O:Hid (w.heap.size+1<=wr.heap.size):=HS.out▸HBr.out.size;have bn:=lh ag;have HPM:=HPL;clear Z hd ag ao HQ;go_upto_region 21 with fail
       refine rH (S:=(fun w'=>w'.cell? ⟨w.heap.size,0,none⟩=some (.int .i64 4)/\w'.cell? ⟨w.heap.size,1,none⟩=some (.int .i64 32))) ya9 yai (fun au=>?_)
       (iterate 5 refine tkA ?_)
       refine rd1 5 (fun K Y=>?_)
       (go_simp;go_at_call 250;(with_reducible refine (HL.out _).mono ?_);rintro e w4 ⟨rfl,af⟩;(have HBc:Hid (Below (w.heap.size+1) G w4):=HBr.out.trans (Below.mono (Below.trans (B:=wr.heap.size) yaF af) O.out));(have HS4:Hid (w.heap.size+1<=w4.heap.size):=lT O.out af.size);(have a9:Hid (Own I 3 w4 (w.heap.size+1) u5 (ls)):=J.out.on (Below.trans (B:=wr.heap.size) yaF af));clear af;go_wp2_with fail)
       refine Y.out _ _ yai (fun aa=>?_);clear Y K au
       try simp only [pt]
       refine tkY 6 ?_;refine rd1 7 (fun K Y=>?_);go_simp;refine Y.out _ _ yai (fun ac=>?_);clear Y K aa
       try simp only [pt]
       refine rd1 8 (fun K Y=>?_)
       ((refine ybT (f:=I) (.tmp 63) (.tmp 70) 27 rfl rfl 3 i0 (.int .i64 0) 8 underlying27 HI.out aA.out aB.out aD.out rfl ls (w.heap.size+1) ?hown [(d:Int)] ?hrow I1 ap.out am.out ?hbase ?_);(case hown=>exact a9.out.alloc _);(case hrow=>exact ⟨_,_,1,1,rfl,rfl,SL.of_block (t:=3) (fr:=(0,0)) (zy _ _) (Nat.lt_succ_self _)⟩);(case hbase=>have:=HS4.out;simp;omega);(intro v7 w7 bc HG7 bp HB7);(have HBd:Hid (Below (w.heap.size+1) G w7):=HB7.out (w.heap.size+1) G (HBc.out.alloc HS4.out _) nl))
       refine Y.out _ _ yai (fun aS=>?_);clear Y K ac
       try simp only [pt]
       refine tkY 9 ?_;refine wpAnyH_done ya9 ?_ _;clear aW aT a0 aV a6;obtain ⟨c0,c1⟩:=HC.out w7 HBd.out;have ai:Hid (Own I 3 w7 (w.heap.size+1) v7 (digs 4 (sB s) 64++cdigs 4 3 c (j+1))):=ae.out▸bc.out;go_wp2;refine ⟨?rel,?measure⟩;case rel=>exact ⟨j+1,by omega,yaS,ai,HBd⟩
       case measure=>(have:=HPM.out;simp [intOf]<;>omega)
    ·obtain rfl:j=3:=by omega
     have ai:Hid (Own I 3 wr (w.heap.size+1) u5 (dgF 4 (sB s))):=by
      show Own ..
      have h:dgF 4 (sB s)=digs 4 (sB s) 64++cdigs 4 3 c 3:=by
       rw [<-a7.out];rfl
      rw [h];exact J.out
     have bu:¬(0:Int)<=(3:Int) - 1 - ((3:Nat):Int):=by omega
     go_wp2;go_ret;exact ⟨_,rfl,ybR ai.out (Nat.le_succ _),HB.out.trans (HBr.out.mono (Nat.le_succ _))⟩
theorem rdigits_any (b:Int) (β:Nat) (H:BitN b β) (s:ByteArray) (hs:s.size=32) (w:World):
 Calls prog 208 #[.agg (cPm b),.string s] w fun e G=>∃v,e= .returned v/\Own I 3 G w.heap.size v (dgF β (sB s))/\Below w.heap.size w G:=by
 rcases H with ⟨rfl,rfl⟩ |⟨rfl,rfl⟩ |⟨rfl,rfl⟩
 ·exact rdigits_1 s hs w
 ·exact rdigits_2 s hs w
 ·exact rdigits_4 s hs w
