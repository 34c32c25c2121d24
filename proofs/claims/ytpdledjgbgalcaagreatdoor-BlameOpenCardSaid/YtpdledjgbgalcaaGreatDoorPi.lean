import Derived.Test.YtpdledjgbgalcaaGreatDoorQ5
import Derived.Deep.OwnRows
import Derived.Test.YtpdledjgbgalcaaGreatDoorPp
import Derived.Test.YtpdledjgbgalcaaGreatDoorPm
namespace Go.Proofs.YtpdledjgbgalcaaGreatDoor
set_option maxRecDepth 100000
set_option maxHeartbeats 8000000
open Go.RowKit Go.Lib Go.Proofs.Tryz
set_option linter.unusedVariables false
set_option linter.unusedSimpArgs false
theorem ydw (g:Nat) (A:Option Addr) (n c:Nat) (bs:List Int) (s:RS) (w:World) (hr:RdS g A n c bs s w) (hk:RK bs n c) (hp:s.1<=n):
 Calls prog 218 #[.pointer (some ⟨g,0,none⟩)] w (RPost g A n c bs (.int .i64 (rN 0 1099511627776 bs s).1) (rN 0 1099511627776 bs s).2 w):=by
 have HC:=lh (ru2_any g A n c bs s w hr hk hp);have M:=ycU bs s;have G:=rU_bad (bs:=bs) (s:=s);have aa:Hid (g < w.heap.size):=hr.lt;unfold rN;obtain ⟨z,O,hz⟩:∃z O,rU bs s=(z,O):=⟨_,_,rfl⟩
 rw [hz] at HC M G ⊢;dsimp only at M G;clear hr hz hk hp
 by_cases L:s.2=0/\O.2=0
 ·obtain ⟨h1,h2⟩:=L;rw [if_pos ⟨h1,h2⟩]
  have J:Hid (Calls prog 82 #[.pointer (some ⟨g,0,none⟩)] w fun e H=>e= .returned (.int .u64 z)/\Rd H g A n c O.1 (s.1:Int) 0/\Sl fB H g A n bs/\But (fun k=>k=g) w H):=HC.out.mono (fun e H ⟨U,⟨pv,N,T⟩,k4,k5⟩=>by
   rw [T h1] at N
   exact ⟨U,(by rw [<-h2];exact N),k4,k5⟩)
  obtain ⟨q,q2⟩:=O;obtain ⟨p,p2⟩:=s;dsimp only at h1 h2 J G;subst h1;subst h2;clear HC G
  have W:Hid (∀w1,Rd w1 g A n c q (p:Int) 0/\Sl fB w1 g A n bs/\But (fun k=>k=g) w w1->Calls prog 210 #[.pointer (some ⟨g,0,none⟩)] w1 fun e H=>e= .returned (.tuple #[])/\RdS g A n c bs (p,3) H/\But (fun k=>k=g) w H):=fun w1 ⟨U,N,T⟩=>
   (fail_ok g A n c q p w1 U).mono (fun e H ⟨j1,j2,Z⟩=>⟨j1,⟨⟨_,j2⟩,N.butg Z (lT (Nat.le_of_lt aa.out) T.size)⟩,T.trans Z (fun i hi=> .inl hi)⟩)
  by_cases ac:(1099511627776:Int) < z
  ·rw [if_neg (fun h=>by have h2:z<=1099511627776:=h.2;omega)];go_enter func218,ntmps218
   go_wp2_with (first
    |(go_at_call 82;(with_reducible refine J.out.mono ?_);rintro e w1 ⟨rfl,k⟩;have K:=lh k;clear k)
    |(go_at_call 210;(with_reducible refine (W.out _ K.out).mono ?_);rintro e w2 ⟨rfl,k⟩;have K2:=lh k;clear k))
   go_ret;exact ⟨rfl,K2.out.1,K2.out.2⟩
  ·rw [if_pos ⟨M,by show z<=1099511627776;omega⟩];clear W;go_enter func218,ntmps218
   go_wp2_with (first
    |(go_at_call 82;(with_reducible refine J.out.mono ?_);rintro e w1 ⟨rfl,k⟩;have K:=lh k;clear k))
   go_ret;exact ⟨by first |rfl |exact ret_int (show wrap64 z=z by unfold wrap64;omega),⟨⟨_,K.out.1⟩,K.out.2.1⟩,K.out.2.2⟩
 ·rw [if_neg L];obtain ⟨Y,he⟩:=G L;have J:Hid (Calls prog 82 #[.pointer (some ⟨g,0,none⟩)] w fun e H=>e= .returned (.int .u64 0)/\RdS g A n c bs O H/\But (fun k=>k=g) w H):=HC.out.mono (fun e H ⟨U,⟨pv,N,T⟩,k4,k5⟩=>⟨by rw [U,Y],⟨⟨pv,N⟩,k4⟩,k5⟩);clear HC G L Y he M;go_enter func218,ntmps218
  go_wp2_with (first
   |(go_at_call 82;(with_reducible refine J.out.mono ?_);rintro e w1 ⟨rfl,k⟩;have K:=lh k;clear k))
  go_ret;exact ⟨rfl,K.out.1,K.out.2⟩
def rL (bs:List Int) (m:Nat) (s:RS):List ByteArray × RS:=rSums bs (rC bs m s).1.toNat (rC bs m s).2
theorem rL_le {bs:List Int} {m n:Nat} {s:RS} (hl:bs.length=n) (h:s.1<=n):(rL bs m s).2.1<=n:=ydr hl _ (rC_le hl h)
def RLPost (g:Nat) (A:Option Addr) (n c:Nat) (bs:List Int) (ys:List ByteArray) (s:RS) (w:World) (e:Ending) (w':World):Prop:=
 ∃A5 k5 c5,e= .returned (.slice A5 k5 c5)/\Own fT 9 w' w.heap.size (.slice A5 k5 c5) ys/\RdS g A n c bs s w'/\But (fun k=>k=g) w w'
theorem own_of_row {w:World} {b base:Nat} {cs:Array Value} {ys:List ByteArray} {n:Nat} (H:w.heap[b]? =some (.cells cs 9 (0,0))) (G:cs.toList=ys.map fT) (hn:ys.length=n) (J:base<=b) (K:n<=maxLen):Own fT 9 w base (.slice (some ⟨b,0,none⟩) n n) ys:=by
 have hs:cs.size=n:=by rw [<-Array.length_toList,G,List.length_map,hn]
 refine ⟨by simp,.inr ⟨b,n,cs,by rw [hn],J,H,by rw [hn];exact Nat.le_refl _,K,by rw [hs,Nat.mul_one],?_⟩⟩;rw [G,Nat.mul_one,List.take_of_length_le (by rw [List.length_map];exact Nat.le_refl _)]
theorem set_mid (ys:List ByteArray) (x:ByteArray) (m:Nat):(((ys++List.replicate (m+1) baNo).map fT).set ys.length (.string x))=((ys++[x])++List.replicate m baNo).map fT:=by
 rw [List.map_append,List.set_append_right _ _ (by rw [List.length_map];exact Nat.le_refl _),List.length_map,Nat.sub_self,List.replicate_succ,List.map_cons,List.set_cons_zero,List.append_assoc,List.map_append,List.map_append];rfl
theorem rl_any (g:Nat) (A:Option Addr) (n c:Nat) (bs:List Int) (s:RS) (m:Nat) (hm:m<=1000) (w:World) (hr:RdS g A n c bs s w) (Y:RK bs n c) (hp:s.1<=n):
 Calls prog 219 #[.pointer (some ⟨g,0,none⟩),.int .i64 m] w (RLPost g A n c bs (rL bs m s).1 (rL bs m s).2 w):=by
 have hl:=hr.len;have ae:=hr.lt;have HC:=lh (rc_any g A n c bs s m om w hr Y hp);have O:=rC_le (m:=m) hl hp;have N:=yds (bs:=bs) (m:=m) (s:=s);unfold rL;obtain ⟨z,G,hz⟩:∃z s',rC bs m s=(z,s'):=⟨_,_,rfl⟩
 rw [hz] at HC O N ⊢;obtain ⟨k,rfl⟩:∃k:Nat,z=k:=⟨z.toNat,by have:=N.1;dsimp only at this;omega⟩
 have aB:k<=1000:=by have h:=N.2;dsimp only at h;omega
 dsimp only;rw [Int.toNat_natCast];have HS:Hid (∀j W,RdS g A n c bs (rSums bs j G).2 W->Calls prog 172 #[.pointer (some ⟨g,0,none⟩)] W (RPost g A n c bs (.string (rS bs (rSums bs j G).2).1) (rS bs (rSums bs j G).2).2 W)):=fun j W h=>rs_any g A n c bs _ W h Y (ydr hl j O);have HGL:=lh ae;obtain ⟨i0,hi,aa,ah,ai⟩:=info_parts Tryz.infoS;have HI:=lh hi;have ap:=lh aa;have ar:=lh ah;have au:=lh ai;clear hr Y hz hp hl O N hi aa ah ai ae hm;go_enter func219,ntmps219
 go_wp2_with (first
  |(go_at_call 141;(with_reducible refine HC.out.mono ?_);rintro e w1 ⟨rfl,r1,b1⟩
    have R1:=lh r1;have B1:=lh b1
    clear r1 b1)
  |(at_make;(refine wpList_make_row w1 (o:=⟨some 10,_,_,_,_,_⟩) rfl (.tmp 9) (.tmp 9) 24 rfl 9 i0 (.string ⟨#[]⟩) underlying24 HI.out ap.out ar.out rfl .i64 .i64 k rfl rfl (by rw [au.out];omega) om ?_)))
 obtain ⟨b,T⟩:∃b,b=w1.heap.size:=⟨_,rfl⟩
 obtain ⟨Z,M⟩:∃W:World,W=w1.alloc (.cells (madeCells #[.string ⟨#[]⟩] k) 9):=⟨_,rfl⟩
 have K:Below w1.heap.size w1 Z:=by rw [M];exact bl
 have R2:=lh (R1.out.on K);have B2:Hid (But (fun k=>k=g) w Z):=B1.out.trans (But.of_below (p:=fun k=>k=g) K) (fun i hi=> .inl hi)
 have U:∃cs,Z.heap[b]? =some (.cells cs 9 (0,0))/\cs.toList=((rSums bs 0 G).1++List.replicate k baNo).map fT:=⟨_,by rw [M,T];exact zy w1 _,by
  apply List.ext_getElem?;intro j;rw [Array.getElem?_toList];have hs:(madeCells #[Value.string ⟨#[]⟩] k).size=k:=by simp [madeCells]
  by_cases hj:j < k
  ·rw [Array.getElem?_eq_getElem om];simp [madeCells,rSums,hj,Nat.mod_one,baNo]
  ·rw [Array.getElem?_eq_none om,List.getElem?_eq_none (by simp [rSums];omega)]⟩
 have am:=lh U;have ak:Hid (g < b):=by show _ < _;rw [T];exact R1.out.lt
 have aj:Hid (w.heap.size<=b):=by show _<=_;rw [T];exact B1.out.size
 rw [<-M,<-T];clear T M K U HC R1 B1
 go_loopw [13] (fun i wr=>∃(j:Nat),j<=k/\i= .int .i64 j/\Hid (RdS g A n c bs (rSums bs j G).2 wr)/\Hid (But (fun k=>k=g∨k=b) Z wr)/\Hid (∃cs,wr.heap[b]? =some (.cells cs 9 (0,0))/\cs.toList=((rSums bs j G).1++List.replicate (k - j) baNo).map fT)) (fun i _=>k - (intOf i).toNat)
 case atStart=>exact ⟨0,by omega,rfl,R2,But.refl _ _,am⟩
 case round=>
  obtain ⟨j,hj,rfl,R,B,af⟩:=hrel
  by_cases hlt:j < k
  ·have aA:(j:Int) < (k:Int):=by omega
   have aC:(0:Int)<=(j:Int):=by omega
   have HC:=lh (HS.out j wr R.out);obtain ⟨x,hx⟩:∃x,x=(rS bs (rSums bs j G).2).1:=⟨_,rfl⟩
   rw [<-hx] at HC;have ac:Hid (rSums bs (j+1) G=((rSums bs j G).1++[x],(rS bs (rSums bs j G).2).2)):=by show _=_;rw [hx];rfl
   clear hx
   go_wp2_with (first
    |(go_at_call 172;(with_reducible refine HC.out.mono ?_);rintro e L ⟨rfl,r3,b3⟩
      have ax:∃cs,L.heap[b]? =some (.cells cs 9 (0,0))/\cs.toList=((rSums bs j G).1++List.replicate (k - j) baNo).map fT:=by
       obtain ⟨cs,H,J⟩:=af.out;exact ⟨cs,(b3.block b (lb H) (by have:=ak.out;omega)).trans H,J⟩
      obtain ⟨cs,H,J⟩:=ax
      have aq:cs.size=k:=by
       rw [<-Array.length_toList,J,List.length_map,List.length_append,ycd,List.length_replicate];omega
      obtain ⟨u,hu⟩:∃u,cs[j]? =some u:=⟨_,Array.getElem?_eq_getElem om⟩
      have ay:L.cell? ⟨b,j,none⟩=some u:=by rw [cell_of_row L b j _ _ _ H];exact hu
      have az:=frozen_of_row L b j _ _ H;have R3:=lh r3;have B3:=lh b3;have Q1:=lh H;have Q2:=lh J
      clear r3 b3 H J aq hu))
   refine ⟨?rel,?measure⟩
   case rel=>
    have aw:=heap_setCell_same L b j _ _ (.string x) Q1.out;have ag:But (fun k=>k=b) L (L.setCell ⟨b,j,none⟩ (.string x)):=But.setCell (p:=fun k=>k=b) (x:=⟨b,j,none⟩) (But.refl _ _) (.inl rfl) _;refine ⟨j+1,by omega,by go_num,?_,?_,?_⟩
    ·rw [ac.out];exact R3.out.but ag (fun k Y e=>by have:=ak.out;omega)
    ·exact (B.out.trans B3.out (fun i hi=> .inl (.inl hi))).trans ag (fun i hi=> .inl (.inr hi))
    ·rw [ac.out];refine ⟨_,aw,?_⟩;rw [Array.toList_setIfInBounds,Q2.out,show k - j=(k - (j+1))+1 by omega];have ao:=ycd bs j G;have:=set_mid (rSums bs j G).1 x (k - (j+1));rw [ao] at this;exact this
   case measure=>simp [intOf];omega
  ·obtain rfl:j=k:=by omega
   go_wp2;go_ret;obtain ⟨cs,H,J⟩:=af.out;rw [Nat.sub_self,List.replicate_zero,List.append_nil] at J;exact ⟨_,_,_,rfl,own_of_row H J (ycd _ _ _) aj.out ya5,R.out,B2.out.trans B.out (fun i hi=>by rcases hi with rfl |rfl;exact .inl rfl;exact .inr aj.out)⟩
theorem row_sl {w:World} {b:Nat} {cs:Array Value} {ys:List ByteArray} {n:Nat} (G:w.heap[b]? =some (.cells cs 9 (0,0))) (H:cs.toList=ys.map fT) (hn:ys.length=n):Sl fT w w.heap.size (some ⟨b,0,none⟩) n ys:=by
 have h:cs=(ys.map fT).toArray:=by rw [<-H]
 rw [h] at G;exact ⟨hn,SL.of_block G (lb G)⟩
theorem recover_no (b:Int) (β:Nat) (N:BitN b β) (s:ByteArray) (hs:s.size=32) (A:Option Addr) (n c:Nat) (w:World) (hn:n≠mN β+cN β):
 Calls prog 203 #[.agg (cPm b),.string s,.slice A n c] w fun e w'=>e= .returned (.tuple #[.string ⟨#[]⟩,.int .i64 1])/\Below w.heap.size w w':=by
 have HD:=lh (fun W=>digits_any b β N s hs W);obtain ⟨T,J,ac,ae,Y⟩:=bit_T N;have U:Hid ((dgF β (sB s)).length=T):=by show _=_;rw [dgF_len,J]
 rw [J] at hn;have aa:((n:Int) != (T:Int))=true:=by simp;omega
 have HB:Hid (Below w.heap.size w (w.alloc (.cells (cPm b) 268))):=bl;obtain ⟨G,H⟩:∃G:World,G=w.alloc (.cells (cPm b) 268):=⟨_,rfl⟩
 have L:G.heap.size=w.heap.size+1:=by rw [H];simp
 have M:G.heap[w.heap.size]? =some (.cells (cPm b) 268 (0,0)):=by rw [H];exact zy w _
 have HC:Hid (∀V,Below (w.heap.size+1) G V->V.cell? ⟨w.heap.size,0,none⟩=some (.int .i64 b)/\V.cell? ⟨w.heap.size,1,none⟩=some (.int .i64 32)):=fun V hv=>by
  have q:=(hv.block w.heap.size (Nat.lt_succ_self _)).trans M;refine ⟨?_,?_⟩<;>(rw [cell_of_row V _ _ _ _ _ q];rfl)
 rw [<-H] at HB;have z:=lh L;have HWE:=lh H;have HB1:Hid (Below (w.heap.size+1) G G):=Below.refl _ _;clear M L H;obtain ⟨c0,c1⟩:=HC.out G HB1.out;clear N hs hn J Y;go_enter func203,ntmps203;go_upto_region 1 with fail
 rw [<-HWE.out];go_wp2_with (go_at_call 243;(with_reducible refine (HD.out _).mono ?_);rintro e w2 ⟨v2,rfl,Z,K⟩;(have O:=lh (HB1.out.trans (K.mono (Nat.le_of_eq z.out.symm))));(obtain ⟨A2,c2,rfl,_,_,_⟩:=Z.shape);(rw [U.out]);clear Z K);go_ret2;exact ⟨rfl,HB.out.trans (O.out.mono (Nat.le_succ _))⟩
theorem recover_any (b:Int) (β:Nat) (hb:BitN b β) (s:ByteArray) (hs:s.size=32) (A:Option Addr) (n c B:Nat) (ps:List ByteArray) (w:World) (hG:Glob w) (hp:Sl fT w B A n ps) (hB:B<=w.heap.size) (hn:n=mN β+cN β) (ap:∀s∈ps,s.size=32):
 Calls prog 203 #[.agg (cPm b),.string s,.slice A n c] w fun e U=>e= .returned (.tuple #[.string (pubF β (dgF β (sB s)) ps),.int .i64 0])/\Below w.heap.size w U:=by
 obtain ⟨i0,hi,aS,aP,aR⟩:=info_parts Tryz.infoS;have HI:=lh hi;have a8:=lh aS;have a9:=lh aP;have ba:=lh aR;have HG:=lh hG;have HD:=lh (fun W=>digits_any b β hb s hs W);obtain ⟨T,bc,a4,bn,bb⟩:=bit_T hb;obtain ⟨M,aM,bD,bA,be,aO,aV⟩:=bit_M hb;have HL:=lh (fun W=>ycR b β hb W);rw [aO] at HL;have aU:((2:Int) ^ β)=((2 ^ β:Nat):Int):=by simp
 have aC:Hid (∀d∈dgF β (sB s),0<=d/\d<=(M:Int)):=fun d h=>by
  have:=dgF_rng β (sB s) d h;rw [aU,aV] at this;omega
 have bj:=lh aM;obtain ⟨H,ay⟩:=gx (dgF β (sB s));have aX:H.length=n:=by rw [<-ay,dgF_len,hn]
 rw [ay] at HD aC ⊢;have ak:=lh aX;have bi:=lh ap;have aw:ps.length=n:=hp.1;have HPL:=lh aw;have bw:n<=265:=by omega
 have a2:1<=n:=by omega
 have HV:Hid (pubF β H ps=baOf (shaB (pbL++jnL (endsF β H ps n)))):=by
  show _=_;unfold pubF;rw [pbL_eq,aw]
 have bk:Hid (∀z∈endsF β H ps n,z.size=32):=ydI β H ps ap n om;rw [HV.out];have HB:Hid (Below w.heap.size w (w.alloc (.cells (cPm b) 268))):=bl;obtain ⟨J,Y⟩:∃J:World,J=w.alloc (.cells (cPm b) 268):=⟨_,rfl⟩
 have aQ:J.heap.size=w.heap.size+1:=by rw [Y];simp
 have aY:J.heap[w.heap.size]? =some (.cells (cPm b) 268 (0,0)):=by rw [Y];exact zy w _
 have HC:Hid (∀V,Below (w.heap.size+1) J V->V.cell? ⟨w.heap.size,0,none⟩=some (.int .i64 b)/\V.cell? ⟨w.heap.size,1,none⟩=some (.int .i64 32)):=fun V O=>by
  have q:=(O.block w.heap.size (Nat.lt_succ_self _)).trans aY;refine ⟨?_,?_⟩<;>(rw [cell_of_row V _ _ _ _ _ q];rfl)
 rw [<-Y] at HB;have HS:=lh aQ;have HWE:=lh Y;have HB1:Hid (Below (w.heap.size+1) J J):=Below.refl _ _;clear aY aQ Y;have HP:Hid (∀V,Below (w.heap.size+1) J V->Sl fT V B A n ps):=fun V O=>(hp.up HB.out hB).up O (Nat.le_succ_of_le hB);have bB:B<=w.heap.size:=hB;obtain ⟨c0,c1⟩:=HC.out J HB1.out;have bC:((n:Int) != (n:Int))=false:=by simp
 clear hi aS aP aR hG hb hs hn bc bb aM be aO aV aU ay aX ap aw hp a4 bn;go_enter func203,ntmps203;go_upto_region 1 with fail
 rw [<-HWE.out]
 go_upto_region 6 with (first
  |(go_at_call 243;(with_reducible refine (HD.out _).mono ?_);rintro e Z ⟨v2,rfl,ho,aW⟩;(have aq:=lh (HB1.out.trans (aW.mono (Nat.le_of_eq HS.out.symm))));(obtain ⟨A2,c2,rfl,_,aL,_⟩:=ho.shape);(rw [ak.out]);(have aN:Hid (Sl I Z Z.heap.size A2 n H):=⟨ak.out,aL⟩);clear ho aW aL)
  |(at_make;(refine wpList_make_row Z (o:=⟨some 30,_,_,_,_,_⟩) rfl (.tmp 29) (.tmp 29) 24 rfl 9 i0 (.string ⟨#[]⟩) underlying24 HI.out a8.out a9.out rfl .i64 .i64 n rfl rfl (by rw [ba.out];omega) om ?_)))
 obtain ⟨G,L⟩:∃b,b=Z.heap.size:=⟨_,rfl⟩
 obtain ⟨W3,ac⟩:∃W:World,W=Z.alloc (.cells (madeCells #[.string ⟨#[]⟩] n) 9):=⟨_,rfl⟩
 have ag:Below Z.heap.size Z W3:=by rw [ac];exact bl
 have a1:W3.heap.size=G+1:=by rw [ac,L];simp
 have ai:w.heap.size+1<=G:=by rw [L];exact HS.out▸aq.out.size
 have aB:Below (w.heap.size+1) J W3:=aq.out.trans (ag.mono (L▸ai));have bu:=lh aB
 have ah:Hid (∀V,Below G W3 V->V.cell? ⟨w.heap.size,0,none⟩=some (.int .i64 b)/\V.cell? ⟨w.heap.size,1,none⟩=some (.int .i64 32)/\Sl I V G A2 n H/\Sl fT V B A n ps/\Below (w.heap.size+1) J V):=fun V O=>by
  have hw:Below (w.heap.size+1) J V:=aB.trans (O.mono ai);obtain ⟨k0,k1⟩:=HC.out V hw;have N:=(aN.out.up ag nl);rw [<-L] at N;exact ⟨k0,k1,N.up O nl,HP.out V hw,hw⟩
 have aE:∃cs,W3.heap[G]? =some (.cells cs 9 (0,0))/\cs.toList=(endsF β H ps 0++List.replicate n baNo).map fT:=⟨_,by rw [ac,L];exact zy Z _,by
  apply List.ext_getElem?;intro j;rw [Array.getElem?_toList];have hs:(madeCells #[Value.string ⟨#[]⟩] n).size=n:=by simp [madeCells]
  by_cases hj:j < n
  ·rw [Array.getElem?_eq_getElem om];simp [madeCells,endsF,hj,Nat.mod_one,baNo]
  ·rw [Array.getElem?_eq_none om,List.getElem?_eq_none (by simp [endsF];omega)]⟩
 have az:=lh aE;have HBW:Hid (Below G W3 W3):=Below.refl _ _;have bx:=lh ai;have aA:Hid (G < W3.heap.size):=by show _ < _;omega
 rw [<-ac,<-L];clear L ac ag aE aN aq aB a1 c0 c1 HP HC HB1 ai
 go_loopw [33] (fun i wr=>∃(k:Nat),k<=n/\i= .int .i64 k/\Hid (Below G W3 wr)/\Hid (∃cs,wr.heap[G]? =some (.cells cs 9 (0,0))/\cs.toList=(endsF β H ps k++List.replicate (n - k) baNo).map fT)) (fun i _=>n - (intOf i).toNat)
 case atStart=>exact ⟨0,by omega,rfl,HBW,az⟩
 case round=>
  clear HBW az;obtain ⟨k,hk,rfl,HBr,aT⟩:=hrel
  by_cases hlt:k < n
  ·have br:(k:Int) < (n:Int):=by omega
   have bz:(0:Int)<=(k:Int):=by omega
   obtain ⟨c0,c1,N,aH,bo⟩:=ah.out wr HBr.out;obtain ⟨bd,od,dI,aI,_,aa,kd⟩:=N.2.at_ (k:=k) (by rw [ak.out];exact hlt);obtain ⟨bp,op,x,a3,_,ax,kp⟩:=aH.2.at_ (k:=k) (by rw [HPL.out];exact hlt);obtain ⟨d,rfl⟩:∃d:Nat,dI=(d:Int):=⟨dI.toNat,by have:=(aC.out dI (List.mem_of_getElem? aa)).1;omega⟩
   have a6:d<=M:=by have:=(aC.out _ (List.mem_of_getElem? aa)).2;omega
   have aD:x.size=32:=bi.out x (List.mem_of_getElem? ax)
   have HK:Hid (∀V,Below G W3 V->V.cell? ⟨w.heap.size,0,none⟩=some (.int .i64 b)/\V.cell? ⟨w.heap.size,1,none⟩=some (.int .i64 32)/\V.cell? ⟨bd,od+k,none⟩=some (.int .i64 (d:Int))):=fun V O=>by
    obtain ⟨c0,c1,N,_,_⟩:=ah.out V O;obtain ⟨b2,o2,x2,e2,_,g2,k2⟩:=N.2.at_ (k:=k) (by rw [ak.out];exact hlt);rw [aI] at e2;cases e2
    rw [aa] at g2;cases g2
    exact ⟨c0,c1,k2⟩
   have aK:Hid (∀V,Below G W3 V->Calls prog 244 #[.int .i64 k,.int .i64 d,.int .i64 M,.string x] V fun e U=>e= .returned (.tuple #[.string (chF k d (M - d) x),.int .i64 0])/\Below V.heap.size V U):=fun V O=>chain_any k d M om a6 om x aD V (HG.out.on (HB.out.trans ((ah.out V O).2.2.2.2.mono (Nat.le_succ _))))
   have aZ:Hid (endsF β H ps (k+1)=endsF β H ps k++[chF k d (M - d) x]):=by
    show _=_;rw [endsF_succ,ybw aa,ybw ax,bj.out];rfl
   obtain ⟨cv,aJ⟩:=gx (chF k d (M - d) x);rw [aJ] at aK aZ;have HBc:=HBr;subst aI;subst a3;clear N aH bo aa ax aD aJ;go_upto_region 8 with fail
   refine rH (S:=(fun U=>U.cell? ⟨w.heap.size,0,none⟩=some (.int .i64 b)/\U.cell? ⟨w.heap.size,1,none⟩=some (.int .i64 32)/\U.cell? ⟨bd,od+k,none⟩=some (.int .i64 (d:Int)))) ya9 yap (fun aF=>?_)
   (iterate 8 refine tkA ?_)
   refine tkY 9 ?_;refine rd1 8 (fun K hK=>?_)
   (go_simp;go_at_call 245;(with_reducible refine (HL.out _).mono ?_);rintro e w4 ⟨rfl,aj⟩;(have bg:Hid (Below G wr w4):=Below.trans (B:=G) yaF (Below.mono aj (lT (Nat.le_of_lt aA.out) HBr.out.size)));(have HBc:Hid (Below G W3 w4):=HBr.out.trans bg.out);(have aG:w4.heap[G]? =wr.heap[G]? :=(Below.trans (B:=wr.heap.size) yaF aj).block G (Nat.lt_of_lt_of_le aA.out HBr.out.size));(have bh:=lh aG);(have HS4:Hid (G < w4.heap.size):=Nat.lt_of_lt_of_le (Nat.lt_of_lt_of_le aA.out HBr.out.size) aj.size);clear aj aG;go_wp2_with fail)
   refine hK.out _ _ yap (fun am=>?_);clear hK K aF
   try simp only [pt]
   refine rd1 10 (fun K hK=>?_)
   (go_simp;go_at_call 244;(with_reducible refine (aK.out _ HBc.out).mono ?_);rintro e w5 ⟨rfl,ar⟩;(have ao:w5.heap[G]? =wr.heap[G]? :=(ar.block G HS4.out).trans bh.out);(have HBc:Hid (Below G W3 w5):=HBc.out.trans (ar.mono (Nat.le_of_lt HS4.out)));(obtain ⟨cs,q1,q2⟩:=aT.out);(rw [<-ao] at q1);(have a5:cs.size=n:=by rw [<-Array.length_toList,q2,List.length_map,List.length_append,ycQ,List.length_replicate];omega);(obtain ⟨u,hu⟩:∃u,cs[k]? =some u:=⟨_,Array.getElem?_eq_getElem om⟩);(have a7:w5.cell? ⟨G,k,none⟩=some u:=by rw [cell_of_row w5 G k _ _ _ q1];exact hu);(have bm:=frozen_of_row w5 G k _ _ q1);(have Q1:=lh q1);(have Q2:=lh q2);(have HB6:Hid (Below G W3 (w5.setCell ⟨G,k,none⟩ (.string cv))):=HBc.out.setCell nl _);clear ar ao q1 q2 a5 hu;go_wp2_with fail)
   refine hK.out _ _ yap (fun af=>?_);clear hK K am
   try simp only [pt]
   (iterate 4 refine tkA ?_)
   refine rd1 15 (fun K hK=>?_);go_simp;refine hK.out _ _ yap (fun a0=>?_);clear hK K af
   try simp only [pt]
   refine tkY 16 ?_;refine wpAnyH_done ya9 ?_ _;clear a7 bm;go_wp2_with fail;refine ⟨?rel,?measure⟩
   case rel=>
    refine ⟨k+1,by omega,by go_num,HB6,?_⟩;rw [aZ.out];refine ⟨_,heap_setCell_same w5 G k _ _ (.string cv) Q1.out,?_⟩;rw [Array.toList_setIfInBounds,Q2.out,show n - k=(n - (k+1))+1 by omega];have:=set_mid (endsF β H ps k) cv (n - (k+1));rw [ycQ] at this;exact this
   case measure=>(simp [intOf]<;>omega)
  ·obtain rfl:k=n:=by omega
   obtain ⟨cs,q1,q2⟩:=aT.out;rw [Nat.sub_self,List.replicate_zero,List.append_nil] at q2;have ae:=(ah.out wr HBr.out).2.2.2.2;have au:=HB.out.trans (ae.mono (Nat.le_succ _))
   have bq:Hid (Calls prog 246 #[.slice (some ⟨G,0,none⟩) k k] wr fun e U=>e= .returned (.string (baOf (shaB (pbL++jnL (endsF β H ps k)))))/\Below wr.heap.size wr U):=
    pubkey_any _ k k wr.heap.size (endsF β H ps k) wr (HG.out.on au) (row_sl q1 q2 (ycQ _ _ _ _)) nl nl a2 om bk.out
   have bf:=lh au;clear q1 q2 ae au;go_wp2_with (go_at_call 246;(with_reducible refine bq.out.mono ?_);rintro e w6 ⟨rfl,ae⟩;(have HB6:=lh (bt bf.out ae));clear ae);go_ret2;exact ⟨rfl,HB6.out⟩
abbrev cSg (ix:Int) (Ap:Option Addr) (np cp:Nat) (Aq:Option Addr) (nq cq:Nat):Array Value:=#[.int .i64 ix,.slice Ap np cp,.slice Aq nq cq]
def sgF (b h:Int) (ix:Nat) (np nq:Nat):Bool:=sgOk b h&&(decide (ix < 2 ^ h.toNat)&&(decide ((nq:Int)=h)&&decide (np=mN b.toNat+cN b.toNat)))
def sgR (b:Int) (dg:ByteArray) (ix:Nat) (ps qs:List ByteArray):ByteArray:=clF (leafS (sB (pubF b.toNat (dgF b.toNat (sB dg)) ps))) ix qs
theorem sgOk_bit {b h:Int} (hv:sgOk b h=true):BitN b b.toNat/\0<=h/\h<=8:=by
 unfold sgOk at hv;have:=of_decide_eq_true hv;refine ⟨?_,this.2⟩;unfold BitN;omega
theorem sgis_any (x:ByteArray) (G:x.size=32) (w:World):Calls prog 202 #[.string x] w fun e H=>e= .returned (.bool true)/\w=H:=by
 have h1:((x.size:Int)==32)=true:=by simp [G]
 go_enter func202,ntmps202;go_wp2;go_ret;exact ⟨rfl,rfl⟩
theorem sgpar_any (b h:Int) (w:World):Calls prog 204 #[.agg (cSc b h)] w fun e G=>e= .returned (.agg (cPm b))/\Below w.heap.size w G:=by
 have HB:Hid (Below w.heap.size w (w.alloc (.cells (cSc b h) 26))):=bl;go_enter func204,ntmps204;go_wp2;exact bodyPost_ret (v:= .agg (cPm b)) (by simp [results,Tryz.results204,go_sem]) rfl ⟨rfl,HB.out.alloc HB.out.size _⟩
theorem sgroot_any (b h:Int) (dg:ByteArray) (aI:dg.size=32) (ix:Nat) (bC:ix < 256) (Y Aq:Option Addr) (N nq Z cq B:Nat) (ps qs:List ByteArray) (w:World) (hG:Glob w) (hp:Sl fT w B Y N ps) (hq:Sl fT w B Aq nq qs) (hB:B<=w.heap.size) (hn:N<=300) (hm:nq<=8) (ah:∀s∈ps,s.size=32) (aj:∀s∈qs,s.size=32):
 Calls prog 152 #[.agg (cSc b h),.string dg,.agg (cSg ix Y N Z Aq nq cq)] w fun e G=>∃r er,e= .returned (.tuple #[.string r,.int .i64 er])/\(er=0/\sgF b h ix N nq=true/\r=sgR b dg ix ps qs∨er=1/\sgF b h ix N nq=false)/\Below w.heap.size w G:=by
 have HI:=lh (fun W=>sgis_any dg aI W);have HV:=lh (fun W=>sgvalid_any b h W);have HF:Hid (sgF b h ix N nq=(sgOk b h&&(decide (ix < 2 ^ h.toNat)&&(decide ((nq:Int)=h)&&decide (N=mN b.toNat+cN b.toNat))))):=rfl;obtain ⟨M,af⟩:∃M:World,M=(w.alloc (.cells (cSc b h) 26)).alloc (.cells (cSg (ix:Int) Y N Z Aq nq cq) 33):=⟨_,rfl⟩
 have aU:M.heap.size=w.heap.size+2:=by rw [af];simp
 have aZ:M.heap[w.heap.size]? =some (.cells (cSc b h) 26 (0,0)):=by
  rw [af];exact (zx _ _ _ sI).trans (zy w _)
 have aJ:M.heap[w.heap.size+1]? =some (.cells (cSg (ix:Int) Y N Z Aq nq cq) 33 (0,0)):=by
  rw [af];have:=zy (w.alloc (.cells (cSc b h) 26)) (.cells (cSg (ix:Int) Y N Z Aq nq cq) 33);simpa using this
 have HC:Hid (∀V,Below (w.heap.size+2) M V->V.cell? ⟨w.heap.size,0,none⟩=some (.int .i64 b)/\V.cell? ⟨w.heap.size,1,none⟩=some (.int .i64 h)/\V.cell? ⟨w.heap.size+1,0,none⟩=some (.int .i64 (ix:Int))/\V.cell? ⟨w.heap.size+1,1,none⟩=some (.slice Y N Z)/\V.cell? ⟨w.heap.size+1,2,none⟩=some (.slice Aq nq cq)):=fun V hv=>by
  have q:=(hv.block w.heap.size om).trans aZ;have q2:=(hv.block (w.heap.size+1) om).trans aJ;refine ⟨?_,?_,?_,?_,?_⟩
  ·rw [cell_of_row V _ _ _ _ _ q];rfl
  ·rw [cell_of_row V _ _ _ _ _ q];rfl
  ·rw [cell_of_row V _ _ _ _ _ q2];rfl
  ·rw [cell_of_row V _ _ _ _ _ q2];rfl
  ·rw [cell_of_row V _ _ _ _ _ q2];rfl
 have HB:Hid (Below w.heap.size w M):=by
  show Below ..
  rw [af];exact bl.alloc sI _
 have HS:=lh aU;have HWE:=lh af;have HB1:Hid (Below (w.heap.size+2) M M):=Below.refl _ _;clear aZ aJ aU af
 cases z:sgOk b h with
 |false=>
  rw [z,Bool.false_and] at HF;rw [z] at HV;obtain ⟨c0,c1,c2,c3,c4⟩:=HC.out M HB1.out;clear hp hq ah aj z;go_enter func152,ntmps152;go_upto_region 1 with fail
  rw [<-HWE.out];go_wp2_with fail;refine rH (S:=(fun G=>G.cell? ⟨w.heap.size,0,none⟩=some (.int .i64 b)/\G.cell? ⟨w.heap.size,1,none⟩=some (.int .i64 h)/\G.cell? ⟨w.heap.size+1,0,none⟩=some (.int .i64 (ix:Int))/\G.cell? ⟨w.heap.size+1,1,none⟩=some (.slice Y N Z)/\G.cell? ⟨w.heap.size+1,2,none⟩=some (.slice Aq nq cq))) ya9 yam (fun O=>?_);refine tkY 0 ?_;refine rd1 1 (fun K J=>?_)
  (go_simp;go_at_call 201;(with_reducible refine (HV.out _).mono ?_);rintro e w4 ⟨rfl,U⟩;(have HBx:Hid (Below (w.heap.size+2) M w4):=Below.trans (B:=w.heap.size+2) yaG (Below.mono U (Nat.le_of_eq HS.out.symm)));clear U;go_wp2_with fail)
  refine J.out _ _ yam (fun a3=>?_);clear J K O
  try simp only [pt]
  (iterate 2 refine tkA ?_)
  refine tkN 4 ?_;refine tkN 5 ?_;refine tkN 6 ?_
  (iterate 2 refine tkA ?_)
  refine tkN 9 ?_;refine tkN 10 ?_;refine tkN 11 ?_
  (iterate 2 refine tkA ?_)
  refine tkN 14 ?_;refine tkN 15 ?_;refine tkN 16 ?_;refine tkN 17 ?_;refine tkN 18 ?_;refine tkN 19 ?_
  (iterate 2 refine tkA ?_)
  refine tkN 22 ?_;refine tkN 23 ?_;refine tkN 24 ?_;refine tkN 25 ?_;refine tkN 26 ?_;refine tkN 27 ?_;refine tkY 28 ?_;refine wpAnyH_done ya9 ?_ _;go_wp2_with fail;go_ret2;exact ⟨_,_,rfl,Or.inr ⟨rfl,HF.out⟩,HB.out.trans (HBx.out.mono (Nat.le_add_right _ 2))⟩
 |true=>
  obtain ⟨am,bx,bA⟩:=sgOk_bit z;rw [z,Bool.true_and] at HF;rw [z] at HV;obtain ⟨H,rfl⟩:∃H:Nat,h=(H:Int):=⟨h.toNat,by omega⟩
  rw [Int.toNat_natCast] at HF;have bp:H<=8:=by omega
  have bh:decide ((ix:Int) < 0)=false:=by simp
  obtain ⟨P,hP⟩:=gx (2 ^ H);have br:P<=256:=by rw [<-hP];exact lT (Nat.pow_le_pow_right de bp) de
  have bi:IntKind.i64.wrap ((2:Int) ^ H)=(P:Int):=by
   rw [show ((2:Int) ^ H)=(P:Int) by rw [<-hP];simp];exact IntWalk.i64_in _ om
  rw [hP] at HF;have bB:=lh hP;clear hP
  by_cases hlt:ix < P
  ·have aT:decide (P<=ix)=false:=by simp;omega
   have a0:decide ((P:Int)<=(ix:Int))=false:=by simp;omega
   rw [decide_eq_true hlt,Bool.true_and] at HF
   by_cases ay:nq=H
   ·
    have aW:((nq:Int) != (H:Int))=false:=by simp [ay]
    rw [show decide ((nq:Int)=(H:Int))=true by simp [ay],Bool.true_and] at HF;have HQ:Hid (∀V,Below (w.heap.size+2) M V->Sl fT V B Aq nq qs/\Sl fT V B Y N ps/\B<=V.heap.size):=fun V hv=>⟨(hq.up HB.out hB).up hv (lT hB (Nat.le_add_right _ 2)),(hp.up HB.out hB).up hv (lT hB (Nat.le_add_right _ 2)),Nat.le_trans (lT hB HB.out.size) (HS.out▸hv.size:M.heap.size<=V.heap.size)⟩;have HQL:Hid (qs.length=nq):=hq.1;have aM:=lh aj;have a1:=lh (fun W=>sgpar_any b H W);obtain ⟨c0,c1,c2,c3,c4⟩:=HC.out M HB1.out;have aK:Hid (N≠mN b.toNat+cN b.toNat->∀V,Calls prog 203 #[.agg (cPm b),.string dg,.slice Y N Z] V fun e G=>e= .returned (.tuple #[.string ⟨#[]⟩,.int .i64 1])/\Below V.heap.size V G):=fun bj V=>recover_no b b.toNat am dg aI Y N Z V bj;have aw:Hid (N=mN b.toNat+cN b.toNat->∀V,Below (w.heap.size+2) M V->Calls prog 203 #[.agg (cPm b),.string dg,.slice Y N Z] V fun e G=>e= .returned (.tuple #[.string (pubF b.toNat (dgF b.toNat (sB dg)) ps),.int .i64 0])/\Below V.heap.size V G):=fun he V hv=>recover_any b b.toNat am dg aI Y N Z B ps V (hG.on (HB.out.trans (hv.mono (Nat.le_add_right _ 2)))) (HQ.out V hv).2.1 (HQ.out V hv).2.2 he ah;have aF:Hid (∀V,Below (w.heap.size+2) M V->Glob V):=fun V hv=>hG.on (HB.out.trans (hv.mono (Nat.le_add_right _ 2)));clear hp hq ah aj z hG hB am ay;go_enter func152,ntmps152;go_upto_region 1 with fail
    rw [<-HWE.out];go_wp2_with fail;refine rH (S:=(fun G=>G.cell? ⟨w.heap.size,0,none⟩=some (.int .i64 b)/\G.cell? ⟨w.heap.size,1,none⟩=some (.int .i64 (H:Int))/\G.cell? ⟨w.heap.size+1,0,none⟩=some (.int .i64 (ix:Int))/\G.cell? ⟨w.heap.size+1,1,none⟩=some (.slice Y N Z)/\G.cell? ⟨w.heap.size+1,2,none⟩=some (.slice Aq nq cq))) ya9 yam (fun O=>?_);refine tkY 0 ?_;refine rd1 1 (fun K J=>?_)
    (go_simp;go_at_call 201;(with_reducible refine (HV.out _).mono ?_);rintro e w4 ⟨rfl,U⟩;(have HBx:Hid (Below (w.heap.size+2) M w4):=Below.trans (B:=w.heap.size+2) yaG (Below.mono U (Nat.le_of_eq HS.out.symm)));clear U;go_wp2_with fail)
    refine J.out _ _ yam (fun ao=>?_);clear J K O
    try simp only [pt]
    (iterate 3 refine tkA ?_)
    refine rd1 5 (fun K J=>?_)
    (go_simp;go_at_call 202;(with_reducible refine (HI.out _).mono ?_);rintro e w5 ⟨rfl,rfl⟩;go_wp2_with fail)
    refine J.out _ _ yam (fun a4=>?_);clear J K ao
    try simp only [pt]
    (iterate 23 refine tkA ?_)
    refine wpAnyH_done ya9 ?_ _;clear bh bi aT a0 aW c0 c1 c2 c3 c4;obtain ⟨c0,c1,c2,c3,c4⟩:=HC.out w4 HBx.out;have HBy:=HBx;go_upto_region 4 with fail
    go_loopw [47] (fun i wr=>(∃k:Nat,k<=nq/\i= .int .i64 k)/\w4=wr) (fun i _=>nq - (intOf i).toNat)
    case atStart=>exact ⟨⟨0,by omega,rfl⟩,rfl⟩
    case round=>
     obtain ⟨⟨k,hk,rfl⟩,rfl⟩:=hrel
     by_cases bo:k < nq
     ·have ba:(k:Int) < (nq:Int):=by omega
      have bw:(0:Int)<=(k:Int):=by omega
      obtain ⟨bq,oq,x,rfl,_,ag,bm⟩:=(HQ.out w4 HBy.out).1.2.at_ (k:=k) (by rw [HQL.out];exact bo);have bb:=lh (fun W=>sgis_any x (aM.out x (List.mem_of_getElem? ag)) W);clear ag;go_wp2_with (go_at_call 202;(with_reducible refine (bb.out _).mono ?_);rintro e w5 ⟨rfl,rfl⟩);refine ⟨?rel,?measure⟩;case rel=>exact ⟨⟨k+1,by omega,by go_num⟩,by first |rfl |trivial⟩
      case measure=>(simp [intOf]<;>omega)
     ·obtain rfl:k=nq:=by omega
      have ba:¬(k:Int) < (k:Int):=by omega
      have HBx:=HBy
      by_cases hT:N=mN b.toNat+cN b.toNat
      ·
       have ae:Hid (sgF b H ix N k=true):=by show _=_;rw [HF.out,decide_eq_true hT]
       have aP:=lh (aw.out hT);obtain ⟨pk,ax⟩:=gx (pubF b.toNat (dgF b.toNat (sB dg)) ps);have aA:pk.size=32:=by rw [<-ax];unfold pubF;rw [<-ybI,ybC (ycG _),ycq]
       have aQ:Hid (sgR b dg ix ps qs=clF (leafS (sB pk)) ix qs):=by show _=_;rw [<-ax];rfl
       rw [ax] at aP;have aY:=lh aA;clear hT ax aA HF aK aw;go_wp2_with fail;refine rH (S:=(fun G=>G.cell? ⟨w.heap.size,0,none⟩=some (.int .i64 b)/\G.cell? ⟨w.heap.size,1,none⟩=some (.int .i64 (H:Int))/\G.cell? ⟨w.heap.size+1,0,none⟩=some (.int .i64 (ix:Int))/\G.cell? ⟨w.heap.size+1,1,none⟩=some (.slice Y N Z)/\G.cell? ⟨w.heap.size+1,2,none⟩=some (.slice Aq k cq))) ya9 yam (fun O=>?_);refine tkY 0 ?_;refine tkY 2 ?_;refine tkY 3 ?_;refine tkY 4 ?_;refine rd1 1 (fun K J=>?_)
       (go_simp;go_at_call 204;(with_reducible refine (a1.out _).mono ?_);rintro e w6 ⟨rfl,ak⟩;(have HBx:Hid (Below (w.heap.size+2) M w6):=Below.trans (B:=w.heap.size+2) yaH (Below.mono ak (HS.out▸HBy.out.size)));clear ak;go_wp2_with fail)
       refine J.out _ _ yam (fun aD=>?_);clear J K O
       try simp only [pt]
       refine rd1 5 (fun K J=>?_)
       (go_simp;go_at_call 203;(with_reducible refine (aP.out _ HBx.out).mono ?_);rintro e w7 ⟨rfl,ai⟩;(have HBx:Hid (Below (w.heap.size+2) M w7):=HBx.out.trans (Below.mono ai (HS.out▸HBx.out.size)));clear ai;go_wp2_with fail)
       refine J.out _ _ yam (fun a9=>?_);clear J K aD
       try simp only [pt]
       (iterate 5 refine tkA ?_)
       refine wpAnyH_done ya9 ?_ _;obtain ⟨L,hL⟩:=gx (leafS (sB pk));have aE:L.size=32:=by rw [<-hL];exact ycn _
       have bf:Hid (∀(V:World) A' c',Below (w.heap.size+2) M V->Sl fB V V.heap.size A' pk.size (sB pk)->pk.size<=c'->Calls prog 151 #[.slice A' pk.size c'] V fun e G=>e= .returned (.string L)/\Below V.heap.size V G):=fun V A' c' hv hs hc=>hL▸ydm A' pk.size c' V.heap.size (sB pk) V (aF.out V hv) hs hc nl (by rw [aY.out];omega) (ycw pk) (own_hA hs (by rw [aY.out];omega));rw [hL] at aQ;have a7:=lh aE;clear hL aE;obtain ⟨c0,c1,c2,c3,c4⟩:=HC.out w7 HBx.out
       go_upto_region 14 with (first
        |((with_reducible refine yb0 (o:=⟨some 68,_,_,_,_,_⟩) rfl (.tmp 67) rfl pk rfl ?_);intro cb W8 aR aX aO;(have HBx:Hid (Below (w.heap.size+2) M W8):=HBx.out.trans (Below.mono aO.out (HS.out▸HBx.out.size)));(have bg:=lh (bf.out W8 _ cb HBx.out aR.out aX.out));clear aR aX aO)
        |(go_at_call 151;(with_reducible refine bg.out.mono ?_);rintro e w9 ⟨rfl,aL⟩;(have HBx:Hid (Below (w.heap.size+2) M w9):=HBx.out.trans (Below.mono aL (HS.out▸HBx.out.size)));(obtain ⟨c0,c1,c2,c3,c4⟩:=HC.out w9 HBx.out);clear aL))
       have HCL:Hid (clF L ix qs=clF L (ix / 2 ^ 0) (qs.drop 0)):=by show _=_;rw [Nat.pow_zero,Nat.div_one,List.drop_zero]
       have aV:=HBx
       go_loopw [12,73] (fun v i wr=>∃(m:Nat) (T:ByteArray),m<=k/\i= .int .i64 m/\v= .string T/\Hid (T.size=32)/\Hid (clF L ix qs=clF T (ix / 2 ^ m) (qs.drop m))/\Hid (Below (w.heap.size+2) M wr)) (fun _ i _=>k - (intOf i).toNat)
       case atStart=>exact ⟨0,L,by omega,rfl,rfl,a7,HCL,aV⟩
       case round=>
        clear HBx aV HCL c0 c1 c2 c3 c4;obtain ⟨m,T,bu,rfl,rfl,aH,HCL,HBr⟩:=hrel;obtain ⟨c0,c1,c2,c3,c4⟩:=HC.out wr HBr.out
        by_cases hml:m < k
        ·have bv:(m:Int) < (k:Int):=by omega
         have bz:(0:Int)<=(m:Int):=by omega
         obtain ⟨bq,oq,x,bc,_,ag,bm⟩:=(HQ.out wr HBr.out).1.2.at_ (k:=m) ya4;have au:=aM.out x (List.mem_of_getElem? ag);subst bc;obtain ⟨t,ht⟩:=gx (ix / 2 ^ m);have aN:(ix:Int) / 2 ^ m=(t:Int):=by rw [<-ht];simp
         have az:t < 1024:=by rw [<-ht];exact Nat.lt_of_le_of_lt (Nat.div_le_self _ _) om
         have aS:=band_1 az
         have aa:Hid (clF L ix qs=clF (if t % 2=0 then ndS T x else ndS x T) (ix / 2 ^ (m+1)) (qs.drop (m+1))):=by
          show _=_;rw [HCL.out,ht,List.drop_eq_getElem_cons ya4]
          have hx:qs[m]' ya4=x:=by
           have:=List.getElem?_eq_getElem (l:=qs) (i:=m) ya4;rw [ag] at this;exact (Option.some.inj this).symm
          rw [hx,clF,Nat.pow_succ,<-Nat.div_div_eq_div_mul,ht]
         have bn:Hid (Calls prog 168 #[.string T,.string x] wr fun e G=>e= .returned (.string (ndS T x))/\Below wr.heap.size wr G):=ycO T x wr (aF.out wr HBr.out) (by rw [aH.out];omega) (by rw [au];omega);have be:Hid (Calls prog 168 #[.string x,.string T] wr fun e G=>e= .returned (.string (ndS x T))/\Below wr.heap.size wr G):=ycO x T wr (aF.out wr HBr.out) (by rw [au];omega) (by rw [aH.out];omega);have a5:t % 2=0∨t % 2=1:=by omega
         have aB:Hid (m+1<=k):=hml;clear ag au ht az;rcases a5 with hp |hp
         ·rw [hp] at aS;rw [hp,if_pos rfl] at aa;clear hp;go_wp2_with (go_at_call 168;(with_reducible refine bn.out.mono ?_);rintro e aG ⟨rfl,ac⟩;(have ar:Hid (Below (w.heap.size+2) M aG):=HBr.out.trans (Below.mono ac (HS.out▸HBr.out.size)));clear ac);refine ⟨?rel,?measure⟩;case rel=>exact ⟨m+1,_,aB.out,by go_num,rfl,yc1 _ _,aa,ar⟩
          case measure=>(have:=aB.out;clear aN;simp [intOf]<;>omega)
         ·rw [hp] at aS;rw [hp,if_neg de] at aa;clear hp;go_wp2_with (go_at_call 168;(with_reducible refine be.out.mono ?_);rintro e aG ⟨rfl,ac⟩;(have ar:Hid (Below (w.heap.size+2) M aG):=HBr.out.trans (Below.mono ac (HS.out▸HBr.out.size)));clear ac);refine ⟨?rel,?measure⟩;case rel=>exact ⟨m+1,_,aB.out,by go_num,rfl,yc1 _ _,aa,ar⟩
          case measure=>(have:=aB.out;clear aN;simp [intOf]<;>omega)
        ·obtain rfl:m=k:=by omega
         have HE:Hid (clF L ix qs=T):=by show _=_;rw [HCL.out,List.drop_eq_nil_of_le (by rw [HQL.out];exact Nat.le_refl _)];rfl
         go_wp2;go_ret2;exact ⟨_,_,rfl,Or.inl ⟨rfl,ae.out,by rw [aQ.out,HE.out]⟩,HB.out.trans (HBr.out.mono (Nat.le_add_right _ 2))⟩
      ·
       have ae:Hid (sgF b H ix N k=false):=by show _=_;rw [HF.out,decide_eq_false hT]
       have bk:=lh (aK.out hT);clear hT HF aK aw;go_wp2_with fail;refine rH (S:=(fun G=>G.cell? ⟨w.heap.size,0,none⟩=some (.int .i64 b)/\G.cell? ⟨w.heap.size,1,none⟩=some (.int .i64 (H:Int))/\G.cell? ⟨w.heap.size+1,0,none⟩=some (.int .i64 (ix:Int))/\G.cell? ⟨w.heap.size+1,1,none⟩=some (.slice Y N Z)/\G.cell? ⟨w.heap.size+1,2,none⟩=some (.slice Aq k cq))) ya9 yam (fun O=>?_);refine tkY 0 ?_;refine tkY 2 ?_;refine tkY 3 ?_;refine tkY 4 ?_;refine rd1 1 (fun K J=>?_)
       (go_simp;go_at_call 204;(with_reducible refine (a1.out _).mono ?_);rintro e w6 ⟨rfl,ak⟩;(have HBx:Hid (Below (w.heap.size+2) M w6):=Below.trans (B:=w.heap.size+2) yaH (Below.mono ak (HS.out▸HBy.out.size)));clear ak;go_wp2_with fail)
       refine J.out _ _ yam (fun aC=>?_);clear J K O
       try simp only [pt]
       refine rd1 5 (fun K J=>?_)
       (go_simp;go_at_call 203;(with_reducible refine (bk.out _).mono ?_);rintro e w7 ⟨rfl,ai⟩;(have HBx:Hid (Below (w.heap.size+2) M w7):=HBx.out.trans (Below.mono ai (HS.out▸HBx.out.size)));clear ai;go_wp2_with fail)
       refine J.out _ _ yam (fun a8=>?_);clear J K aC
       try simp only [pt]
       (iterate 5 refine tkA ?_)
       refine wpAnyH_done ya9 ?_ _;go_wp2_with fail;go_ret2;exact ⟨_,_,rfl,Or.inr ⟨rfl,ae.out⟩,HB.out.trans (HBx.out.mono (Nat.le_add_right _ 2))⟩
   ·
    have ae:Hid (sgF b H ix N nq=false):=by show _=_;rw [HF.out,show decide ((nq:Int)=(H:Int))=false by simp;omega];rfl
    have aW:((nq:Int) != (H:Int))=true:=by simp;omega
    obtain ⟨c0,c1,c2,c3,c4⟩:=HC.out M HB1.out;clear hp hq ah aj z HF hlt ay;go_enter func152,ntmps152;go_upto_region 1 with fail
    rw [<-HWE.out];go_wp2_with fail;refine rH (S:=(fun G=>G.cell? ⟨w.heap.size,0,none⟩=some (.int .i64 b)/\G.cell? ⟨w.heap.size,1,none⟩=some (.int .i64 (H:Int))/\G.cell? ⟨w.heap.size+1,0,none⟩=some (.int .i64 (ix:Int))/\G.cell? ⟨w.heap.size+1,1,none⟩=some (.slice Y N Z)/\G.cell? ⟨w.heap.size+1,2,none⟩=some (.slice Aq nq cq))) ya9 yam (fun O=>?_);refine tkY 0 ?_;refine rd1 1 (fun K J=>?_)
    (go_simp;go_at_call 201;(with_reducible refine (HV.out _).mono ?_);rintro e w4 ⟨rfl,U⟩;(have HBx:Hid (Below (w.heap.size+2) M w4):=Below.trans (B:=w.heap.size+2) yaG (Below.mono U (Nat.le_of_eq HS.out.symm)));clear U;go_wp2_with fail)
    refine J.out _ _ yam (fun ap=>?_);clear J K O
    try simp only [pt]
    (iterate 3 refine tkA ?_)
    refine rd1 5 (fun K J=>?_)
    (go_simp;go_at_call 202;(with_reducible refine (HI.out _).mono ?_);rintro e w5 ⟨rfl,rfl⟩;go_wp2_with fail)
    refine J.out _ _ yam (fun a2=>?_);clear J K ap
    try simp only [pt]
    (iterate 23 refine tkA ?_)
    refine wpAnyH_done ya9 ?_ _;go_wp2_with fail;go_ret2;exact ⟨_,_,rfl,Or.inr ⟨rfl,ae.out⟩,HB.out.trans (HBx.out.mono (Nat.le_add_right _ 2))⟩
  ·
   have ae:Hid (sgF b H ix N nq=false):=by show _=_;rw [HF.out,decide_eq_false hlt];rfl
   obtain ⟨c0,c1,c2,c3,c4⟩:=HC.out M HB1.out;have aT:decide (P<=ix)=true:=by simp;omega
   have a0:decide ((P:Int)<=(ix:Int))=true:=by simp;omega
   clear hp hq ah aj z HF hlt;go_enter func152,ntmps152;go_upto_region 1 with fail
   rw [<-HWE.out];go_wp2_with fail;refine rH (S:=(fun G=>G.cell? ⟨w.heap.size,0,none⟩=some (.int .i64 b)/\G.cell? ⟨w.heap.size,1,none⟩=some (.int .i64 (H:Int))/\G.cell? ⟨w.heap.size+1,0,none⟩=some (.int .i64 (ix:Int))/\G.cell? ⟨w.heap.size+1,1,none⟩=some (.slice Y N Z)/\G.cell? ⟨w.heap.size+1,2,none⟩=some (.slice Aq nq cq))) ya9 yam (fun O=>?_);refine tkY 0 ?_;refine rd1 1 (fun K J=>?_)
   (go_simp;go_at_call 201;(with_reducible refine (HV.out _).mono ?_);rintro e w4 ⟨rfl,U⟩;(have HBx:Hid (Below (w.heap.size+2) M w4):=Below.trans (B:=w.heap.size+2) yaG (Below.mono U (Nat.le_of_eq HS.out.symm)));clear U;go_wp2_with fail)
   refine J.out _ _ yam (fun aq=>?_);clear J K O
   try simp only [pt]
   (iterate 3 refine tkA ?_)
   refine rd1 5 (fun K J=>?_)
   (go_simp;go_at_call 202;(with_reducible refine (HI.out _).mono ?_);rintro e w5 ⟨rfl,rfl⟩;go_wp2_with fail)
   refine J.out _ _ yam (fun a6=>?_);clear J K aq
   try simp only [pt]
   (iterate 16 refine tkA ?_)
   refine tkN 22 ?_;refine tkN 23 ?_;refine tkN 24 ?_;refine tkN 25 ?_;refine tkN 26 ?_;refine tkN 27 ?_;refine tkY 28 ?_;refine wpAnyH_done ya9 ?_ _;go_wp2_with fail;go_ret2;exact ⟨_,_,rfl,Or.inr ⟨rfl,ae.out⟩,HB.out.trans (HBx.out.mono (Nat.le_add_right _ 2))⟩
