import Derived.Test.YtpdledjgbgalcaaGreatDoorQ5
import Derived.Deep.OwnRows
import Derived.Test.YtpdledjgbgalcaaGreatDoorPm
import Derived.Test.YtpdledjgbgalcaaGreatDoorPj
namespace Go.Proofs.YtpdledjgbgalcaaGreatDoor
set_option maxRecDepth 100000
set_option maxHeartbeats 8000000
open Go.RowKit Go.Lib Go.Proofs.Tryz
set_option linter.unusedVariables false
set_option linter.unusedSimpArgs false
theorem ydK (g:Nat) (A:Option Addr) (n c:Nat) (bs:List Int) (s:RS) (w:World) (hr:RdS g A n c bs s w) (hk:RK bs n c) (hp:s.1<=n):
 Calls prog 218 #[.pointer (some ⟨g,0,none⟩)] w (RPost g A n c bs (.int .i64 (rN 0 1099511627776 bs s).1) (rN 0 1099511627776 bs s).2 w):=by
 have HC:=lh (ru2_any g A n c bs s w hr hk hp);have M:=ycX bs s;have G:=rU_bad (bs:=bs) (s:=s);have aa:Hid (g < w.heap.size):=hr.lt;unfold rN;obtain ⟨z,N,hz⟩:∃z N,rU bs s=(z,N):=⟨_,_,rfl⟩
 rw [hz] at HC M G ⊢;dsimp only at M G;clear hr hz hk hp
 by_cases L:s.2=0/\N.2=0
 ·obtain ⟨h1,h2⟩:=L;rw [if_pos ⟨h1,h2⟩]
  have J:Hid (Calls prog 82 #[.pointer (some ⟨g,0,none⟩)] w fun e H=>e= .returned (.int .u64 z)/\Rd H g A n c N.1 (s.1:Int) 0/\Sl fB H g A n bs/\But (fun k=>k=g) w H):=HC.out.mono (fun e H ⟨T,⟨pv,O,U⟩,k4,k5⟩=>by
   rw [U h1] at O
   exact ⟨T,(by rw [<-h2];exact O),k4,k5⟩)
  obtain ⟨q,q2⟩:=N;obtain ⟨p,p2⟩:=s;dsimp only at h1 h2 J G;subst h1;subst h2;clear HC G
  have Y:Hid (∀w1,Rd w1 g A n c q (p:Int) 0/\Sl fB w1 g A n bs/\But (fun k=>k=g) w w1->Calls prog 210 #[.pointer (some ⟨g,0,none⟩)] w1 fun e H=>e= .returned (.tuple #[])/\RdS g A n c bs (p,3) H/\But (fun k=>k=g) w H):=fun w1 ⟨T,O,U⟩=>
   (fail_ok g A n c q p w1 T).mono (fun e H ⟨j1,j2,Z⟩=>⟨j1,⟨⟨_,j2⟩,O.butg Z (lT (Nat.le_of_lt aa.out) U.size)⟩,U.trans Z (fun i hi=> .inl hi)⟩)
  by_cases ac:(1099511627776:Int) < z
  ·rw [if_neg (fun h=>by have h2:z<=1099511627776:=h.2;omega)];go_enter func218,ntmps218
   go_wp2_with (first
    |(go_at_call 82;(with_reducible refine J.out.mono ?_);rintro e w1 ⟨rfl,k⟩;have K:=lh k;clear k)
    |(go_at_call 210;(with_reducible refine (Y.out _ K.out).mono ?_);rintro e w2 ⟨rfl,k⟩;have K2:=lh k;clear k))
   go_ret;exact ⟨rfl,K2.out.1,K2.out.2⟩
  ·rw [if_pos ⟨M,by show z<=1099511627776;omega⟩];clear Y;go_enter func218,ntmps218
   go_wp2_with (first
    |(go_at_call 82;(with_reducible refine J.out.mono ?_);rintro e w1 ⟨rfl,k⟩;have K:=lh k;clear k))
   go_ret;exact ⟨by first |rfl |exact ycQ (show wrap64 z=z by unfold wrap64;omega),⟨⟨_,K.out.1⟩,K.out.2.1⟩,K.out.2.2⟩
 ·rw [if_neg L];obtain ⟨W,he⟩:=G L;have J:Hid (Calls prog 82 #[.pointer (some ⟨g,0,none⟩)] w fun e H=>e= .returned (.int .u64 0)/\RdS g A n c bs N H/\But (fun k=>k=g) w H):=HC.out.mono (fun e H ⟨T,⟨pv,O,U⟩,k4,k5⟩=>⟨by rw [T,W],⟨⟨pv,O⟩,k4⟩,k5⟩);clear HC G L W he M;go_enter func218,ntmps218
  go_wp2_with (first
   |(go_at_call 82;(with_reducible refine J.out.mono ?_);rintro e w1 ⟨rfl,k⟩;have K:=lh k;clear k))
  go_ret;exact ⟨rfl,K.out.1,K.out.2⟩
def rL (bs:List Int) (m:Nat) (s:RS):List ByteArray × RS:=rSums bs (rC bs m s).1.toNat (rC bs m s).2
theorem rL_le {bs:List Int} {m n:Nat} {s:RS} (hl:bs.length=n) (h:s.1<=n):(rL bs m s).2.1<=n:=ydG hl _ (rC_le hl h)
def RLPost (g:Nat) (A:Option Addr) (n c:Nat) (bs:List Int) (ys:List ByteArray) (s:RS) (w:World) (e:Ending) (w':World):Prop:=
 ∃A5 k5 c5,e= .returned (.slice A5 k5 c5)/\Own fT 9 w' w.heap.size (.slice A5 k5 c5) ys/\RdS g A n c bs s w'/\But (fun k=>k=g) w w'
theorem own_of_row {w:World} {b base:Nat} {cs:Array Value} {ys:List ByteArray} {n:Nat} (H:w.heap[b]? =some (.cells cs 9 (0,0))) (G:cs.toList=ys.map fT) (hn:ys.length=n) (K:base<=b) (J:n<=maxLen):Own fT 9 w base (.slice (some ⟨b,0,none⟩) n n) ys:=by
 have hs:cs.size=n:=by rw [<-Array.length_toList,G,List.length_map,hn]
 refine ⟨by simp,.inr ⟨b,n,cs,by rw [hn],K,H,by rw [hn];exact Nat.le_refl _,J,by rw [hs,Nat.mul_one],?_⟩⟩;rw [G,Nat.mul_one,List.take_of_length_le (by rw [List.length_map];exact Nat.le_refl _)]
theorem set_mid (ys:List ByteArray) (x:ByteArray) (m:Nat):(((ys++List.replicate (m+1) baNo).map fT).set ys.length (.string x))=((ys++[x])++List.replicate m baNo).map fT:=by
 rw [List.map_append,List.set_append_right _ _ (by rw [List.length_map];exact Nat.le_refl _),List.length_map,Nat.sub_self,List.replicate_succ,List.map_cons,List.set_cons_zero,List.append_assoc,List.map_append,List.map_append];rfl
theorem rl_any (g:Nat) (A:Option Addr) (n c:Nat) (bs:List Int) (s:RS) (m:Nat) (hm:m<=1000) (w:World) (hr:RdS g A n c bs s w) (U:RK bs n c) (hp:s.1<=n):
 Calls prog 219 #[.pointer (some ⟨g,0,none⟩),.int .i64 m] w (RLPost g A n c bs (rL bs m s).1 (rL bs m s).2 w):=by
 have hl:=hr.len;have aj:=hr.lt;have HC:=lh (rc_any g A n c bs s m om w hr U hp);have N:=rC_le (m:=m) hl hp;have M:=ycL (bs:=bs) (m:=m) (s:=s);unfold rL;obtain ⟨z,G,hz⟩:∃z s',rC bs m s=(z,s'):=⟨_,_,rfl⟩
 rw [hz] at HC N M ⊢;obtain ⟨k,rfl⟩:∃k:Nat,z=k:=⟨z.toNat,by have:=M.1;dsimp only at this;omega⟩
 have ax:k<=1000:=by have h:=M.2;dsimp only at h;omega
 dsimp only;rw [Int.toNat_natCast];have HS:Hid (∀j W,RdS g A n c bs (rSums bs j G).2 W->Calls prog 172 #[.pointer (some ⟨g,0,none⟩)] W (RPost g A n c bs (.string (rS bs (rSums bs j G).2).1) (rS bs (rSums bs j G).2).2 W)):=fun j W h=>rs_any g A n c bs _ W h U (ydG hl j N);have HGL:=lh aj;obtain ⟨i0,hi,aa,ae,ag⟩:=info_parts Tryz.infoS;have HI:=lh hi;have aq:=lh aa;have ar:=lh ae;have ao:=lh ag;clear hr U hz hp hl N M hi aa ae ag aj hm;go_enter func219,ntmps219
 go_wp2_with (first
  |(go_at_call 141;(with_reducible refine HC.out.mono ?_);rintro e w1 ⟨rfl,r1,b1⟩
    have R1:=lh r1;have B1:=lh b1
    clear r1 b1)
  |(at_make;(refine wpList_make_row w1 (o:=⟨some 10,_,_,_,_,_⟩) rfl (.tmp 9) (.tmp 9) 24 rfl 9 i0 (.string ⟨#[]⟩) underlying24 HI.out aq.out ar.out rfl .i64 .i64 k rfl rfl (by rw [ao.out];omega) om ?_)))
 obtain ⟨b,O⟩:∃b,b=w1.heap.size:=⟨_,rfl⟩
 obtain ⟨Y,L⟩:∃W:World,W=w1.alloc (.cells (madeCells #[.string ⟨#[]⟩] k) 9):=⟨_,rfl⟩
 have K:Below w1.heap.size w1 Y:=by rw [L];exact bl
 have R2:=lh (R1.out.on K);have B2:Hid (But (fun k=>k=g) w Y):=B1.out.trans (But.of_below (p:=fun k=>k=g) K) (fun i hi=> .inl hi)
 have T:∃cs,Y.heap[b]? =some (.cells cs 9 (0,0))/\cs.toList=((rSums bs 0 G).1++List.replicate k baNo).map fT:=⟨_,by rw [L,O];exact zy w1 _,by
  apply List.ext_getElem?;intro j;rw [Array.getElem?_toList];have hs:(madeCells #[Value.string ⟨#[]⟩] k).size=k:=by simp [madeCells]
  by_cases hj:j < k
  ·rw [Array.getElem?_eq_getElem om];simp [madeCells,rSums,hj,Nat.mod_one,baNo]
  ·rw [Array.getElem?_eq_none om,List.getElem?_eq_none (by simp [rSums];omega)]⟩
 have ak:=lh T;have ah:Hid (g < b):=by show _ < _;rw [O];exact R1.out.lt
 have ac:Hid (w.heap.size<=b):=by show _<=_;rw [O];exact B1.out.size
 rw [<-L,<-O];clear O L K T HC R1 B1
 go_loopw [13] (fun i wr=>∃(j:Nat),j<=k/\i= .int .i64 j/\Hid (RdS g A n c bs (rSums bs j G).2 wr)/\Hid (But (fun k=>k=g∨k=b) Y wr)/\Hid (∃cs,wr.heap[b]? =some (.cells cs 9 (0,0))/\cs.toList=((rSums bs j G).1++List.replicate (k - j) baNo).map fT)) (fun i _=>k - (intOf i).toNat)
 case atStart=>exact ⟨0,by omega,rfl,R2,But.refl _ _,ak⟩
 case round=>
  obtain ⟨j,hj,rfl,R,B,ai⟩:=hrel
  by_cases hlt:j < k
  ·have ay:(j:Int) < (k:Int):=by omega
   have az:(0:Int)<=(j:Int):=by omega
   have HC:=lh (HS.out j wr R.out);obtain ⟨x,hx⟩:∃x,x=(rS bs (rSums bs j G).2).1:=⟨_,rfl⟩
   rw [<-hx] at HC;have af:Hid (rSums bs (j+1) G=((rSums bs j G).1++[x],(rS bs (rSums bs j G).2).2)):=by show _=_;rw [hx];rfl
   clear hx
   go_wp2_with (first
    |(go_at_call 172;(with_reducible refine HC.out.mono ?_);rintro e w3 ⟨rfl,r3,b3⟩
      have au:∃cs,w3.heap[b]? =some (.cells cs 9 (0,0))/\cs.toList=((rSums bs j G).1++List.replicate (k - j) baNo).map fT:=by
       obtain ⟨cs,H,J⟩:=ai.out;exact ⟨cs,(b3.block b (lb H) (by have:=ah.out;omega)).trans H,J⟩
      obtain ⟨cs,H,J⟩:=au
      have ap:cs.size=k:=by
       rw [<-Array.length_toList,J,List.length_map,List.length_append,ycl,List.length_replicate];omega
      obtain ⟨u,hu⟩:∃u,cs[j]? =some u:=⟨_,Array.getElem?_eq_getElem om⟩
      have aA:w3.cell? ⟨b,j,none⟩=some u:=by rw [cell_of_row w3 b j _ _ _ H];exact hu
      have aw:=frozen_of_row w3 b j _ _ H;have R3:=lh r3;have B3:=lh b3;have Q1:=lh H;have Q2:=lh J
      clear r3 b3 H J ap hu))
   refine ⟨?rel,?measure⟩
   case rel=>
    have am:=heap_setCell_same w3 b j _ _ (.string x) Q1.out;have Z:But (fun k=>k=b) w3 (w3.setCell ⟨b,j,none⟩ (.string x)):=But.setCell (p:=fun k=>k=b) (x:=⟨b,j,none⟩) (But.refl _ _) (.inl rfl) _;refine ⟨j+1,by omega,by go_num,?_,?_,?_⟩
    ·rw [af.out];exact R3.out.but Z (fun k U e=>by have:=ah.out;omega)
    ·exact (B.out.trans B3.out (fun i hi=> .inl (.inl hi))).trans Z (fun i hi=> .inl (.inr hi))
    ·rw [af.out];refine ⟨_,am,?_⟩;rw [Array.toList_setIfInBounds,Q2.out,show k - j=(k - (j+1))+1 by omega];have al:=ycl bs j G;have:=set_mid (rSums bs j G).1 x (k - (j+1));rw [al] at this;exact this
   case measure=>simp [intOf];omega
  ·obtain rfl:j=k:=by omega
   go_wp2;go_ret;obtain ⟨cs,H,J⟩:=ai.out;rw [Nat.sub_self,List.replicate_zero,List.append_nil] at J;exact ⟨_,_,_,rfl,own_of_row H J (ycl _ _ _) ac.out ybd,R.out,B2.out.trans B.out (fun i hi=>by rcases hi with rfl |rfl;exact .inl rfl;exact .inr ac.out)⟩
theorem row_sl {w:World} {b:Nat} {cs:Array Value} {ys:List ByteArray} {n:Nat} (G:w.heap[b]? =some (.cells cs 9 (0,0))) (H:cs.toList=ys.map fT) (hn:ys.length=n):Sl fT w w.heap.size (some ⟨b,0,none⟩) n ys:=by
 have h:cs=(ys.map fT).toArray:=by rw [<-H]
 rw [h] at G;exact ⟨hn,SL.of_block G (lb G)⟩
theorem recover_no (b:Int) (β:Nat) (N:BitN b β) (s:ByteArray) (hs:s.size=32) (A:Option Addr) (n c:Nat) (w:World) (hn:n≠mN β+cN β):
 Calls prog 203 #[.agg (cPm b),.string s,.slice A n c] w fun e z=>e= .returned (.tuple #[.string ⟨#[]⟩,.int .i64 1])/\Below w.heap.size w z:=by
 have HD:=lh (fun W=>digits_any b β N s hs W);obtain ⟨T,J,aa,ae,U⟩:=bit_T N;have Z:Hid ((dgF β (sB s)).length=T):=by show _=_;rw [dgF_len,J]
 rw [J] at hn;have ac:((n:Int) != (T:Int))=true:=by simp;omega
 have HB:Hid (Below w.heap.size w (w.alloc (.cells (cPm b) 268))):=bl;obtain ⟨H,G⟩:∃H:World,H=w.alloc (.cells (cPm b) 268):=⟨_,rfl⟩
 have L:H.heap.size=w.heap.size+1:=by rw [G];simp
 have K:H.heap[w.heap.size]? =some (.cells (cPm b) 268 (0,0)):=by rw [G];exact zy w _
 have HC:Hid (∀V,Below (w.heap.size+1) H V->V.cell? ⟨w.heap.size,0,none⟩=some (.int .i64 b)/\V.cell? ⟨w.heap.size,1,none⟩=some (.int .i64 32)):=fun V hv=>by
  have q:=(hv.block w.heap.size (Nat.lt_succ_self _)).trans K;refine ⟨?_,?_⟩<;>(rw [cell_of_row V _ _ _ _ _ q];rfl)
 rw [<-G] at HB;have HS:=lh L;have HWE:=lh G;have HB1:Hid (Below (w.heap.size+1) H H):=Below.refl _ _;clear K L G;obtain ⟨c0,c1⟩:=HC.out H HB1.out;clear N hs hn J U;go_enter func203,ntmps203;go_upto_region 1 with fail
 rw [<-HWE.out];go_wp2_with (go_at_call 243;(with_reducible refine (HD.out _).mono ?_);rintro e w2 ⟨v2,rfl,O,M⟩;(have Y:=lh (HB1.out.trans (M.mono (Nat.le_of_eq HS.out.symm))));(obtain ⟨A2,c2,rfl,_,_,_⟩:=O.shape);(rw [Z.out]);clear O M);go_ret2;exact ⟨rfl,HB.out.trans (Y.out.mono (Nat.le_succ _))⟩
theorem recover_any (b:Int) (β:Nat) (hb:BitN b β) (s:ByteArray) (hs:s.size=32) (A:Option Addr) (n c B:Nat) (ps:List ByteArray) (w:World) (hG:Glob w) (hp:Sl fT w B A n ps) (hB:B<=w.heap.size) (hn:n=mN β+cN β) (ap:∀s∈ps,s.size=32):
 Calls prog 203 #[.agg (cPm b),.string s,.slice A n c] w fun e U=>e= .returned (.tuple #[.string (pubF β (dgF β (sB s)) ps),.int .i64 0])/\Below w.heap.size w U:=by
 obtain ⟨i0,hi,aJ,aW,aR⟩:=info_parts Tryz.infoS;have HI:=lh hi;have bo:=lh aJ;have bq:=lh aW;have a7:=lh aR;have HG:=lh hG;have HD:=lh (fun W=>digits_any b β hb s hs W);obtain ⟨T,bk,a3,a4,bm⟩:=bit_T hb;obtain ⟨M,aE,bE,bx,a2,aK,aX⟩:=bit_M hb;have HL:=lh (fun W=>olast_any b β hb W);rw [aK] at HL;have aQ:((2:Int) ^ β)=((2 ^ β:Nat):Int):=by simp
 have ay:Hid (∀d∈dgF β (sB s),0<=d/\d<=(M:Int)):=fun d h=>by
  have:=dgF_rng β (sB s) d h;rw [aQ,aX] at this;omega
 have br:=lh aE;obtain ⟨H,au⟩:=gX (dgF β (sB s));have aM:H.length=n:=by rw [<-au,dgF_len,hn]
 rw [au] at HD ay ⊢;have ai:=lh aM;have be:=lh ap;have ar:ps.length=n:=hp.1;have a9:=lh ar;have bz:n<=265:=by omega
 have a1:1<=n:=by omega
 have HV:Hid (pubF β H ps=baOf (shaB (pbL++jnL (endsF β H ps n)))):=by
  show _=_;unfold pubF;rw [pbL_eq,ar]
 have bj:Hid (∀z∈endsF β H ps n,z.size=32):=ydT β H ps ap n om;rw [HV.out];have HB:Hid (Below w.heap.size w (w.alloc (.cells (cPm b) 268))):=bl;obtain ⟨J,Z⟩:∃J:World,J=w.alloc (.cells (cPm b) 268):=⟨_,rfl⟩
 have aF:J.heap.size=w.heap.size+1:=by rw [Z];simp
 have aV:J.heap[w.heap.size]? =some (.cells (cPm b) 268 (0,0)):=by rw [Z];exact zy w _
 have HC:Hid (∀V,Below (w.heap.size+1) J V->V.cell? ⟨w.heap.size,0,none⟩=some (.int .i64 b)/\V.cell? ⟨w.heap.size,1,none⟩=some (.int .i64 32)):=fun V O=>by
  have q:=(O.block w.heap.size (Nat.lt_succ_self _)).trans aV;refine ⟨?_,?_⟩<;>(rw [cell_of_row V _ _ _ _ _ q];rfl)
 rw [<-Z] at HB;have HS:=lh aF;have HWE:=lh Z;have HB1:Hid (Below (w.heap.size+1) J J):=Below.refl _ _;clear aV aF Z;have HP:Hid (∀V,Below (w.heap.size+1) J V->Sl fT V B A n ps):=fun V O=>(hp.up HB.out hB).up O (Nat.le_succ_of_le hB);have bB:B<=w.heap.size:=hB;obtain ⟨c0,c1⟩:=HC.out J HB1.out;have bF:((n:Int) != (n:Int))=false:=by simp
 clear hi aJ aW aR hG hb hs hn bk bm aE a2 aK aX aQ au aM ap ar hp a3 a4;go_enter func203,ntmps203;go_upto_region 1 with fail
 rw [<-HWE.out]
 go_upto_region 6 with (first
  |(go_at_call 243;(with_reducible refine (HD.out _).mono ?_);rintro e w2 ⟨v2,rfl,ho,aL⟩;(have ao:=lh (HB1.out.trans (aL.mono (Nat.le_of_eq HS.out.symm))));(obtain ⟨A2,c2,rfl,_,aG,_⟩:=ho.shape);(rw [ai.out]);(have aU:Hid (Sl I w2 w2.heap.size A2 n H):=⟨ai.out,aG⟩);clear ho aL aG)
  |(at_make;(refine wpList_make_row w2 (o:=⟨some 30,_,_,_,_,_⟩) rfl (.tmp 29) (.tmp 29) 24 rfl 9 i0 (.string ⟨#[]⟩) underlying24 HI.out bo.out bq.out rfl .i64 .i64 n rfl rfl (by rw [a7.out];omega) om ?_)))
 obtain ⟨G,N⟩:∃b,b=w2.heap.size:=⟨_,rfl⟩
 obtain ⟨W3,ac⟩:∃W:World,W=w2.alloc (.cells (madeCells #[.string ⟨#[]⟩] n) 9):=⟨_,rfl⟩
 have ae:Below w2.heap.size w2 W3:=by rw [ac];exact bl
 have aZ:W3.heap.size=G+1:=by rw [ac,N];simp
 have ag:w.heap.size+1<=G:=by rw [N];exact HS.out▸ao.out.size
 have al:Below (w.heap.size+1) J W3:=ao.out.trans (ae.mono (N▸ag));have bC:=lh al
 have ah:Hid (∀V,Below G W3 V->V.cell? ⟨w.heap.size,0,none⟩=some (.int .i64 b)/\V.cell? ⟨w.heap.size,1,none⟩=some (.int .i64 32)/\Sl I V G A2 n H/\Sl fT V B A n ps/\Below (w.heap.size+1) J V):=fun V O=>by
  have hw:Below (w.heap.size+1) J V:=al.trans (O.mono ag);obtain ⟨k0,k1⟩:=HC.out V hw;have L:=(aU.out.up ae nl);rw [<-N] at L;exact ⟨k0,k1,L.up O nl,HP.out V hw,hw⟩
 have ax:∃cs,W3.heap[G]? =some (.cells cs 9 (0,0))/\cs.toList=(endsF β H ps 0++List.replicate n baNo).map fT:=⟨_,by rw [ac,N];exact zy w2 _,by
  apply List.ext_getElem?;intro j;rw [Array.getElem?_toList];have hs:(madeCells #[Value.string ⟨#[]⟩] n).size=n:=by simp [madeCells]
  by_cases hj:j < n
  ·rw [Array.getElem?_eq_getElem om];simp [madeCells,endsF,hj,Nat.mod_one,baNo]
  ·rw [Array.getElem?_eq_none om,List.getElem?_eq_none (by simp [endsF];omega)]⟩
 have aw:=lh ax;have HBW:Hid (Below G W3 W3):=Below.refl _ _;have bw:=lh ag;have aA:Hid (G < W3.heap.size):=by show _ < _;omega
 rw [<-ac,<-N];clear N ac ae ax aU ao al aZ c0 c1 HP HC HB1 ag
 go_loopw [33] (fun i wr=>∃(k:Nat),k<=n/\i= .int .i64 k/\Hid (Below G W3 wr)/\Hid (∃cs,wr.heap[G]? =some (.cells cs 9 (0,0))/\cs.toList=(endsF β H ps k++List.replicate (n - k) baNo).map fT)) (fun i _=>n - (intOf i).toNat)
 case atStart=>exact ⟨0,by omega,rfl,HBW,aw⟩
 case round=>
  clear HBW aw;obtain ⟨k,hk,rfl,HBr,aT⟩:=hrel
  by_cases hlt:k < n
  ·have bD:(k:Int) < (n:Int):=by omega
   have bA:(0:Int)<=(k:Int):=by omega
   obtain ⟨c0,c1,L,aS,bf⟩:=ah.out wr HBr.out;obtain ⟨bd,od,dI,aH,_,Y,kd⟩:=L.2.at_ (k:=k) (by rw [ai.out];exact hlt);obtain ⟨bp,op,x,a5,_,aq,kp⟩:=aS.2.at_ (k:=k) (by rw [a9.out];exact hlt);obtain ⟨d,rfl⟩:∃d:Nat,dI=(d:Int):=⟨dI.toNat,by have:=(ay.out dI (List.mem_of_getElem? Y)).1;omega⟩
   have bh:d<=M:=by have:=(ay.out _ (List.mem_of_getElem? Y)).2;omega
   have az:x.size=32:=be.out x (List.mem_of_getElem? aq)
   have HK:Hid (∀V,Below G W3 V->V.cell? ⟨w.heap.size,0,none⟩=some (.int .i64 b)/\V.cell? ⟨w.heap.size,1,none⟩=some (.int .i64 32)/\V.cell? ⟨bd,od+k,none⟩=some (.int .i64 (d:Int))):=fun V O=>by
    obtain ⟨c0,c1,L,_,_⟩:=ah.out V O;obtain ⟨b2,o2,x2,e2,_,g2,k2⟩:=L.2.at_ (k:=k) (by rw [ai.out];exact hlt);rw [aH] at e2;cases e2
    rw [Y] at g2;cases g2
    exact ⟨c0,c1,k2⟩
   have aI:Hid (∀V,Below G W3 V->Calls prog 244 #[.int .i64 k,.int .i64 d,.int .i64 M,.string x] V fun e U=>e= .returned (.tuple #[.string (chF k d (M - d) x),.int .i64 0])/\Below V.heap.size V U):=fun V O=>chain_any k d M om bh om x az V (HG.out.on (HB.out.trans ((ah.out V O).2.2.2.2.mono (Nat.le_succ _))))
   have aP:Hid (endsF β H ps (k+1)=endsF β H ps k++[chF k d (M - d) x]):=by
    show _=_;rw [endsF_succ,ybA Y,ybA aq,br.out];rfl
   obtain ⟨cv,aN⟩:=gX (chF k d (M - d) x);rw [aN] at aI aP;have HBc:=HBr;subst aH;subst a5;clear L aS bf Y aq az aN;go_upto_region 8 with fail
   refine rH (S:=(fun U=>U.cell? ⟨w.heap.size,0,none⟩=some (.int .i64 b)/\U.cell? ⟨w.heap.size,1,none⟩=some (.int .i64 32)/\U.cell? ⟨bd,od+k,none⟩=some (.int .i64 (d:Int)))) ybi yap (fun aD=>?_)
   (iterate 8 refine tkA ?_)
   refine tkY 9 ?_;refine rd1 8 (fun K hK=>?_)
   (go_simp;go_at_call 245;(with_reducible refine (HL.out _).mono ?_);rintro e w4 ⟨rfl,aj⟩;(have bg:Hid (Below G wr w4):=Below.trans (B:=G) yaH (Below.mono aj (lT (Nat.le_of_lt aA.out) HBr.out.size)));(have HBc:Hid (Below G W3 w4):=HBr.out.trans bg.out);(have aO:w4.heap[G]? =wr.heap[G]? :=(Below.trans (B:=wr.heap.size) yaH aj).block G (Nat.lt_of_lt_of_le aA.out HBr.out.size));(have a0:=lh aO);(have HS4:Hid (G < w4.heap.size):=Nat.lt_of_lt_of_le (Nat.lt_of_lt_of_le aA.out HBr.out.size) aj.size);clear aj aO;go_wp2_with fail)
   refine hK.out _ _ yap (fun ak=>?_);clear hK K aD
   try simp only [pt]
   refine rd1 10 (fun K hK=>?_)
   (go_simp;go_at_call 244;(with_reducible refine (aI.out _ HBc.out).mono ?_);rintro e w5 ⟨rfl,aB⟩;(have aC:w5.heap[G]? =wr.heap[G]? :=(aB.block G HS4.out).trans a0.out);(have HBc:Hid (Below G W3 w5):=HBc.out.trans (aB.mono (Nat.le_of_lt HS4.out)));(obtain ⟨cs,q1,q2⟩:=aT.out);(rw [<-aC] at q1);(have bb:cs.size=n:=by rw [<-Array.length_toList,q2,List.length_map,List.length_append,yc2,List.length_replicate];omega);(obtain ⟨u,hu⟩:∃u,cs[k]? =some u:=⟨_,Array.getElem?_eq_getElem om⟩);(have bu:w5.cell? ⟨G,k,none⟩=some u:=by rw [cell_of_row w5 G k _ _ _ q1];exact hu);(have bi:=frozen_of_row w5 G k _ _ q1);(have Q1:=lh q1);(have Q2:=lh q2);(have HB6:Hid (Below G W3 (w5.setCell ⟨G,k,none⟩ (.string cv))):=HBc.out.setCell nl _);clear aB aC q1 q2 bb hu;go_wp2_with fail)
   refine hK.out _ _ yap (fun af=>?_);clear hK K ak
   try simp only [pt]
   (iterate 4 refine tkA ?_)
   refine rd1 15 (fun K hK=>?_);go_simp;refine hK.out _ _ yap (fun aY=>?_);clear hK K af
   try simp only [pt]
   refine tkY 16 ?_;refine wpAnyH_done ybi ?_ _;clear bu bi;go_wp2_with fail;refine ⟨?rel,?measure⟩
   case rel=>
    refine ⟨k+1,by omega,by go_num,HB6,?_⟩;rw [aP.out];refine ⟨_,heap_setCell_same w5 G k _ _ (.string cv) Q1.out,?_⟩;rw [Array.toList_setIfInBounds,Q2.out,show n - k=(n - (k+1))+1 by omega];have:=set_mid (endsF β H ps k) cv (n - (k+1));rw [yc2] at this;exact this
   case measure=>(simp [intOf]<;>omega)
  ·obtain rfl:k=n:=by omega
   obtain ⟨cs,q1,q2⟩:=aT.out;rw [Nat.sub_self,List.replicate_zero,List.append_nil] at q2;have aa:=(ah.out wr HBr.out).2.2.2.2;have am:=HB.out.trans (aa.mono (Nat.le_succ _))
   have a8:Hid (Calls prog 246 #[.slice (some ⟨G,0,none⟩) k k] wr fun e U=>e= .returned (.string (baOf (shaB (pbL++jnL (endsF β H ps k)))))/\Below wr.heap.size wr U):=
    pubkey_any _ k k wr.heap.size (endsF β H ps k) wr (HG.out.on am) (row_sl q1 q2 (yc2 _ _ _ _)) nl nl a1 om bj.out
   have a6:=lh am;clear q1 q2 aa am;go_wp2_with (go_at_call 246;(with_reducible refine a8.out.mono ?_);rintro e w6 ⟨rfl,aa⟩;(have HB6:=lh (bt a6.out aa));clear aa);go_ret2;exact ⟨rfl,HB6.out⟩
abbrev cSg (ix:Int) (Ap:Option Addr) (np cp:Nat) (Aq:Option Addr) (nq cq:Nat):Array Value:=#[.int .i64 ix,.slice Ap np cp,.slice Aq nq cq]
def sgF (b h:Int) (ix:Nat) (np nq:Nat):Bool:=sgOk b h&&(decide (ix < 2 ^ h.toNat)&&(decide ((nq:Int)=h)&&decide (np=mN b.toNat+cN b.toNat)))
def sgR (b:Int) (dg:ByteArray) (ix:Nat) (ps qs:List ByteArray):ByteArray:=clF (leafS (sB (pubF b.toNat (dgF b.toNat (sB dg)) ps))) ix qs
theorem sgOk_bit {b h:Int} (hv:sgOk b h=true):BitN b b.toNat/\0<=h/\h<=8:=by
 unfold sgOk at hv;have:=of_decide_eq_true hv;refine ⟨?_,this.2⟩;unfold BitN;omega
theorem sgis_any (x:ByteArray) (H:x.size=32) (w:World):Calls prog 202 #[.string x] w fun e G=>e= .returned (.bool true)/\w=G:=by
 have h1:((x.size:Int)==32)=true:=by simp [H]
 go_enter func202,ntmps202;go_wp2;go_ret;exact ⟨rfl,rfl⟩
theorem sgpar_any (b h:Int) (w:World):Calls prog 204 #[.agg (cSc b h)] w fun e G=>e= .returned (.agg (cPm b))/\Below w.heap.size w G:=by
 have HB:Hid (Below w.heap.size w (w.alloc (.cells (cSc b h) 26))):=bl;go_enter func204,ntmps204;go_wp2;exact bodyPost_ret (v:= .agg (cPm b)) (by simp [results,Tryz.results204,go_sem]) rfl ⟨rfl,HB.out.alloc HB.out.size _⟩
theorem sgroot_any (b h:Int) (dg:ByteArray) (aF:dg.size=32) (ix:Nat) (bv:ix < 256) (U Aq:Option Addr) (N nq Z cq B:Nat) (ps qs:List ByteArray) (w:World) (hG:Glob w) (hp:Sl fT w B U N ps) (hq:Sl fT w B Aq nq qs) (hB:B<=w.heap.size) (hn:N<=300) (hm:nq<=8) (ah:∀s∈ps,s.size=32) (aj:∀s∈qs,s.size=32):
 Calls prog 152 #[.agg (cSc b h),.string dg,.agg (cSg ix U N Z Aq nq cq)] w fun e G=>∃r er,e= .returned (.tuple #[.string r,.int .i64 er])/\(er=0/\sgF b h ix N nq=true/\r=sgR b dg ix ps qs∨er=1/\sgF b h ix N nq=false)/\Below w.heap.size w G:=by
 have HI:=lh (fun W=>sgis_any dg aF W);have HV:=lh (fun W=>sgvalid_any b h W);have HF:Hid (sgF b h ix N nq=(sgOk b h&&(decide (ix < 2 ^ h.toNat)&&(decide ((nq:Int)=h)&&decide (N=mN b.toNat+cN b.toNat))))):=rfl;obtain ⟨M,ag⟩:∃M:World,M=(w.alloc (.cells (cSc b h) 26)).alloc (.cells (cSg (ix:Int) U N Z Aq nq cq) 33):=⟨_,rfl⟩
 have aK:M.heap.size=w.heap.size+2:=by rw [ag];simp
 have aW:M.heap[w.heap.size]? =some (.cells (cSc b h) 26 (0,0)):=by
  rw [ag];exact (zx _ _ _ sI).trans (zy w _)
 have aI:M.heap[w.heap.size+1]? =some (.cells (cSg (ix:Int) U N Z Aq nq cq) 33 (0,0)):=by
  rw [ag];have:=zy (w.alloc (.cells (cSc b h) 26)) (.cells (cSg (ix:Int) U N Z Aq nq cq) 33);simpa using this
 have HC:Hid (∀V,Below (w.heap.size+2) M V->V.cell? ⟨w.heap.size,0,none⟩=some (.int .i64 b)/\V.cell? ⟨w.heap.size,1,none⟩=some (.int .i64 h)/\V.cell? ⟨w.heap.size+1,0,none⟩=some (.int .i64 (ix:Int))/\V.cell? ⟨w.heap.size+1,1,none⟩=some (.slice U N Z)/\V.cell? ⟨w.heap.size+1,2,none⟩=some (.slice Aq nq cq)):=fun V hv=>by
  have q:=(hv.block w.heap.size om).trans aW;have q2:=(hv.block (w.heap.size+1) om).trans aI;refine ⟨?_,?_,?_,?_,?_⟩
  ·rw [cell_of_row V _ _ _ _ _ q];rfl
  ·rw [cell_of_row V _ _ _ _ _ q];rfl
  ·rw [cell_of_row V _ _ _ _ _ q2];rfl
  ·rw [cell_of_row V _ _ _ _ _ q2];rfl
  ·rw [cell_of_row V _ _ _ _ _ q2];rfl
 have HB:Hid (Below w.heap.size w M):=by
  show Below ..
  rw [ag];exact bl.alloc sI _
 have HS:=lh aK;have HWE:=lh ag;have HB1:Hid (Below (w.heap.size+2) M M):=Below.refl _ _;clear aW aI aK ag
 cases z:sgOk b h with
 |false=>
  rw [z,Bool.false_and] at HF;rw [z] at HV;obtain ⟨c0,c1,c2,c3,c4⟩:=HC.out M HB1.out;clear hp hq ah aj z;go_enter func152,ntmps152;go_upto_region 1 with fail
  rw [<-HWE.out];go_wp2_with fail;refine rH (S:=(fun G=>G.cell? ⟨w.heap.size,0,none⟩=some (.int .i64 b)/\G.cell? ⟨w.heap.size,1,none⟩=some (.int .i64 h)/\G.cell? ⟨w.heap.size+1,0,none⟩=some (.int .i64 (ix:Int))/\G.cell? ⟨w.heap.size+1,1,none⟩=some (.slice U N Z)/\G.cell? ⟨w.heap.size+1,2,none⟩=some (.slice Aq nq cq))) ybi yam (fun O=>?_);refine tkY 0 ?_;refine rd1 1 (fun K J=>?_)
  (go_simp;go_at_call 201;(with_reducible refine (HV.out _).mono ?_);rintro e w4 ⟨rfl,Y⟩;(have HBx:Hid (Below (w.heap.size+2) M w4):=Below.trans (B:=w.heap.size+2) yaL (Below.mono Y (Nat.le_of_eq HS.out.symm)));clear Y;go_wp2_with fail)
  refine J.out _ _ yam (fun a4=>?_);clear J K O
  try simp only [pt]
  (iterate 2 refine tkA ?_)
  refine tkN 4 ?_;refine tkN 5 ?_;refine tkN 6 ?_
  (iterate 2 refine tkA ?_)
  refine tkN 9 ?_;refine tkN 10 ?_;refine tkN 11 ?_
  (iterate 2 refine tkA ?_)
  refine tkN 14 ?_;refine tkN 15 ?_;refine tkN 16 ?_;refine tkN 17 ?_;refine tkN 18 ?_;refine tkN 19 ?_
  (iterate 2 refine tkA ?_)
  refine tkN 22 ?_;refine tkN 23 ?_;refine tkN 24 ?_;refine tkN 25 ?_;refine tkN 26 ?_;refine tkN 27 ?_;refine tkY 28 ?_;refine wpAnyH_done ybi ?_ _;go_wp2_with fail;go_ret2;exact ⟨_,_,rfl,Or.inr ⟨rfl,HF.out⟩,HB.out.trans (HBx.out.mono (Nat.le_add_right _ 2))⟩
 |true=>
  obtain ⟨am,bB,bD⟩:=sgOk_bit z;rw [z,Bool.true_and] at HF;rw [z] at HV;obtain ⟨H,rfl⟩:∃H:Nat,h=(H:Int):=⟨h.toNat,by omega⟩
  rw [Int.toNat_natCast] at HF;have bk:H<=8:=by omega
  have bo:decide ((ix:Int) < 0)=false:=by simp
  obtain ⟨P,hP⟩:=gX (2 ^ H);have bu:P<=256:=by rw [<-hP];exact lT (Nat.pow_le_pow_right de bk) de
  have bp:IntKind.i64.wrap ((2:Int) ^ H)=(P:Int):=by
   rw [show ((2:Int) ^ H)=(P:Int) by rw [<-hP];simp];exact IntWalk.i64_in _ om
  rw [hP] at HF;have bw:=lh hP;clear hP
  by_cases hlt:ix < P
  ·have aV:decide (P<=ix)=false:=by simp;omega
   have aR:decide ((P:Int)<=(ix:Int))=false:=by simp;omega
   rw [decide_eq_true hlt,Bool.true_and] at HF
   by_cases ay:nq=H
   ·
    have aP:((nq:Int) != (H:Int))=false:=by simp [ay]
    rw [show decide ((nq:Int)=(H:Int))=true by simp [ay],Bool.true_and] at HF;have HQ:Hid (∀V,Below (w.heap.size+2) M V->Sl fT V B Aq nq qs/\Sl fT V B U N ps/\B<=V.heap.size):=fun V hv=>⟨(hq.up HB.out hB).up hv (lT hB (Nat.le_add_right _ 2)),(hp.up HB.out hB).up hv (lT hB (Nat.le_add_right _ 2)),Nat.le_trans (lT hB HB.out.size) (HS.out▸hv.size:M.heap.size<=V.heap.size)⟩;have HQL:Hid (qs.length=nq):=hq.1;have aY:=lh aj;have aJ:=lh (fun W=>sgpar_any b H W);obtain ⟨c0,c1,c2,c3,c4⟩:=HC.out M HB1.out;have aE:Hid (N≠mN b.toNat+cN b.toNat->∀V,Calls prog 203 #[.agg (cPm b),.string dg,.slice U N Z] V fun e G=>e= .returned (.tuple #[.string ⟨#[]⟩,.int .i64 1])/\Below V.heap.size V G):=fun a8 V=>recover_no b b.toNat am dg aF U N Z V a8;have aq:Hid (N=mN b.toNat+cN b.toNat->∀V,Below (w.heap.size+2) M V->Calls prog 203 #[.agg (cPm b),.string dg,.slice U N Z] V fun e G=>e= .returned (.tuple #[.string (pubF b.toNat (dgF b.toNat (sB dg)) ps),.int .i64 0])/\Below V.heap.size V G):=fun he V hv=>recover_any b b.toNat am dg aF U N Z B ps V (hG.on (HB.out.trans (hv.mono (Nat.le_add_right _ 2)))) (HQ.out V hv).2.1 (HQ.out V hv).2.2 he ah;have aC:Hid (∀V,Below (w.heap.size+2) M V->Glob V):=fun V hv=>hG.on (HB.out.trans (hv.mono (Nat.le_add_right _ 2)));clear hp hq ah aj z hG hB am ay;go_enter func152,ntmps152;go_upto_region 1 with fail
    rw [<-HWE.out];go_wp2_with fail;refine rH (S:=(fun G=>G.cell? ⟨w.heap.size,0,none⟩=some (.int .i64 b)/\G.cell? ⟨w.heap.size,1,none⟩=some (.int .i64 (H:Int))/\G.cell? ⟨w.heap.size+1,0,none⟩=some (.int .i64 (ix:Int))/\G.cell? ⟨w.heap.size+1,1,none⟩=some (.slice U N Z)/\G.cell? ⟨w.heap.size+1,2,none⟩=some (.slice Aq nq cq))) ybi yam (fun O=>?_);refine tkY 0 ?_;refine rd1 1 (fun K J=>?_)
    (go_simp;go_at_call 201;(with_reducible refine (HV.out _).mono ?_);rintro e w4 ⟨rfl,Y⟩;(have HBx:Hid (Below (w.heap.size+2) M w4):=Below.trans (B:=w.heap.size+2) yaL (Below.mono Y (Nat.le_of_eq HS.out.symm)));clear Y;go_wp2_with fail)
    refine J.out _ _ yam (fun al=>?_);clear J K O
    try simp only [pt]
    (iterate 3 refine tkA ?_)
    refine rd1 5 (fun K J=>?_)
    (go_simp;go_at_call 202;(with_reducible refine (HI.out _).mono ?_);rintro e w5 ⟨rfl,rfl⟩;go_wp2_with fail)
    refine J.out _ _ yam (fun a0=>?_);clear J K al
    try simp only [pt]
    (iterate 23 refine tkA ?_)
    refine wpAnyH_done ybi ?_ _;clear bo bp aV aR aP c0 c1 c2 c3 c4;obtain ⟨c0,c1,c2,c3,c4⟩:=HC.out w4 HBx.out;have HBy:=HBx;go_upto_region 4 with fail
    go_loopw [47] (fun i wr=>(∃k:Nat,k<=nq/\i= .int .i64 k)/\w4=wr) (fun i _=>nq - (intOf i).toNat)
    case atStart=>exact ⟨⟨0,by omega,rfl⟩,rfl⟩
    case round=>
     obtain ⟨⟨k,hk,rfl⟩,rfl⟩:=hrel
     by_cases br:k < nq
     ·have bj:(k:Int) < (nq:Int):=by omega
      have bz:(0:Int)<=(k:Int):=by omega
      obtain ⟨bq,oq,x,rfl,_,af,bg⟩:=(HQ.out w4 HBy.out).1.2.at_ (k:=k) (by rw [HQL.out];exact br);have bi:=lh (fun W=>sgis_any x (aY.out x (List.mem_of_getElem? af)) W);clear af;go_wp2_with (go_at_call 202;(with_reducible refine (bi.out _).mono ?_);rintro e w5 ⟨rfl,rfl⟩);refine ⟨?rel,?measure⟩;case rel=>exact ⟨⟨k+1,by omega,by go_num⟩,by first |rfl |trivial⟩
      case measure=>(simp [intOf]<;>omega)
     ·obtain rfl:k=nq:=by omega
      have bj:¬(k:Int) < (k:Int):=by omega
      have HBx:=HBy
      by_cases hT:N=mN b.toNat+cN b.toNat
      ·
       have ae:Hid (sgF b H ix N k=true):=by show _=_;rw [HF.out,decide_eq_true hT]
       have aU:=lh (aq.out hT);obtain ⟨pk,ax⟩:=gX (pubF b.toNat (dgF b.toNat (sB dg)) ps);have aw:pk.size=32:=by rw [<-ax];unfold pubF;rw [<-ybS,ybL (ycJ _),ycv]
       have aZ:Hid (sgR b dg ix ps qs=clF (leafS (sB pk)) ix qs):=by show _=_;rw [<-ax];rfl
       rw [ax] at aU;have aQ:=lh aw;clear hT ax aw HF aE aq;go_wp2_with fail;refine rH (S:=(fun G=>G.cell? ⟨w.heap.size,0,none⟩=some (.int .i64 b)/\G.cell? ⟨w.heap.size,1,none⟩=some (.int .i64 (H:Int))/\G.cell? ⟨w.heap.size+1,0,none⟩=some (.int .i64 (ix:Int))/\G.cell? ⟨w.heap.size+1,1,none⟩=some (.slice U N Z)/\G.cell? ⟨w.heap.size+1,2,none⟩=some (.slice Aq k cq))) ybi yam (fun O=>?_);refine tkY 0 ?_;refine tkY 2 ?_;refine tkY 3 ?_;refine tkY 4 ?_;refine rd1 1 (fun K J=>?_)
       (go_simp;go_at_call 204;(with_reducible refine (aJ.out _).mono ?_);rintro e w6 ⟨rfl,ai⟩;(have HBx:Hid (Below (w.heap.size+2) M w6):=Below.trans (B:=w.heap.size+2) yaM (Below.mono ai (HS.out▸HBy.out.size)));clear ai;go_wp2_with fail)
       refine J.out _ _ yam (fun aB=>?_);clear J K O
       try simp only [pt]
       refine rd1 5 (fun K J=>?_)
       (go_simp;go_at_call 203;(with_reducible refine (aU.out _ HBx.out).mono ?_);rintro e w7 ⟨rfl,ak⟩;(have HBx:Hid (Below (w.heap.size+2) M w7):=HBx.out.trans (Below.mono ak (HS.out▸HBx.out.size)));clear ak;go_wp2_with fail)
       refine J.out _ _ yam (fun a7=>?_);clear J K aB
       try simp only [pt]
       (iterate 5 refine tkA ?_)
       refine wpAnyH_done ybi ?_ _;obtain ⟨L,hL⟩:=gX (leafS (sB pk));have aG:L.size=32:=by rw [<-hL];exact ycq _
       have bh:Hid (∀(V:World) A' c',Below (w.heap.size+2) M V->Sl fB V V.heap.size A' pk.size (sB pk)->pk.size<=c'->Calls prog 151 #[.slice A' pk.size c'] V fun e G=>e= .returned (.string L)/\Below V.heap.size V G):=fun V A' c' hv hs hc=>hL▸ydB A' pk.size c' V.heap.size (sB pk) V (aC.out V hv) hs hc nl (by rw [aQ.out];omega) (ycR pk) (own_hA hs (by rw [aQ.out];omega));rw [hL] at aZ;have a2:=lh aG;clear hL aG;obtain ⟨c0,c1,c2,c3,c4⟩:=HC.out w7 HBx.out
       go_upto_region 14 with (first
        |((with_reducible refine yb8 (o:=⟨some 68,_,_,_,_,_⟩) rfl (.tmp 67) rfl pk rfl ?_);intro cb W8 aN aX aT;(have HBx:Hid (Below (w.heap.size+2) M W8):=HBx.out.trans (Below.mono aT.out (HS.out▸HBx.out.size)));(have be:=lh (bh.out W8 _ cb HBx.out aN.out aX.out));clear aN aX aT)
        |(go_at_call 151;(with_reducible refine be.out.mono ?_);rintro e w9 ⟨rfl,aO⟩;(have HBx:Hid (Below (w.heap.size+2) M w9):=HBx.out.trans (Below.mono aO (HS.out▸HBx.out.size)));(obtain ⟨c0,c1,c2,c3,c4⟩:=HC.out w9 HBx.out);clear aO))
       have HCL:Hid (clF L ix qs=clF L (ix / 2 ^ 0) (qs.drop 0)):=by show _=_;rw [Nat.pow_zero,Nat.div_one,List.drop_zero]
       have aM:=HBx
       go_loopw [12,73] (fun v i wr=>∃(m:Nat) (T:ByteArray),m<=k/\i= .int .i64 m/\v= .string T/\Hid (T.size=32)/\Hid (clF L ix qs=clF T (ix / 2 ^ m) (qs.drop m))/\Hid (Below (w.heap.size+2) M wr)) (fun _ i _=>k - (intOf i).toNat)
       case atStart=>exact ⟨0,L,by omega,rfl,rfl,a2,HCL,aM⟩
       case round=>
        clear HBx aM HCL c0 c1 c2 c3 c4;obtain ⟨m,T,bx,rfl,rfl,aD,HCL,HBr⟩:=hrel;obtain ⟨c0,c1,c2,c3,c4⟩:=HC.out wr HBr.out
        by_cases hml:m < k
        ·have bC:(m:Int) < (k:Int):=by omega
         have bA:(0:Int)<=(m:Int):=by omega
         obtain ⟨bq,oq,x,bm,_,af,bg⟩:=(HQ.out wr HBr.out).1.2.at_ (k:=m) ybb;have ap:=aY.out x (List.mem_of_getElem? af);subst bm;obtain ⟨t,ht⟩:=gX (ix / 2 ^ m);have aS:(ix:Int) / 2 ^ m=(t:Int):=by rw [<-ht];simp
         have au:t < 1024:=by rw [<-ht];exact Nat.lt_of_le_of_lt (Nat.div_le_self _ _) om
         have aL:=band_1 au
         have aa:Hid (clF L ix qs=clF (if t % 2=0 then ndS T x else ndS x T) (ix / 2 ^ (m+1)) (qs.drop (m+1))):=by
          show _=_;rw [HCL.out,ht,List.drop_eq_getElem_cons ybb]
          have hx:qs[m]' ybb=x:=by
           have:=List.getElem?_eq_getElem (l:=qs) (i:=m) ybb;rw [af] at this;exact (Option.some.inj this).symm
          rw [hx,clF,Nat.pow_succ,<-Nat.div_div_eq_div_mul,ht]
         have bf:Hid (Calls prog 168 #[.string T,.string x] wr fun e G=>e= .returned (.string (ndS T x))/\Below wr.heap.size wr G):=yc0 T x wr (aC.out wr HBr.out) (by rw [aD.out];omega) (by rw [ap];omega);have bb:Hid (Calls prog 168 #[.string x,.string T] wr fun e G=>e= .returned (.string (ndS x T))/\Below wr.heap.size wr G):=yc0 x T wr (aC.out wr HBr.out) (by rw [ap];omega) (by rw [aD.out];omega);have a1:t % 2=0∨t % 2=1:=by omega
         have az:Hid (m+1<=k):=hml;clear af ap ht au;rcases a1 with hp |hp
         ·rw [hp] at aL;rw [hp,if_pos rfl] at aa;clear hp;go_wp2_with (go_at_call 168;(with_reducible refine bf.out.mono ?_);rintro e aH ⟨rfl,ac⟩;(have HB10:Hid (Below (w.heap.size+2) M aH):=HBr.out.trans (Below.mono ac (HS.out▸HBr.out.size)));clear ac);refine ⟨?rel,?measure⟩;case rel=>exact ⟨m+1,_,az.out,by go_num,rfl,ydc _ _,aa,HB10⟩
          case measure=>(have:=az.out;clear aS;simp [intOf]<;>omega)
         ·rw [hp] at aL;rw [hp,if_neg de] at aa;clear hp;go_wp2_with (go_at_call 168;(with_reducible refine bb.out.mono ?_);rintro e aH ⟨rfl,ac⟩;(have HB10:Hid (Below (w.heap.size+2) M aH):=HBr.out.trans (Below.mono ac (HS.out▸HBr.out.size)));clear ac);refine ⟨?rel,?measure⟩;case rel=>exact ⟨m+1,_,az.out,by go_num,rfl,ydc _ _,aa,HB10⟩
          case measure=>(have:=az.out;clear aS;simp [intOf]<;>omega)
        ·obtain rfl:m=k:=by omega
         have HE:Hid (clF L ix qs=T):=by show _=_;rw [HCL.out,List.drop_eq_nil_of_le (by rw [HQL.out];exact Nat.le_refl _)];rfl
         go_wp2;go_ret2;exact ⟨_,_,rfl,Or.inl ⟨rfl,ae.out,by rw [aZ.out,HE.out]⟩,HB.out.trans (HBr.out.mono (Nat.le_add_right _ 2))⟩
      ·
       have ae:Hid (sgF b H ix N k=false):=by show _=_;rw [HF.out,decide_eq_false hT]
       have a9:=lh (aE.out hT);clear hT HF aE aq;go_wp2_with fail;refine rH (S:=(fun G=>G.cell? ⟨w.heap.size,0,none⟩=some (.int .i64 b)/\G.cell? ⟨w.heap.size,1,none⟩=some (.int .i64 (H:Int))/\G.cell? ⟨w.heap.size+1,0,none⟩=some (.int .i64 (ix:Int))/\G.cell? ⟨w.heap.size+1,1,none⟩=some (.slice U N Z)/\G.cell? ⟨w.heap.size+1,2,none⟩=some (.slice Aq k cq))) ybi yam (fun O=>?_);refine tkY 0 ?_;refine tkY 2 ?_;refine tkY 3 ?_;refine tkY 4 ?_;refine rd1 1 (fun K J=>?_)
       (go_simp;go_at_call 204;(with_reducible refine (aJ.out _).mono ?_);rintro e w6 ⟨rfl,ai⟩;(have HBx:Hid (Below (w.heap.size+2) M w6):=Below.trans (B:=w.heap.size+2) yaM (Below.mono ai (HS.out▸HBy.out.size)));clear ai;go_wp2_with fail)
       refine J.out _ _ yam (fun aA=>?_);clear J K O
       try simp only [pt]
       refine rd1 5 (fun K J=>?_)
       (go_simp;go_at_call 203;(with_reducible refine (a9.out _).mono ?_);rintro e w7 ⟨rfl,ak⟩;(have HBx:Hid (Below (w.heap.size+2) M w7):=HBx.out.trans (Below.mono ak (HS.out▸HBx.out.size)));clear ak;go_wp2_with fail)
       refine J.out _ _ yam (fun a6=>?_);clear J K aA
       try simp only [pt]
       (iterate 5 refine tkA ?_)
       refine wpAnyH_done ybi ?_ _;go_wp2_with fail;go_ret2;exact ⟨_,_,rfl,Or.inr ⟨rfl,ae.out⟩,HB.out.trans (HBx.out.mono (Nat.le_add_right _ 2))⟩
   ·
    have ae:Hid (sgF b H ix N nq=false):=by show _=_;rw [HF.out,show decide ((nq:Int)=(H:Int))=false by simp;omega];rfl
    have aP:((nq:Int) != (H:Int))=true:=by simp;omega
    obtain ⟨c0,c1,c2,c3,c4⟩:=HC.out M HB1.out;clear hp hq ah aj z HF hlt ay;go_enter func152,ntmps152;go_upto_region 1 with fail
    rw [<-HWE.out];go_wp2_with fail;refine rH (S:=(fun G=>G.cell? ⟨w.heap.size,0,none⟩=some (.int .i64 b)/\G.cell? ⟨w.heap.size,1,none⟩=some (.int .i64 (H:Int))/\G.cell? ⟨w.heap.size+1,0,none⟩=some (.int .i64 (ix:Int))/\G.cell? ⟨w.heap.size+1,1,none⟩=some (.slice U N Z)/\G.cell? ⟨w.heap.size+1,2,none⟩=some (.slice Aq nq cq))) ybi yam (fun O=>?_);refine tkY 0 ?_;refine rd1 1 (fun K J=>?_)
    (go_simp;go_at_call 201;(with_reducible refine (HV.out _).mono ?_);rintro e w4 ⟨rfl,Y⟩;(have HBx:Hid (Below (w.heap.size+2) M w4):=Below.trans (B:=w.heap.size+2) yaL (Below.mono Y (Nat.le_of_eq HS.out.symm)));clear Y;go_wp2_with fail)
    refine J.out _ _ yam (fun ar=>?_);clear J K O
    try simp only [pt]
    (iterate 3 refine tkA ?_)
    refine rd1 5 (fun K J=>?_)
    (go_simp;go_at_call 202;(with_reducible refine (HI.out _).mono ?_);rintro e w5 ⟨rfl,rfl⟩;go_wp2_with fail)
    refine J.out _ _ yam (fun a3=>?_);clear J K ar
    try simp only [pt]
    (iterate 23 refine tkA ?_)
    refine wpAnyH_done ybi ?_ _;go_wp2_with fail;go_ret2;exact ⟨_,_,rfl,Or.inr ⟨rfl,ae.out⟩,HB.out.trans (HBx.out.mono (Nat.le_add_right _ 2))⟩
  ·
   have ae:Hid (sgF b H ix N nq=false):=by show _=_;rw [HF.out,decide_eq_false hlt];rfl
   obtain ⟨c0,c1,c2,c3,c4⟩:=HC.out M HB1.out;have aV:decide (P<=ix)=true:=by simp;omega
   have aR:decide ((P:Int)<=(ix:Int))=true:=by simp;omega
   clear hp hq ah aj z HF hlt;go_enter func152,ntmps152;go_upto_region 1 with fail
   rw [<-HWE.out];go_wp2_with fail;refine rH (S:=(fun G=>G.cell? ⟨w.heap.size,0,none⟩=some (.int .i64 b)/\G.cell? ⟨w.heap.size,1,none⟩=some (.int .i64 (H:Int))/\G.cell? ⟨w.heap.size+1,0,none⟩=some (.int .i64 (ix:Int))/\G.cell? ⟨w.heap.size+1,1,none⟩=some (.slice U N Z)/\G.cell? ⟨w.heap.size+1,2,none⟩=some (.slice Aq nq cq))) ybi yam (fun O=>?_);refine tkY 0 ?_;refine rd1 1 (fun K J=>?_)
   (go_simp;go_at_call 201;(with_reducible refine (HV.out _).mono ?_);rintro e w4 ⟨rfl,Y⟩;(have HBx:Hid (Below (w.heap.size+2) M w4):=Below.trans (B:=w.heap.size+2) yaL (Below.mono Y (Nat.le_of_eq HS.out.symm)));clear Y;go_wp2_with fail)
   refine J.out _ _ yam (fun ao=>?_);clear J K O
   try simp only [pt]
   (iterate 3 refine tkA ?_)
   refine rd1 5 (fun K J=>?_)
   (go_simp;go_at_call 202;(with_reducible refine (HI.out _).mono ?_);rintro e w5 ⟨rfl,rfl⟩;go_wp2_with fail)
   refine J.out _ _ yam (fun a5=>?_);clear J K ao
   try simp only [pt]
   (iterate 16 refine tkA ?_)
   refine tkN 22 ?_;refine tkN 23 ?_;refine tkN 24 ?_;refine tkN 25 ?_;refine tkN 26 ?_;refine tkN 27 ?_;refine tkY 28 ?_;refine wpAnyH_done ybi ?_ _;go_wp2_with fail;go_ret2;exact ⟨_,_,rfl,Or.inr ⟨rfl,ae.out⟩,HB.out.trans (HBx.out.mono (Nat.le_add_right _ 2))⟩
