import Derived.Test.YtpdledjgbgalcaaGreatDoorPf
namespace Go.Proofs.YtpdledjgbgalcaaGreatDoor
set_option maxRecDepth 100000
set_option maxHeartbeats 8000000
open Go.RowKit Go.Lib Go.Proofs.Tryz
set_option linter.unusedVariables false
set_option linter.unusedSimpArgs false
theorem ybR {w:World} {base base':Nat} {e:TypeId} {size:Nat} {v:Value} {n:Nat} {xs:List Value} (h:w.ownsRow base e size v n xs) (K:base'<=base):w.ownsRow base' e size v n xs:=by
 refine ⟨h.1,?_⟩;rcases h.2 with hn |⟨g,cap,H,L,J,G⟩
 ·exact .inl hn
 ·exact .inr ⟨g,cap,H,L,Nat.le_trans K J,G⟩
theorem sB_getD {s:ByteArray} {i:Nat} (h:i < s.size):(sB s).getD i 0=(s[i].toNat:Int):=by
 unfold sB;rw [List.getD_eq_getElem?_getD,List.getElem?_map,Array.getElem?_toList,Array.getElem?_eq_getElem (by exact h)];rfl
theorem dig_at {s:ByteArray} {n j:Nat} (β G:Nat) (hp:perB β=G) (h:n < s.size) (hj:j < G):dig β (sB s) (n*G+j)=s[n].toNat / 2 ^ (8 - β*(j+1)) % 2 ^ β:=by
 unfold dig;rw [hp]
 have H:(n*G+j) / G=n:=by
  rw [Nat.mul_comm,Nat.mul_add_div om,Nat.div_eq_of_lt hj,Nat.add_zero]
 have J:(n*G+j) % G=j:=by
  rw [Nat.mul_comm,Nat.mul_add_mod,Nat.mod_eq_of_lt hj]
 rw [H,J,sB_getD h];rfl
theorem band_1 {a:Nat} (h:a < 1024):bits .and .i64 (a:Int) 1=((a % 2:Nat):Int):=by
 have hall:∀a:Fin 1024,bits .and .i64 (a.val:Int) 1=((a.val % 2:Nat):Int):=by decide+kernel
 exact hall ⟨a,h⟩
theorem band_2 {a:Nat} (h:a < 1024):bits .and .i64 (a:Int) 3=((a % 4:Nat):Int):=by
 have hall:∀a:Fin 1024,bits .and .i64 (a.val:Int) 3=((a.val % 4:Nat):Int):=by decide+kernel
 exact hall ⟨a,h⟩
theorem band_4 {a:Nat} (h:a < 1024):bits .and .i64 (a:Int) 15=((a % 16:Nat):Int):=by
 have hall:∀a:Fin 1024,bits .and .i64 (a.val:Int) 15=((a.val % 16:Nat):Int):=by decide+kernel
 exact hall ⟨a,h⟩
theorem digits_1 (s:ByteArray) (hs:s.size=32) (w:World):
 Calls prog 243 #[.agg (cPm 1),.string s] w fun e w'=>∃v,e= .returned (.tuple #[v,.int .i64 0])/\Own I 3 w' w.heap.size v (dgF 1 (sB s))/\Below w.heap.size w w':=by
 have hb:BitN 1 1:=by unfold BitN;omega
 obtain ⟨i0,hi,aO,aG,aL⟩:=info_parts Tryz.info3;have HI:=lh hi;have ak:=lh aO;have am:=lh aG;have ao:=lh aL;have HB:Hid (Below w.heap.size w (w.alloc (.cells (cPm 1) 268))):=bl;have HL:=lh (fun W=>ycR 1 1 hb W);have a9:=lh (fun W=>ydD 1 1 hb W);have ay:=lh (fun W=>ydE 1 1 hb W);obtain ⟨H,z⟩:∃H:World,H=w.alloc (.cells (cPm 1) 268):=⟨_,rfl⟩
 have aH:H.heap.size=w.heap.size+1:=by rw [z];simp
 have aR:H.heap[w.heap.size]? =some (.cells (cPm 1) 268 (0,0)):=by rw [z];exact zy w _
 have HC:Hid (∀V,Below (w.heap.size+1) H V->V.cell? ⟨w.heap.size,0,none⟩=some (.int .i64 1)/\V.cell? ⟨w.heap.size,1,none⟩=some (.int .i64 32)):=fun V hv=>by
  have q:=(hv.block w.heap.size (Nat.lt_succ_self _)).trans aR;refine ⟨?_,?_⟩<;>(rw [cell_of_row V _ _ _ _ _ q];rfl)
 rw [<-z] at HB;have HS:=lh aH;have HWE:=lh z;have bk:(s.size:Int)=32:=by omega
 have bj:((s.size:Int) != 32)=false:=by simp [hs]
 have ba:=lh hs;clear aR aH hi aO aG aL z hs;rw [show lsF 1=1 from rfl] at HL;rw [show mNI 1=256 from rfl,show cNI 1=9 from rfl] at ay;obtain ⟨c0,c1⟩:=HC.out H bR;have HM:Hid ((265:Int)=((265:Nat):Int)):=by show _=_;rfl
 have aS:Hid (i0.bytes*265<=281474976710656):=by show _<=_;rw [ao.out];omega
 have aF:Hid (265<=maxLen):=by show _<=_;unfold maxLen;omega
 go_enter func243,ntmps243;go_upto_region 1 with fail
 rw [<-HWE.out]
 go_upto_region 7 with (first
  |(go_at_call 263;(with_reducible refine (a9.out _).mono ?_);rintro e w1 ⟨rfl,aQ⟩;(have HB1:Hid (Below (w.heap.size+1) H w1):=HS.out▸aQ);(obtain ⟨c0,c1⟩:=HC.out w1 HB1.out);clear aQ)
  |(go_at_call 264;(with_reducible refine (ay.out _).mono ?_);rintro e w2 ⟨rfl,aP⟩;(have ae:Hid (Below (w.heap.size+1) H w2):=HB1.out.trans (aP.mono (HS.out▸HB1.out.size)));(obtain ⟨c0,c1⟩:=HC.out w2 ae.out);clear aP)
  |(at_make;(refine wpList_make_own w2 (o:=⟨some 32,_,_,_,_,_⟩) rfl _ _ 27 rfl (w.heap.size+1) 3 i0 (.int .i64 0) 1 underlying27 HI.out ak.out am.out _ _ _ 265 rfl rfl HM.out aS.out aF.out (HS.out▸ae.out.size) ?_);intro w3 aE aI;(have bb:Hid (Own I 3 w3 (w.heap.size+1) (.slice (some ⟨w2.heap.size,0,none⟩) 0 265) []):=aE)))
 have aW:Hid (Below (w.heap.size+1) H w3):=ae.out.trans (ybe aI (fun k hk=>by cases hk) (HS.out▸ae.out.size));clear aE aI HM aS aF
 go_loopw [8,9,35] (fun v k i wr=>∃n:Nat,n<=32/\i= .int .i64 n/\(∃c:Nat,k= .int .i64 c/\c<=960/\Hid (cks 1 (sB s) (n*8)=c))/\Hid (Own I 3 wr (w.heap.size+1) v (digs 1 (sB s) (n*8)))/\Hid (Below (w.heap.size+1) H wr)) (fun _ _ i _=>32 - (intOf i).toNat)
 case atStart=>exact ⟨0,by omega,rfl,⟨0,rfl,by omega,rfl⟩,bb,aW⟩
 case round=>
  obtain ⟨n,hn,rfl,⟨c,rfl,ah,HK⟩,L,HBr⟩:=hrel
  by_cases hlt:n < 32
  ·
   have aU:(n:Int) < 32:=by omega
   obtain ⟨c0,c1⟩:=HC.out wr HBr.out;go_upto_region 10 with fail
   have aJ:Hid (Own I 3 wr (w.heap.size+1) u8 (digs 1 (sB s) (n*8+0))):=L;have aM:Hid (cks 1 (sB s) (n*8+0)=c):=HK;obtain ⟨wo,rfl⟩:∃wo:World,wo=wr:=⟨_,rfl⟩
   go_loopw [8,9,11] (fun v k i wr=>∃j:Nat,j<=8/\i= .int .i64 (8 - 1*((j:Int)+1))/\(∃c:Nat,k= .int .i64 c/\c<=960/\Hid (cks 1 (sB s) (n*8+j)=c))/\Hid (Own I 3 wr (w.heap.size+1) v (digs 1 (sB s) (n*8+j)))/\Hid (Below (w.heap.size+1) H wr)) (fun _ _ i _=>(intOf i+1).toNat)
   case atStart=>exact ⟨0,by omega,rfl,⟨c,rfl,ah,aM⟩,aJ,HBr⟩
   case round=>
    clear aJ aM L HK HBr ah;obtain ⟨j,hj,rfl,⟨c,rfl,ah,HK⟩,L,HBr⟩:=hrel;obtain ⟨c0,c1⟩:=HC.out wr HBr.out
    by_cases aY:j < 8
    ·
     obtain ⟨G,O⟩:∃G:Nat,G=8 - 1*(j+1):=⟨_,rfl⟩
     have T:(8 - 1*((j:Int)+1))=(G:Int):=by omega
     have aB:=lh O;rw [T];have bi:G<=7:=by omega
     have aZ:n < s.size:=by rw [ba.out];exact hlt
     obtain ⟨x,hx⟩:∃x:Nat,s[n].toNat=x:=⟨_,rfl⟩
     have be:x<=255:=by have:=s[n].toNat_lt;omega
     have a1:IntKind.i64.wrap (x:Int)=x:=IntWalk.i64_in _ om;obtain ⟨d,hd⟩:∃d:Nat,dig 1 (sB s) (n*8+j)=d:=⟨_,rfl⟩
     have M:d=x / 2 ^ G % 2 ^ 1:=by rw [<-hd,dig_at 1 8 rfl aZ aY,hx,O]
     have aV:d<=1:=by rw [M];have:=Nat.mod_lt (x / 2 ^ G) (Nat.two_pow_pos 1);omega
     have ap:bits .and .i64 ((x:Int) / 2 ^ G) 1=(d:Int):=by
      have h1:x / 2 ^ G < 1024:=Nat.lt_of_le_of_lt (Nat.div_le_self _ _) om;have h2:=band_1 h1;rw [M];simpa using h2
     have HD:=lh hd
     have az:Hid (cks 1 (sB s) (n*8+(j+1))=c+(1 - d)):=by
      show _=_;rw [<-Nat.add_assoc,cks,HK.out,hd]
     have a3:c+(1 - d)<=960:=by
      have h1:=cks_le 1 (sB s) (n*8+(j+1));rw [az.out] at h1;simp at h1;omega
     have af:Hid (digs 1 (sB s) (n*8+(j+1))=digs 1 (sB s) (n*8+j)++[(d:Int)]):=by
      show _=_;rw [<-Nat.add_assoc,ycz,hd]
     have au:Hid (((digs 1 (sB s) (n*8+j)).length+1)*8<=140737488355328):=by show _<=_;rw [ybx];omega
     have aq:Hid ((digs 1 (sB s) (n*8+j)).length+1<=maxLen):=by show _<=_;rw [ybx];unfold maxLen;omega
     have HBc:=HBr;have Z:Hid (w.heap.size+1<=wr.heap.size):=HS.out▸HBr.out.size;clear O T M hd HK;go_upto_region 12 with fail
     refine rH (S:=(fun w'=>w'.cell? ⟨w.heap.size,0,none⟩=some (.int .i64 1)/\w'.cell? ⟨w.heap.size,1,none⟩=some (.int .i64 32))) ya9 yar (fun U=>?_)
     (iterate 7 refine tkA ?_)
     refine rd1 7 (fun K N=>?_)
     (go_simp;go_at_call 245;(with_reducible refine (HL.out _).mono ?_);rintro e w4 ⟨rfl,J⟩;(have HBc:Hid (Below (w.heap.size+1) H w4):=HBr.out.trans (Below.mono (Below.trans (B:=wr.heap.size) yaF J) Z.out));(have HS4:Hid (w.heap.size+1<=w4.heap.size):=lT Z.out J.size);(have ag:Hid (Own I 3 w4 (w.heap.size+1) u8 (digs 1 (sB s) (n*8+j))):=L.out.on (Below.trans (B:=wr.heap.size) yaF J));clear J;go_wp2_with fail)
     refine N.out _ _ yar (fun aT=>?_);clear N K U
     try simp only [pt]
     (iterate 2 refine tkA ?_)
     refine wpAnyH_done ya9 ?_ _;clear ap a1;obtain ⟨c0,c1⟩:=HC.out w4 HBc.out;go_upto_region 14 with (at_builtin;(with_reducible refine ybk (o:=⟨some 59,_,_,_,_,_⟩) rfl (.tmp 56) (.tmp 58) 27 rfl 3 i0 (.int .i64 0) 8 underlying27 HI.out ak.out am.out ao.out rfl _ (digs 1 (sB s) (n*8+j)) (w.heap.size+1) rfl ag.out (d:Int) 1 rfl I1 au.out aq.out HS4.out ?_);intro v5 w5 a2 HG5 bm;(have aj:Hid (Below (w.heap.size+1) H w5):=HBc.out.trans (ybe HG5.out (fun j hj=>(ol ag.out j hj).1) HS4.out)))
     obtain ⟨c0,c1⟩:=HC.out w5 aj.out;have aD:(c:Int)+(1 - (d:Int))=((c+(1 - d):Nat):Int):=by omega
     have bf:(1 - (d:Int))<=15:=by omega
     have bh:0<=(1 - (d:Int)):=by omega
     have a7:=lh aD;clear aD;go_wp2_with (go_at_call 245;(with_reducible refine (HL.out _).mono ?_);rintro e w6 ⟨rfl,ax⟩;(have HB6:Hid (Below (w.heap.size+1) H w6):=aj.out.trans (ax.mono (HS.out▸aj.out.size)));(have a0:Hid (Own I 3 w6 (w.heap.size+1) v5 (digs 1 (sB s) (n*8+(j+1)))):=af.out▸(a2.out.on ax));(obtain ⟨c0,c1⟩:=HC.out w6 HB6.out);clear ax);refine ⟨?rel,?measure⟩;case rel=>exact ⟨j+1,by omega,by (have:=aB.out;refine congrArg (Value.int .i64) ?_;omega),⟨c+(1 - d),by rw [a7.out],a3,az⟩,a0,HB6⟩
     case measure=>(have:=aB.out;simp [intOf]<;>omega)
    ·obtain rfl:j=8:=by omega
     have aa:Hid (Own I 3 wr (w.heap.size+1) u8 (digs 1 (sB s) ((n+1)*8))):=by show Own ..;rw [Nat.succ_mul];exact L.out
     have aX:Hid (cks 1 (sB s) ((n+1)*8)=c):=by show _=_;rw [Nat.succ_mul];exact HK.out
     have a4:¬(0:Int)<=8 - 1*(((8:Nat):Int)+1):=by omega
     go_wp2;refine ⟨?rel,?measure⟩;case rel=>exact ⟨n+1,by omega,by go_num,⟨c,rfl,ah,aX⟩,aa,HBr⟩
     case measure=>(simp [intOf]<;>omega)
  ·
   obtain rfl:n=32:=by omega
   have aN:Hid (Own I 3 wr (w.heap.size+1) u8 (digs 1 (sB s) 256)):=L;have a5:Hid (cks 1 (sB s) 256=c):=HK;clear L HK;have aU:¬((32:Nat):Int) < 32:=by omega
   obtain ⟨c0,c1⟩:=HC.out wr HBr.out;go_upto_region 17 with fail
   have aK:Hid (Own I 3 wr (w.heap.size+1) u8 (digs 1 (sB s) 256++cdigs 1 9 c 0)):=by show Own ..;rw [show cdigs 1 9 c 0=[] from rfl,List.append_nil];exact aN.out
   obtain ⟨wo,rfl⟩:∃wo:World,wo=wr:=⟨_,rfl⟩
   go_loopw [8,13] (fun v i wr=>∃j:Nat,j<=9/\i= .int .i64 ((9:Int) - 1 - (j:Int))/\Hid (Own I 3 wr (w.heap.size+1) v (digs 1 (sB s) 256++cdigs 1 9 c j))/\Hid (Below (w.heap.size+1) H wr)) (fun _ i _=>(intOf i+1).toNat)
   case atStart=>exact ⟨0,by omega,rfl,aK,HBr⟩
   case round=>
    clear aK HBr aN c0 c1;obtain ⟨j,hj,rfl,L,HBr⟩:=hrel;obtain ⟨c0,c1⟩:=HC.out wr HBr.out
    by_cases bn:j < 9
    ·
     obtain ⟨pl,ai⟩:∃pl:Nat,pl=9 - 1 - j:=⟨_,rfl⟩
     have aw:((9:Int) - 1 - (j:Int))=(pl:Int):=by omega
     have HPL:=lh ai;have bg:pl<=8:=by omega
     obtain ⟨G,O⟩:∃G:Nat,G=1*pl:=⟨_,rfl⟩
     have T:(pl:Int)*1=(G:Int):=by omega
     have bc:G<=32:=by omega
     have a6:IntKind.i64.wrap (G:Int)=G:=IntWalk.i64_in _ om;rw [aw];obtain ⟨d,hd⟩:∃d:Nat,cdig 1 9 c j=d:=⟨_,rfl⟩
     have M:d=c / 2 ^ G % 2 ^ 1:=by rw [<-hd,O,ai];rfl
     have aV:d<=1:=by rw [M];have:=Nat.mod_lt (c / 2 ^ G) (Nat.two_pow_pos 1);omega
     have ap:bits .and .i64 ((c:Int) / 2 ^ G) 1=(d:Int):=by
      have h1:c / 2 ^ G < 1024:=Nat.lt_of_le_of_lt (Nat.div_le_self _ _) om;have h2:=band_1 h1;rw [M];simpa using h2
     have af:Hid (digs 1 (sB s) 256++cdigs 1 9 c (j+1)=(digs 1 (sB s) 256++cdigs 1 9 c j)++[(d:Int)]):=by
      show _=_;rw [ych,hd,List.append_assoc]
     obtain ⟨ls,ar⟩:=gx (digs 1 (sB s) 256++cdigs 1 9 c j);have aC:Hid (ls.length=256+j):=by show _=_;rw [<-ar,List.length_append,ybx,yck]
     rw [ar] at L af;have au:Hid ((ls.length+1)*8<=140737488355328):=by show _<=_;rw [aC.out];omega
     have aq:Hid (ls.length+1<=maxLen):=by show _<=_;rw [aC.out];unfold maxLen;omega
     have HBc:=HBr;have Z:Hid (w.heap.size+1<=wr.heap.size):=HS.out▸HBr.out.size;clear O M hd ai aw ar;go_upto_region 19 with fail
     refine rH (S:=(fun w'=>w'.cell? ⟨w.heap.size,0,none⟩=some (.int .i64 1)/\w'.cell? ⟨w.heap.size,1,none⟩=some (.int .i64 32))) ya9 yah (fun U=>?_)
     (iterate 8 refine tkA ?_)
     refine rd1 8 (fun K N=>?_)
     (go_simp;go_at_call 245;(with_reducible refine (HL.out _).mono ?_);rintro e w4 ⟨rfl,J⟩;(have HBc:Hid (Below (w.heap.size+1) H w4):=HBr.out.trans (Below.mono (Below.trans (B:=wr.heap.size) yaF J) Z.out));(have HS4:Hid (w.heap.size+1<=w4.heap.size):=lT Z.out J.size);(have ag:Hid (Own I 3 w4 (w.heap.size+1) u8 (ls)):=L.out.on (Below.trans (B:=wr.heap.size) yaF J));clear J;go_wp2_with fail)
     refine N.out _ _ yah (fun ac=>?_);clear N K U
     try simp only [pt]
     refine tkY 9 ?_;refine rd1 10 (fun K N=>?_);go_simp;refine N.out _ _ yah (fun Y=>?_);clear N K ac
     try simp only [pt]
     refine rd1 11 (fun K N=>?_)
     ((refine ybT (f:=I) (.tmp 73) (.tmp 83) 27 rfl rfl 3 i0 (.int .i64 0) 8 underlying27 HI.out ak.out am.out ao.out rfl ls (w.heap.size+1) ?hown [(d:Int)] ?hrow I1 au.out aq.out ?hbase ?_);(case hown=>exact ag.out.alloc _);(case hrow=>exact ⟨_,_,1,1,rfl,rfl,SL.of_block (t:=3) (fr:=(0,0)) (zy _ _) (Nat.lt_succ_self _)⟩);(case hbase=>have:=HS4.out;simp;omega);(intro v7 w7 a8 HG7 bo HB7);(have HBd:Hid (Below (w.heap.size+1) H w7):=HB7.out (w.heap.size+1) H (HBc.out.alloc HS4.out _) nl))
     refine N.out _ _ yah (fun aA=>?_);clear N K Y
     try simp only [pt]
     refine tkY 12 ?_;refine wpAnyH_done ya9 ?_ _;clear ap T a6;obtain ⟨c0,c1⟩:=HC.out w7 HBd.out;have aa:Hid (Own I 3 w7 (w.heap.size+1) v7 (digs 1 (sB s) 256++cdigs 1 9 c (j+1))):=af.out▸a8.out;go_wp2;refine ⟨?rel,?measure⟩;case rel=>exact ⟨j+1,by omega,yaR,aa,HBd⟩
     case measure=>(have:=HPL.out;simp [intOf]<;>omega)
    ·obtain rfl:j=9:=by omega
     have aa:Hid (Own I 3 wr (w.heap.size+1) u8 (dgF 1 (sB s))):=by
      show Own ..
      have h:dgF 1 (sB s)=digs 1 (sB s) 256++cdigs 1 9 c 9:=by
       rw [<-a5.out];rfl
      rw [h];exact L.out
     have a4:¬(0:Int)<=(9:Int) - 1 - ((9:Nat):Int):=by omega
     go_wp2;go_ret2;exact ⟨_,rfl,ybR aa.out (Nat.le_succ _),HB.out.trans (HBr.out.mono (Nat.le_succ _))⟩
theorem digits_2 (s:ByteArray) (hs:s.size=32) (w:World):
 Calls prog 243 #[.agg (cPm 2),.string s] w fun e w'=>∃v,e= .returned (.tuple #[v,.int .i64 0])/\Own I 3 w' w.heap.size v (dgF 2 (sB s))/\Below w.heap.size w w':=by
 have hb:BitN 2 2:=by unfold BitN;omega
 obtain ⟨i0,hi,aN,aF,aK⟩:=info_parts Tryz.info3;have HI:=lh hi;have ak:=lh aN;have am:=lh aF;have ao:=lh aK;have HB:Hid (Below w.heap.size w (w.alloc (.cells (cPm 2) 268))):=bl;have HL:=lh (fun W=>ycR 2 2 hb W);have a9:=lh (fun W=>ydD 2 2 hb W);have ay:=lh (fun W=>ydE 2 2 hb W);obtain ⟨H,z⟩:∃H:World,H=w.alloc (.cells (cPm 2) 268):=⟨_,rfl⟩
 have aG:H.heap.size=w.heap.size+1:=by rw [z];simp
 have aR:H.heap[w.heap.size]? =some (.cells (cPm 2) 268 (0,0)):=by rw [z];exact zy w _
 have HC:Hid (∀V,Below (w.heap.size+1) H V->V.cell? ⟨w.heap.size,0,none⟩=some (.int .i64 2)/\V.cell? ⟨w.heap.size,1,none⟩=some (.int .i64 32)):=fun V hv=>by
  have q:=(hv.block w.heap.size (Nat.lt_succ_self _)).trans aR;refine ⟨?_,?_⟩<;>(rw [cell_of_row V _ _ _ _ _ q];rfl)
 rw [<-z] at HB;have HS:=lh aG;have HWE:=lh z;have bk:(s.size:Int)=32:=by omega
 have bj:((s.size:Int) != 32)=false:=by simp [hs]
 have ba:=lh hs;clear aR aG hi aN aF aK z hs;rw [show lsF 2=3 from rfl] at HL;rw [show mNI 2=128 from rfl,show cNI 2=5 from rfl] at ay;obtain ⟨c0,c1⟩:=HC.out H bR;have HM:Hid ((133:Int)=((133:Nat):Int)):=by show _=_;rfl
 have aS:Hid (i0.bytes*133<=281474976710656):=by show _<=_;rw [ao.out];omega
 have aE:Hid (133<=maxLen):=by show _<=_;unfold maxLen;omega
 go_enter func243,ntmps243;go_upto_region 1 with fail
 rw [<-HWE.out]
 go_upto_region 7 with (first
  |(go_at_call 263;(with_reducible refine (a9.out _).mono ?_);rintro e w1 ⟨rfl,aQ⟩;(have HB1:Hid (Below (w.heap.size+1) H w1):=HS.out▸aQ);(obtain ⟨c0,c1⟩:=HC.out w1 HB1.out);clear aQ)
  |(go_at_call 264;(with_reducible refine (ay.out _).mono ?_);rintro e w2 ⟨rfl,aP⟩;(have ae:Hid (Below (w.heap.size+1) H w2):=HB1.out.trans (aP.mono (HS.out▸HB1.out.size)));(obtain ⟨c0,c1⟩:=HC.out w2 ae.out);clear aP)
  |(at_make;(refine wpList_make_own w2 (o:=⟨some 32,_,_,_,_,_⟩) rfl _ _ 27 rfl (w.heap.size+1) 3 i0 (.int .i64 0) 1 underlying27 HI.out ak.out am.out _ _ _ 133 rfl rfl HM.out aS.out aE.out (HS.out▸ae.out.size) ?_);intro w3 aD aH;(have bb:Hid (Own I 3 w3 (w.heap.size+1) (.slice (some ⟨w2.heap.size,0,none⟩) 0 133) []):=aD)))
 have aW:Hid (Below (w.heap.size+1) H w3):=ae.out.trans (ybe aH (fun k hk=>by cases hk) (HS.out▸ae.out.size));clear aD aH HM aS aE
 go_loopw [8,9,35] (fun v k i wr=>∃n:Nat,n<=32/\i= .int .i64 n/\(∃c:Nat,k= .int .i64 c/\c<=960/\Hid (cks 2 (sB s) (n*4)=c))/\Hid (Own I 3 wr (w.heap.size+1) v (digs 2 (sB s) (n*4)))/\Hid (Below (w.heap.size+1) H wr)) (fun _ _ i _=>32 - (intOf i).toNat)
 case atStart=>exact ⟨0,by omega,rfl,⟨0,rfl,by omega,rfl⟩,bb,aW⟩
 case round=>
  obtain ⟨n,hn,rfl,⟨c,rfl,ah,HK⟩,L,HBr⟩:=hrel
  by_cases hlt:n < 32
  ·
   have aU:(n:Int) < 32:=by omega
   obtain ⟨c0,c1⟩:=HC.out wr HBr.out;go_upto_region 10 with fail
   have aI:Hid (Own I 3 wr (w.heap.size+1) u8 (digs 2 (sB s) (n*4+0))):=L;have aL:Hid (cks 2 (sB s) (n*4+0)=c):=HK;obtain ⟨wo,rfl⟩:∃wo:World,wo=wr:=⟨_,rfl⟩
   go_loopw [8,9,11] (fun v k i wr=>∃j:Nat,j<=4/\i= .int .i64 (8 - 2*((j:Int)+1))/\(∃c:Nat,k= .int .i64 c/\c<=960/\Hid (cks 2 (sB s) (n*4+j)=c))/\Hid (Own I 3 wr (w.heap.size+1) v (digs 2 (sB s) (n*4+j)))/\Hid (Below (w.heap.size+1) H wr)) (fun _ _ i _=>(intOf i+1).toNat)
   case atStart=>exact ⟨0,by omega,rfl,⟨c,rfl,ah,aL⟩,aI,HBr⟩
   case round=>
    clear aI aL L HK HBr ah;obtain ⟨j,hj,rfl,⟨c,rfl,ah,HK⟩,L,HBr⟩:=hrel;obtain ⟨c0,c1⟩:=HC.out wr HBr.out
    by_cases aY:j < 4
    ·
     obtain ⟨G,O⟩:∃G:Nat,G=8 - 2*(j+1):=⟨_,rfl⟩
     have T:(8 - 2*((j:Int)+1))=(G:Int):=by omega
     have aA:=lh O;rw [T];have bi:G<=7:=by omega
     have aZ:n < s.size:=by rw [ba.out];exact hlt
     obtain ⟨x,hx⟩:∃x:Nat,s[n].toNat=x:=⟨_,rfl⟩
     have be:x<=255:=by have:=s[n].toNat_lt;omega
     have a1:IntKind.i64.wrap (x:Int)=x:=IntWalk.i64_in _ om;obtain ⟨d,hd⟩:∃d:Nat,dig 2 (sB s) (n*4+j)=d:=⟨_,rfl⟩
     have M:d=x / 2 ^ G % 2 ^ 2:=by rw [<-hd,dig_at 2 4 rfl aZ aY,hx,O]
     have aV:d<=3:=by rw [M];have:=Nat.mod_lt (x / 2 ^ G) (Nat.two_pow_pos 2);omega
     have ap:bits .and .i64 ((x:Int) / 2 ^ G) 3=(d:Int):=by
      have h1:x / 2 ^ G < 1024:=Nat.lt_of_le_of_lt (Nat.div_le_self _ _) om;have h2:=band_2 h1;rw [M];simpa using h2
     have HD:=lh hd
     have az:Hid (cks 2 (sB s) (n*4+(j+1))=c+(3 - d)):=by
      show _=_;rw [<-Nat.add_assoc,cks,HK.out,hd]
     have a3:c+(3 - d)<=960:=by
      have h1:=cks_le 2 (sB s) (n*4+(j+1));rw [az.out] at h1;simp at h1;omega
     have af:Hid (digs 2 (sB s) (n*4+(j+1))=digs 2 (sB s) (n*4+j)++[(d:Int)]):=by
      show _=_;rw [<-Nat.add_assoc,ycz,hd]
     have au:Hid (((digs 2 (sB s) (n*4+j)).length+1)*8<=140737488355328):=by show _<=_;rw [ybx];omega
     have aq:Hid ((digs 2 (sB s) (n*4+j)).length+1<=maxLen):=by show _<=_;rw [ybx];unfold maxLen;omega
     have HBc:=HBr;have Y:Hid (w.heap.size+1<=wr.heap.size):=HS.out▸HBr.out.size;clear O T M hd HK;go_upto_region 12 with fail
     refine rH (S:=(fun w'=>w'.cell? ⟨w.heap.size,0,none⟩=some (.int .i64 2)/\w'.cell? ⟨w.heap.size,1,none⟩=some (.int .i64 32))) ya9 yar (fun U=>?_)
     (iterate 7 refine tkA ?_)
     refine rd1 7 (fun K N=>?_)
     (go_simp;go_at_call 245;(with_reducible refine (HL.out _).mono ?_);rintro e w4 ⟨rfl,J⟩;(have HBc:Hid (Below (w.heap.size+1) H w4):=HBr.out.trans (Below.mono (Below.trans (B:=wr.heap.size) yaF J) Y.out));(have HS4:Hid (w.heap.size+1<=w4.heap.size):=lT Y.out J.size);(have ag:Hid (Own I 3 w4 (w.heap.size+1) u8 (digs 2 (sB s) (n*4+j))):=L.out.on (Below.trans (B:=wr.heap.size) yaF J));clear J;go_wp2_with fail)
     refine N.out _ _ yar (fun aT=>?_);clear N K U
     try simp only [pt]
     (iterate 2 refine tkA ?_)
     refine wpAnyH_done ya9 ?_ _;clear ap a1;obtain ⟨c0,c1⟩:=HC.out w4 HBc.out;go_upto_region 14 with (at_builtin;(with_reducible refine ybk (o:=⟨some 59,_,_,_,_,_⟩) rfl (.tmp 56) (.tmp 58) 27 rfl 3 i0 (.int .i64 0) 8 underlying27 HI.out ak.out am.out ao.out rfl _ (digs 2 (sB s) (n*4+j)) (w.heap.size+1) rfl ag.out (d:Int) 1 rfl I1 au.out aq.out HS4.out ?_);intro v5 w5 a2 HG5 bm;(have aj:Hid (Below (w.heap.size+1) H w5):=HBc.out.trans (ybe HG5.out (fun j hj=>(ol ag.out j hj).1) HS4.out)))
     obtain ⟨c0,c1⟩:=HC.out w5 aj.out;have aC:(c:Int)+(3 - (d:Int))=((c+(3 - d):Nat):Int):=by omega
     have bf:(3 - (d:Int))<=15:=by omega
     have bh:0<=(3 - (d:Int)):=by omega
     have a7:=lh aC;clear aC;go_wp2_with (go_at_call 245;(with_reducible refine (HL.out _).mono ?_);rintro e w6 ⟨rfl,ax⟩;(have HB6:Hid (Below (w.heap.size+1) H w6):=aj.out.trans (ax.mono (HS.out▸aj.out.size)));(have a0:Hid (Own I 3 w6 (w.heap.size+1) v5 (digs 2 (sB s) (n*4+(j+1)))):=af.out▸(a2.out.on ax));(obtain ⟨c0,c1⟩:=HC.out w6 HB6.out);clear ax);refine ⟨?rel,?measure⟩;case rel=>exact ⟨j+1,by omega,by (have:=aA.out;refine congrArg (Value.int .i64) ?_;omega),⟨c+(3 - d),by rw [a7.out],a3,az⟩,a0,HB6⟩
     case measure=>(have:=aA.out;simp [intOf]<;>omega)
    ·obtain rfl:j=4:=by omega
     have aa:Hid (Own I 3 wr (w.heap.size+1) u8 (digs 2 (sB s) ((n+1)*4))):=by show Own ..;rw [Nat.succ_mul];exact L.out
     have aX:Hid (cks 2 (sB s) ((n+1)*4)=c):=by show _=_;rw [Nat.succ_mul];exact HK.out
     have a4:¬(0:Int)<=8 - 2*(((4:Nat):Int)+1):=by omega
     go_wp2;refine ⟨?rel,?measure⟩;case rel=>exact ⟨n+1,by omega,by go_num,⟨c,rfl,ah,aX⟩,aa,HBr⟩
     case measure=>(simp [intOf]<;>omega)
  ·
   obtain rfl:n=32:=by omega
   have aM:Hid (Own I 3 wr (w.heap.size+1) u8 (digs 2 (sB s) 128)):=L;have a5:Hid (cks 2 (sB s) 128=c):=HK;clear L HK;have aU:¬((32:Nat):Int) < 32:=by omega
   obtain ⟨c0,c1⟩:=HC.out wr HBr.out;go_upto_region 17 with fail
   have aJ:Hid (Own I 3 wr (w.heap.size+1) u8 (digs 2 (sB s) 128++cdigs 2 5 c 0)):=by show Own ..;rw [show cdigs 2 5 c 0=[] from rfl,List.append_nil];exact aM.out
   obtain ⟨wo,rfl⟩:∃wo:World,wo=wr:=⟨_,rfl⟩
   go_loopw [8,13] (fun v i wr=>∃j:Nat,j<=5/\i= .int .i64 ((5:Int) - 1 - (j:Int))/\Hid (Own I 3 wr (w.heap.size+1) v (digs 2 (sB s) 128++cdigs 2 5 c j))/\Hid (Below (w.heap.size+1) H wr)) (fun _ i _=>(intOf i+1).toNat)
   case atStart=>exact ⟨0,by omega,rfl,aJ,HBr⟩
   case round=>
    clear aJ HBr aM c0 c1;obtain ⟨j,hj,rfl,L,HBr⟩:=hrel;obtain ⟨c0,c1⟩:=HC.out wr HBr.out
    by_cases bn:j < 5
    ·
     obtain ⟨pl,ai⟩:∃pl:Nat,pl=5 - 1 - j:=⟨_,rfl⟩
     have aw:((5:Int) - 1 - (j:Int))=(pl:Int):=by omega
     have HPL:=lh ai;have bg:pl<=8:=by omega
     obtain ⟨G,O⟩:∃G:Nat,G=2*pl:=⟨_,rfl⟩
     have T:(pl:Int)*2=(G:Int):=by omega
     have bc:G<=32:=by omega
     have a6:IntKind.i64.wrap (G:Int)=G:=IntWalk.i64_in _ om;rw [aw];obtain ⟨d,hd⟩:∃d:Nat,cdig 2 5 c j=d:=⟨_,rfl⟩
     have M:d=c / 2 ^ G % 2 ^ 2:=by rw [<-hd,O,ai];rfl
     have aV:d<=3:=by rw [M];have:=Nat.mod_lt (c / 2 ^ G) (Nat.two_pow_pos 2);omega
     have ap:bits .and .i64 ((c:Int) / 2 ^ G) 3=(d:Int):=by
      have h1:c / 2 ^ G < 1024:=Nat.lt_of_le_of_lt (Nat.div_le_self _ _) om;have h2:=band_2 h1;rw [M];simpa using h2
     have af:Hid (digs 2 (sB s) 128++cdigs 2 5 c (j+1)=(digs 2 (sB s) 128++cdigs 2 5 c j)++[(d:Int)]):=by
      show _=_;rw [ych,hd,List.append_assoc]
     obtain ⟨ls,ar⟩:=gx (digs 2 (sB s) 128++cdigs 2 5 c j);have aB:Hid (ls.length=128+j):=by show _=_;rw [<-ar,List.length_append,ybx,yck]
     rw [ar] at L af;have au:Hid ((ls.length+1)*8<=140737488355328):=by show _<=_;rw [aB.out];omega
     have aq:Hid (ls.length+1<=maxLen):=by show _<=_;rw [aB.out];unfold maxLen;omega
     have HBc:=HBr;have Y:Hid (w.heap.size+1<=wr.heap.size):=HS.out▸HBr.out.size;clear O M hd ai aw ar;go_upto_region 19 with fail
     refine rH (S:=(fun w'=>w'.cell? ⟨w.heap.size,0,none⟩=some (.int .i64 2)/\w'.cell? ⟨w.heap.size,1,none⟩=some (.int .i64 32))) ya9 yah (fun U=>?_)
     (iterate 8 refine tkA ?_)
     refine rd1 8 (fun K N=>?_)
     (go_simp;go_at_call 245;(with_reducible refine (HL.out _).mono ?_);rintro e w4 ⟨rfl,J⟩;(have HBc:Hid (Below (w.heap.size+1) H w4):=HBr.out.trans (Below.mono (Below.trans (B:=wr.heap.size) yaF J) Y.out));(have HS4:Hid (w.heap.size+1<=w4.heap.size):=lT Y.out J.size);(have ag:Hid (Own I 3 w4 (w.heap.size+1) u8 (ls)):=L.out.on (Below.trans (B:=wr.heap.size) yaF J));clear J;go_wp2_with fail)
     refine N.out _ _ yah (fun ac=>?_);clear N K U
     try simp only [pt]
     refine tkY 9 ?_;refine rd1 10 (fun K N=>?_);go_simp;refine N.out _ _ yah (fun Z=>?_);clear N K ac
     try simp only [pt]
     refine rd1 11 (fun K N=>?_)
     ((refine ybT (f:=I) (.tmp 73) (.tmp 83) 27 rfl rfl 3 i0 (.int .i64 0) 8 underlying27 HI.out ak.out am.out ao.out rfl ls (w.heap.size+1) ?hown [(d:Int)] ?hrow I1 au.out aq.out ?hbase ?_);(case hown=>exact ag.out.alloc _);(case hrow=>exact ⟨_,_,1,1,rfl,rfl,SL.of_block (t:=3) (fr:=(0,0)) (zy _ _) (Nat.lt_succ_self _)⟩);(case hbase=>have:=HS4.out;simp;omega);(intro v7 w7 a8 HG7 bo HB7);(have HBd:Hid (Below (w.heap.size+1) H w7):=HB7.out (w.heap.size+1) H (HBc.out.alloc HS4.out _) nl))
     refine N.out _ _ yah (fun aO=>?_);clear N K Z
     try simp only [pt]
     refine tkY 12 ?_;refine wpAnyH_done ya9 ?_ _;clear ap T a6;obtain ⟨c0,c1⟩:=HC.out w7 HBd.out;have aa:Hid (Own I 3 w7 (w.heap.size+1) v7 (digs 2 (sB s) 128++cdigs 2 5 c (j+1))):=af.out▸a8.out;go_wp2;refine ⟨?rel,?measure⟩;case rel=>exact ⟨j+1,by omega,yaR,aa,HBd⟩
     case measure=>(have:=HPL.out;simp [intOf]<;>omega)
    ·obtain rfl:j=5:=by omega
     have aa:Hid (Own I 3 wr (w.heap.size+1) u8 (dgF 2 (sB s))):=by
      show Own ..
      have h:dgF 2 (sB s)=digs 2 (sB s) 128++cdigs 2 5 c 5:=by
       rw [<-a5.out];rfl
      rw [h];exact L.out
     have a4:¬(0:Int)<=(5:Int) - 1 - ((5:Nat):Int):=by omega
     go_wp2;go_ret2;exact ⟨_,rfl,ybR aa.out (Nat.le_succ _),HB.out.trans (HBr.out.mono (Nat.le_succ _))⟩
theorem digits_4 (s:ByteArray) (hs:s.size=32) (w:World):
 Calls prog 243 #[.agg (cPm 4),.string s] w fun e z=>∃v,e= .returned (.tuple #[v,.int .i64 0])/\Own I 3 z w.heap.size v (dgF 4 (sB s))/\Below w.heap.size w z:=by
 have hb:BitN 4 4:=by unfold BitN;omega
 obtain ⟨i0,hi,aO,aG,aL⟩:=info_parts Tryz.info3;have HI:=lh hi;have am:=lh aO;have ao:=lh aG;have ap:=lh aL;have HB:Hid (Below w.heap.size w (w.alloc (.cells (cPm 4) 268))):=bl;have HL:=lh (fun W=>ycR 4 4 hb W);have ba:=lh (fun W=>ydD 4 4 hb W);have az:=lh (fun W=>ydE 4 4 hb W);obtain ⟨H,Z⟩:∃H:World,H=w.alloc (.cells (cPm 4) 268):=⟨_,rfl⟩
 have aH:H.heap.size=w.heap.size+1:=by rw [Z];simp
 have aS:H.heap[w.heap.size]? =some (.cells (cPm 4) 268 (0,0)):=by rw [Z];exact zy w _
 have HC:Hid (∀V,Below (w.heap.size+1) H V->V.cell? ⟨w.heap.size,0,none⟩=some (.int .i64 4)/\V.cell? ⟨w.heap.size,1,none⟩=some (.int .i64 32)):=fun V hv=>by
  have q:=(hv.block w.heap.size (Nat.lt_succ_self _)).trans aS;refine ⟨?_,?_⟩<;>(rw [cell_of_row V _ _ _ _ _ q];rfl)
 rw [<-Z] at HB;have HS:=lh aH;have HWE:=lh Z;have bm:(s.size:Int)=32:=by omega
 have bk:((s.size:Int) != 32)=false:=by simp [hs]
 have bb:=lh hs;clear aS aH hi aO aG aL Z hs;rw [show lsF 4=15 from rfl] at HL;rw [show mNI 4=64 from rfl,show cNI 4=3 from rfl] at az;obtain ⟨c0,c1⟩:=HC.out H bR;have HM:Hid ((67:Int)=((67:Nat):Int)):=by show _=_;rfl
 have aT:Hid (i0.bytes*67<=281474976710656):=by show _<=_;rw [ap.out];omega
 have aF:Hid (67<=maxLen):=by show _<=_;unfold maxLen;omega
 go_enter func243,ntmps243;go_upto_region 1 with fail
 rw [<-HWE.out]
 go_upto_region 7 with (first
  |(go_at_call 263;(with_reducible refine (ba.out _).mono ?_);rintro e w1 ⟨rfl,aR⟩;(have HB1:Hid (Below (w.heap.size+1) H w1):=HS.out▸aR);(obtain ⟨c0,c1⟩:=HC.out w1 HB1.out);clear aR)
  |(go_at_call 264;(with_reducible refine (az.out _).mono ?_);rintro e w2 ⟨rfl,aQ⟩;(have af:Hid (Below (w.heap.size+1) H w2):=HB1.out.trans (aQ.mono (HS.out▸HB1.out.size)));(obtain ⟨c0,c1⟩:=HC.out w2 af.out);clear aQ)
  |(at_make;(refine wpList_make_own w2 (o:=⟨some 32,_,_,_,_,_⟩) rfl _ _ 27 rfl (w.heap.size+1) 3 i0 (.int .i64 0) 1 underlying27 HI.out am.out ao.out _ _ _ 67 rfl rfl HM.out aT.out aF.out (HS.out▸af.out.size) ?_);intro w3 aE aI;(have bc:Hid (Own I 3 w3 (w.heap.size+1) (.slice (some ⟨w2.heap.size,0,none⟩) 0 67) []):=aE)))
 have aX:Hid (Below (w.heap.size+1) H w3):=af.out.trans (ybe aI (fun k hk=>by cases hk) (HS.out▸af.out.size));clear aE aI HM aT aF
 go_loopw [8,9,35] (fun v k i wr=>∃n:Nat,n<=32/\i= .int .i64 n/\(∃c:Nat,k= .int .i64 c/\c<=960/\Hid (cks 4 (sB s) (n*2)=c))/\Hid (Own I 3 wr (w.heap.size+1) v (digs 4 (sB s) (n*2)))/\Hid (Below (w.heap.size+1) H wr)) (fun _ _ i _=>32 - (intOf i).toNat)
 case atStart=>exact ⟨0,by omega,rfl,⟨0,rfl,by omega,rfl⟩,bc,aX⟩
 case round=>
  obtain ⟨n,hn,rfl,⟨c,rfl,ai,HK⟩,L,HBr⟩:=hrel
  by_cases hlt:n < 32
  ·
   have aV:(n:Int) < 32:=by omega
   obtain ⟨c0,c1⟩:=HC.out wr HBr.out;go_upto_region 10 with fail
   have aJ:Hid (Own I 3 wr (w.heap.size+1) u8 (digs 4 (sB s) (n*2+0))):=L;have aM:Hid (cks 4 (sB s) (n*2+0)=c):=HK;obtain ⟨wo,rfl⟩:∃wo:World,wo=wr:=⟨_,rfl⟩
   go_loopw [8,9,11] (fun v k i wr=>∃j:Nat,j<=2/\i= .int .i64 (8 - 4*((j:Int)+1))/\(∃c:Nat,k= .int .i64 c/\c<=960/\Hid (cks 4 (sB s) (n*2+j)=c))/\Hid (Own I 3 wr (w.heap.size+1) v (digs 4 (sB s) (n*2+j)))/\Hid (Below (w.heap.size+1) H wr)) (fun _ _ i _=>(intOf i+1).toNat)
   case atStart=>exact ⟨0,by omega,rfl,⟨c,rfl,ai,aM⟩,aJ,HBr⟩
   case round=>
    clear aJ aM L HK HBr ai;obtain ⟨j,hj,rfl,⟨c,rfl,ai,HK⟩,L,HBr⟩:=hrel;obtain ⟨c0,c1⟩:=HC.out wr HBr.out
    by_cases aZ:j < 2
    ·
     obtain ⟨G,O⟩:∃G:Nat,G=8 - 4*(j+1):=⟨_,rfl⟩
     have T:(8 - 4*((j:Int)+1))=(G:Int):=by omega
     have aB:=lh O;rw [T];have bj:G<=7:=by omega
     have a0:n < s.size:=by rw [bb.out];exact hlt
     obtain ⟨x,hx⟩:∃x:Nat,s[n].toNat=x:=⟨_,rfl⟩
     have bf:x<=255:=by have:=s[n].toNat_lt;omega
     have a2:IntKind.i64.wrap (x:Int)=x:=IntWalk.i64_in _ om;obtain ⟨d,hd⟩:∃d:Nat,dig 4 (sB s) (n*2+j)=d:=⟨_,rfl⟩
     have M:d=x / 2 ^ G % 2 ^ 4:=by rw [<-hd,dig_at 4 2 rfl a0 aZ,hx,O]
     have aW:d<=15:=by rw [M];have:=Nat.mod_lt (x / 2 ^ G) (Nat.two_pow_pos 4);omega
     have aq:bits .and .i64 ((x:Int) / 2 ^ G) 15=(d:Int):=by
      have h1:x / 2 ^ G < 1024:=Nat.lt_of_le_of_lt (Nat.div_le_self _ _) om;have h2:=band_4 h1;rw [M];simpa using h2
     have HD:=lh hd
     have aA:Hid (cks 4 (sB s) (n*2+(j+1))=c+(15 - d)):=by
      show _=_;rw [<-Nat.add_assoc,cks,HK.out,hd]
     have a4:c+(15 - d)<=960:=by
      have h1:=cks_le 4 (sB s) (n*2+(j+1));rw [aA.out] at h1;simp at h1;omega
     have ag:Hid (digs 4 (sB s) (n*2+(j+1))=digs 4 (sB s) (n*2+j)++[(d:Int)]):=by
      show _=_;rw [<-Nat.add_assoc,ycz,hd]
     have aw:Hid (((digs 4 (sB s) (n*2+j)).length+1)*8<=140737488355328):=by show _<=_;rw [ybx];omega
     have ar:Hid ((digs 4 (sB s) (n*2+j)).length+1<=maxLen):=by show _<=_;rw [ybx];unfold maxLen;omega
     have HBc:=HBr;have Y:Hid (w.heap.size+1<=wr.heap.size):=HS.out▸HBr.out.size;clear O T M hd HK;go_upto_region 12 with fail
     refine rH (S:=(fun z=>z.cell? ⟨w.heap.size,0,none⟩=some (.int .i64 4)/\z.cell? ⟨w.heap.size,1,none⟩=some (.int .i64 32))) ya9 yar (fun U=>?_)
     (iterate 7 refine tkA ?_)
     refine rd1 7 (fun K N=>?_)
     (go_simp;go_at_call 245;(with_reducible refine (HL.out _).mono ?_);rintro e w4 ⟨rfl,J⟩;(have HBc:Hid (Below (w.heap.size+1) H w4):=HBr.out.trans (Below.mono (Below.trans (B:=wr.heap.size) yaF J) Y.out));(have HS4:Hid (w.heap.size+1<=w4.heap.size):=lT Y.out J.size);(have ah:Hid (Own I 3 w4 (w.heap.size+1) u8 (digs 4 (sB s) (n*2+j))):=L.out.on (Below.trans (B:=wr.heap.size) yaF J));clear J;go_wp2_with fail)
     refine N.out _ _ yar (fun aU=>?_);clear N K U
     try simp only [pt]
     (iterate 2 refine tkA ?_)
     refine wpAnyH_done ya9 ?_ _;clear aq a2;obtain ⟨c0,c1⟩:=HC.out w4 HBc.out;go_upto_region 14 with (at_builtin;(with_reducible refine ybk (o:=⟨some 59,_,_,_,_,_⟩) rfl (.tmp 56) (.tmp 58) 27 rfl 3 i0 (.int .i64 0) 8 underlying27 HI.out am.out ao.out ap.out rfl _ (digs 4 (sB s) (n*2+j)) (w.heap.size+1) rfl ah.out (d:Int) 1 rfl I1 aw.out ar.out HS4.out ?_);intro v5 w5 a3 HG5 bn;(have ak:Hid (Below (w.heap.size+1) H w5):=HBc.out.trans (ybe HG5.out (fun j hj=>(ol ah.out j hj).1) HS4.out)))
     obtain ⟨c0,c1⟩:=HC.out w5 ak.out;have aD:(c:Int)+(15 - (d:Int))=((c+(15 - d):Nat):Int):=by omega
     have bg:(15 - (d:Int))<=15:=by omega
     have bi:0<=(15 - (d:Int)):=by omega
     have a8:=lh aD;clear aD;go_wp2_with (go_at_call 245;(with_reducible refine (HL.out _).mono ?_);rintro e w6 ⟨rfl,ay⟩;(have HB6:Hid (Below (w.heap.size+1) H w6):=ak.out.trans (ay.mono (HS.out▸ak.out.size)));(have a1:Hid (Own I 3 w6 (w.heap.size+1) v5 (digs 4 (sB s) (n*2+(j+1)))):=ag.out▸(a3.out.on ay));(obtain ⟨c0,c1⟩:=HC.out w6 HB6.out);clear ay);refine ⟨?rel,?measure⟩;case rel=>exact ⟨j+1,by omega,by (have:=aB.out;refine congrArg (Value.int .i64) ?_;omega),⟨c+(15 - d),by rw [a8.out],a4,aA⟩,a1,HB6⟩
     case measure=>(have:=aB.out;simp [intOf]<;>omega)
    ·obtain rfl:j=2:=by omega
     have ac:Hid (Own I 3 wr (w.heap.size+1) u8 (digs 4 (sB s) ((n+1)*2))):=by show Own ..;rw [Nat.succ_mul];exact L.out
     have aY:Hid (cks 4 (sB s) ((n+1)*2)=c):=by show _=_;rw [Nat.succ_mul];exact HK.out
     have a5:¬(0:Int)<=8 - 4*(((2:Nat):Int)+1):=by omega
     go_wp2;refine ⟨?rel,?measure⟩;case rel=>exact ⟨n+1,by omega,by go_num,⟨c,rfl,ai,aY⟩,ac,HBr⟩
     case measure=>(simp [intOf]<;>omega)
  ·
   obtain rfl:n=32:=by omega
   have aN:Hid (Own I 3 wr (w.heap.size+1) u8 (digs 4 (sB s) 64)):=L;have a6:Hid (cks 4 (sB s) 64=c):=HK;clear L HK;have aV:¬((32:Nat):Int) < 32:=by omega
   obtain ⟨c0,c1⟩:=HC.out wr HBr.out;go_upto_region 17 with fail
   have aK:Hid (Own I 3 wr (w.heap.size+1) u8 (digs 4 (sB s) 64++cdigs 4 3 c 0)):=by show Own ..;rw [show cdigs 4 3 c 0=[] from rfl,List.append_nil];exact aN.out
   obtain ⟨wo,rfl⟩:∃wo:World,wo=wr:=⟨_,rfl⟩
   go_loopw [8,13] (fun v i wr=>∃j:Nat,j<=3/\i= .int .i64 ((3:Int) - 1 - (j:Int))/\Hid (Own I 3 wr (w.heap.size+1) v (digs 4 (sB s) 64++cdigs 4 3 c j))/\Hid (Below (w.heap.size+1) H wr)) (fun _ i _=>(intOf i+1).toNat)
   case atStart=>exact ⟨0,by omega,rfl,aK,HBr⟩
   case round=>
    clear aK HBr aN c0 c1;obtain ⟨j,hj,rfl,L,HBr⟩:=hrel;obtain ⟨c0,c1⟩:=HC.out wr HBr.out
    by_cases bo:j < 3
    ·
     obtain ⟨pl,aj⟩:∃pl:Nat,pl=3 - 1 - j:=⟨_,rfl⟩
     have ax:((3:Int) - 1 - (j:Int))=(pl:Int):=by omega
     have HPL:=lh aj;have bh:pl<=8:=by omega
     obtain ⟨G,O⟩:∃G:Nat,G=4*pl:=⟨_,rfl⟩
     have T:(pl:Int)*4=(G:Int):=by omega
     have be:G<=32:=by omega
     have a7:IntKind.i64.wrap (G:Int)=G:=IntWalk.i64_in _ om;rw [ax];obtain ⟨d,hd⟩:∃d:Nat,cdig 4 3 c j=d:=⟨_,rfl⟩
     have M:d=c / 2 ^ G % 2 ^ 4:=by rw [<-hd,O,aj];rfl
     have aW:d<=15:=by rw [M];have:=Nat.mod_lt (c / 2 ^ G) (Nat.two_pow_pos 4);omega
     have aq:bits .and .i64 ((c:Int) / 2 ^ G) 15=(d:Int):=by
      have h1:c / 2 ^ G < 1024:=Nat.lt_of_le_of_lt (Nat.div_le_self _ _) om;have h2:=band_4 h1;rw [M];simpa using h2
     have ag:Hid (digs 4 (sB s) 64++cdigs 4 3 c (j+1)=(digs 4 (sB s) 64++cdigs 4 3 c j)++[(d:Int)]):=by
      show _=_;rw [ych,hd,List.append_assoc]
     obtain ⟨ls,au⟩:=gx (digs 4 (sB s) 64++cdigs 4 3 c j);have aC:Hid (ls.length=64+j):=by show _=_;rw [<-au,List.length_append,ybx,yck]
     rw [au] at L ag;have aw:Hid ((ls.length+1)*8<=140737488355328):=by show _<=_;rw [aC.out];omega
     have ar:Hid (ls.length+1<=maxLen):=by show _<=_;rw [aC.out];unfold maxLen;omega
     have HBc:=HBr;have Y:Hid (w.heap.size+1<=wr.heap.size):=HS.out▸HBr.out.size;clear O M hd aj ax au;go_upto_region 19 with fail
     refine rH (S:=(fun z=>z.cell? ⟨w.heap.size,0,none⟩=some (.int .i64 4)/\z.cell? ⟨w.heap.size,1,none⟩=some (.int .i64 32))) ya9 yah (fun U=>?_)
     (iterate 8 refine tkA ?_)
     refine rd1 8 (fun K N=>?_)
     (go_simp;go_at_call 245;(with_reducible refine (HL.out _).mono ?_);rintro e w4 ⟨rfl,J⟩;(have HBc:Hid (Below (w.heap.size+1) H w4):=HBr.out.trans (Below.mono (Below.trans (B:=wr.heap.size) yaF J) Y.out));(have HS4:Hid (w.heap.size+1<=w4.heap.size):=lT Y.out J.size);(have ah:Hid (Own I 3 w4 (w.heap.size+1) u8 (ls)):=L.out.on (Below.trans (B:=wr.heap.size) yaF J));clear J;go_wp2_with fail)
     refine N.out _ _ yah (fun ae=>?_);clear N K U
     try simp only [pt]
     refine tkY 9 ?_;refine rd1 10 (fun K N=>?_);go_simp;refine N.out _ _ yah (fun aa=>?_);clear N K ae
     try simp only [pt]
     refine rd1 11 (fun K N=>?_)
     ((refine ybT (f:=I) (.tmp 73) (.tmp 83) 27 rfl rfl 3 i0 (.int .i64 0) 8 underlying27 HI.out am.out ao.out ap.out rfl ls (w.heap.size+1) ?hown [(d:Int)] ?hrow I1 aw.out ar.out ?hbase ?_);(case hown=>exact ah.out.alloc _);(case hrow=>exact ⟨_,_,1,1,rfl,rfl,SL.of_block (t:=3) (fr:=(0,0)) (zy _ _) (Nat.lt_succ_self _)⟩);(case hbase=>have:=HS4.out;simp;omega);(intro v7 w7 a9 HG7 bp HB7);(have HBd:Hid (Below (w.heap.size+1) H w7):=HB7.out (w.heap.size+1) H (HBc.out.alloc HS4.out _) nl))
     refine N.out _ _ yah (fun aP=>?_);clear N K aa
     try simp only [pt]
     refine tkY 12 ?_;refine wpAnyH_done ya9 ?_ _;clear aq T a7;obtain ⟨c0,c1⟩:=HC.out w7 HBd.out;have ac:Hid (Own I 3 w7 (w.heap.size+1) v7 (digs 4 (sB s) 64++cdigs 4 3 c (j+1))):=ag.out▸a9.out;go_wp2;refine ⟨?rel,?measure⟩;case rel=>exact ⟨j+1,by omega,yaR,ac,HBd⟩
     case measure=>(have:=HPL.out;simp [intOf]<;>omega)
    ·obtain rfl:j=3:=by omega
     have ac:Hid (Own I 3 wr (w.heap.size+1) u8 (dgF 4 (sB s))):=by
      show Own ..
      have h:dgF 4 (sB s)=digs 4 (sB s) 64++cdigs 4 3 c 3:=by
       rw [<-a6.out];rfl
      rw [h];exact L.out
     have a5:¬(0:Int)<=(3:Int) - 1 - ((3:Nat):Int):=by omega
     go_wp2;go_ret2;exact ⟨_,rfl,ybR ac.out (Nat.le_succ _),HB.out.trans (HBr.out.mono (Nat.le_succ _))⟩
theorem digits_any (b:Int) (β:Nat) (H:BitN b β) (s:ByteArray) (hs:s.size=32) (w:World):
 Calls prog 243 #[.agg (cPm b),.string s] w fun e G=>∃v,e= .returned (.tuple #[v,.int .i64 0])/\Own I 3 G w.heap.size v (dgF β (sB s))/\Below w.heap.size w G:=by
 rcases H with ⟨rfl,rfl⟩ |⟨rfl,rfl⟩ |⟨rfl,rfl⟩
 ·exact digits_1 s hs w
 ·exact digits_2 s hs w
 ·exact digits_4 s hs w
