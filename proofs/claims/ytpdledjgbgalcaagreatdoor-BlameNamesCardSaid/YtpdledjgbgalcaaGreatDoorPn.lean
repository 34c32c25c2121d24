import Derived.Test.YtpdledjgbgalcaaGreatDoorPf
namespace Go.Proofs.YtpdledjgbgalcaaGreatDoor
set_option maxRecDepth 100000
set_option maxHeartbeats 8000000
open Go.RowKit Go.Lib Go.Proofs.Tryz
set_option linter.unusedVariables false
set_option linter.unusedSimpArgs false
theorem beqN (a b:ByteArray):decide (a=b)=(a.toList==b.toList):=by
 rw [<-beq_toListBytes];show decide (a=b)=(a.data==b.data)
 by_cases h:a=b
 ·subst h;simp
 ·rw [decide_eq_false h]
  symm
  rw [beq_eq_false_iff_ne];exact fun h2=>h (ByteArray.ext h2)
theorem sgverify_any (b h:Int) (H:ByteArray) (aa:H.size=32) (ix:Nat) (Z:ix < 256) (J Aq:Option Addr) (G nq L K B:Nat) (ps qs:List ByteArray) (w:World) (hG:Glob w) (hp:Sl fT w B J G ps) (hq:Sl fT w B Aq nq qs) (Y:B<=w.heap.size) (hn:G<=300) (hm:nq<=8) (N:∀s∈ps,s.size=32) (U:∀s∈qs,s.size=32) (O:ByteArray):
 Calls prog 90 #[.agg (cSc b h),.string O,.string H,.agg (cSg ix J G L Aq nq K)] w fun e W=>e= .returned (.bool (sgF b h ix G nq&&decide (sgR b H ix ps qs=O)))/\Below w.heap.size w W:=by
 have HR:Hid (∀V,Below w.heap.size w V->Calls prog 152 #[.agg (cSc b h),.string H,.agg (cSg ix J G L Aq nq K)] V fun e W=>∃r er,e= .returned (.tuple #[.string r,.int .i64 er])/\(er=0/\sgF b h ix G nq=true/\r=sgR b H ix ps qs∨er=1/\sgF b h ix G nq=false)/\Below V.heap.size V W):=fun V M=>sgroot_any b h H aa ix Z J Aq G nq L K B ps qs V (hG.on M) (hp.up M Y) (hq.up M Y) (lT Y M.size) hn hm N U;have HB:Hid (Below w.heap.size w ((w.alloc (.cells (cSc b h) 26)).alloc (.cells (cSg ix J G L Aq nq K) 33))):=bl.alloc sI _;have HC:=lh (HR.out _ HB.out);clear hp hq N U hG HR;go_enter func90,ntmps90;go_wp2_with (go_at_call 152;(with_reducible refine HC.out.mono ?_);rintro e w4 ⟨r,er,rfl,hr,T⟩;(have z:=lh (bt HB.out T));clear T;rcases hr with ⟨rfl,hf,rfl⟩ |⟨rfl,hf⟩)
 all_goals
  have HF:=lh hf;clear hf;go_wp2;go_ret;exact ⟨by rw [HF.out];first |rfl |(rw [beqN];rfl),z.out⟩
theorem rgpar_any (b h:Int) (w:World):Calls prog 162 #[.agg (cSc b h)] w fun e G=>e= .returned (.agg (cPm b))/\Below w.heap.size w G:=by
 have HB:Hid (Below w.heap.size w (w.alloc (.cells (cSc b h) 26))):=bl;go_enter func162,ntmps162;go_wp2;exact bodyPost_ret (v:= .agg (cPm b)) (by simp [results,Tryz.results162,go_sem]) rfl ⟨rfl,HB.out.alloc HB.out.size _⟩
theorem rsums_any (A:Option Addr) (n c B:Nat) (ys:List ByteArray) (w:World) (G:Sl fT w B A n ys) (hn:n<=1000000) (H:∀s∈ys,s.size=32):
 Calls prog 155 #[.slice A n c] w fun e K=>e= .returned (.bool true)/\w=K:=by
 have M:=lh G;have HXN:Hid (ys.length=n):=G.1;have L:=lh H;clear G H;go_enter func155,ntmps155;go_wp2
 go_loopw [7] (fun i wr=>(∃k:Nat,k<=n/\i= .int .i64 k)/\w=wr) (fun i _=>n - (intOf i).toNat)
 case atStart=>exact ⟨⟨0,by omega,rfl⟩,rfl⟩
 case round=>
  obtain ⟨⟨k,U,rfl⟩,rfl⟩:=hrel
  by_cases hlt:k < n
  ·obtain ⟨W,Z,x,rfl,_,J,Y⟩:=M.out.2.at_ (k:=k) yba;have T:(k:Int) < (n:Int):=by omega
   have O:(0:Int)<=(k:Int):=by omega
   have N:((x.size:Int) != 32)=false:=by simp [L.out x (List.mem_of_getElem? J)]
   clear J;go_wp2;refine ⟨?rel,?measure⟩;case rel=>exact ⟨⟨k+1,by omega,by go_num⟩,by first |rfl |trivial⟩
   case measure=>(simp [intOf]<;>omega)
  ·obtain rfl:k=n:=by omega
   go_wp2;go_ret;exact ⟨rfl,by first |rfl |trivial⟩
theorem rclimb_any (L:ByteArray) (hL:L.size=32) (ix:Nat) (aj:ix < 256) (Aq:Option Addr) (nq cq B:Nat) (qs:List ByteArray) (w:World) (hq:Sl fT w B Aq nq qs) (hB:B<=w.heap.size) (hm:nq<=8) (ag:∀s∈qs,s.size=32):
 Calls prog 160 #[.string L,.int .i64 ix,.slice Aq nq cq] w fun e N=>e= .returned (.string (clF L ix qs))/\Below w.heap.size w N:=by
 have HQ:Hid (∀V,Below w.heap.size w V->Sl fT V B Aq nq qs):=fun V hv=>hq.up hv hB;have HQL:Hid (qs.length=nq):=hq.1;have ao:=lh ag;have ai:=lh hL;have ac:Hid (Below w.heap.size w w):=Below.refl _ _;have O:Hid (clF L ix qs=clF L (ix / 2 ^ 0) (qs.drop 0)):=by show _=_;rw [Nat.pow_zero,Nat.div_one,List.drop_zero]
 have ae:Hid (ix / 2 ^ 0=ix):=by show _=_;rw [Nat.pow_zero,Nat.div_one]
 clear hq ag hL;go_enter func160,ntmps160;go_upto_region 2 with fail
 go_loopw [0,1,11] (fun v j i wr=>∃(m t:Nat) (G:ByteArray),m<=nq/\i= .int .i64 m/\j= .int .i64 t/\t < 256/\v= .string G/\Hid (ix / 2 ^ m=t)/\Hid (G.size=32)/\Hid (clF L ix qs=clF G (ix / 2 ^ m) (qs.drop m))/\Hid (Below w.heap.size w wr)) (fun _ _ i _=>nq - (intOf i).toNat)
 case atStart=>exact ⟨0,ix,L,by omega,rfl,rfl,aj,rfl,ae,ai,O,ac⟩
 case round=>
  clear ac O ae;obtain ⟨m,t,G,ap,rfl,rfl,ht,rfl,HT,z,HCL,HBr⟩:=hrel
  by_cases hml:m < nq
  ·have au:(m:Int) < (nq:Int):=by omega
   have ar:(0:Int)<=(m:Int):=by omega
   obtain ⟨bq,oq,x,am,_,T,aq⟩:=(HQ.out wr HBr.out).2.at_ (k:=m) ybb;have K:=ao.out x (List.mem_of_getElem? T);subst am
   have H:Hid (clF L ix qs=clF (if t % 2=0 then ndS G x else ndS x G) (ix / 2 ^ (m+1)) (qs.drop (m+1))):=by
    show _=_;rw [HCL.out,HT.out,List.drop_eq_getElem_cons ybb]
    have hx:qs[m]' ybb=x:=by
     have:=List.getElem?_eq_getElem (l:=qs) (i:=m) ybb;rw [T] at this;exact (Option.some.inj this).symm
    rw [hx,clF,Nat.pow_succ,<-Nat.div_div_eq_div_mul,HT.out]
   have Z:Hid (ix / 2 ^ (m+1)=t / 2):=by show _=_;rw [Nat.pow_succ,<-Nat.div_div_eq_div_mul,HT.out]
   have al:Hid (Calls prog 125 #[.string G,.string x] wr fun e N=>e= .returned (.string (ndS G x))/\Below wr.heap.size wr N):=yc1 G x wr (by rw [z.out];omega) (by rw [K];omega);have ak:Hid (Calls prog 125 #[.string x,.string G] wr fun e N=>e= .returned (.string (ndS x G))/\Below wr.heap.size wr N):=yc1 x G wr (by rw [K];omega) (by rw [z.out];omega);have ah:t % 2=0∨t % 2=1:=by omega
   have M:Hid (m+1<=nq):=hml;have U:(t:Int) / 2=((t / 2:Nat):Int):=by omega
   have W:Hid (t / 2 < 256):=by show _ < _;omega
   obtain ⟨t2,af⟩:=gX (t / 2);rw [af] at U W Z;clear T K af;rcases ah with hp |hp
   ·have Y:(t:Int) % 2=0:=by omega
    rw [hp,if_pos rfl] at H;clear hp;go_wp2_with (go_at_call 125;(with_reducible refine al.out.mono ?_);rintro e aa ⟨rfl,J⟩;(have HB10:Hid (Below w.heap.size w aa):=HBr.out.trans (Below.mono J HBr.out.size));clear J);refine ⟨?rel,?measure⟩;case rel=>exact ⟨m+1,t2,_,M.out,by go_num,rfl,W.out,rfl,Z,ydc _ _,H,HB10⟩
    case measure=>(have:=M.out;clear U Y;simp [intOf]<;>omega)
   ·have Y:(t:Int) % 2=1:=by omega
    rw [hp,if_neg de] at H;clear hp;go_wp2_with (go_at_call 125;(with_reducible refine ak.out.mono ?_);rintro e aa ⟨rfl,J⟩;(have HB10:Hid (Below w.heap.size w aa):=HBr.out.trans (Below.mono J HBr.out.size));clear J);refine ⟨?rel,?measure⟩;case rel=>exact ⟨m+1,t2,_,M.out,by go_num,rfl,W.out,rfl,Z,ydc _ _,H,HB10⟩
    case measure=>(have:=M.out;clear U Y;simp [intOf]<;>omega)
  ·obtain rfl:m=nq:=by omega
   have HE:Hid (clF L ix qs=G):=by show _=_;rw [HCL.out,List.drop_eq_nil_of_le (by rw [HQL.out];exact Nat.le_refl _)];rfl
   go_wp2;go_ret;exact ⟨by rw [HE.out];rfl,HBr.out⟩
theorem rfits_any (b h:Int) (dg:ByteArray) (aH:dg.size=32) (ix:Nat) (aL:ix < 256) (U Aq:Option Addr) (L nq cp z B:Nat) (ps qs:List ByteArray) (w:World) (hp:Sl fT w B U L ps) (hq:Sl fT w B Aq nq qs) (hB:B<=w.heap.size) (hn:L<=300) (hm:nq<=8) (ax:∀s∈ps,s.size=32) (aw:∀s∈qs,s.size=32):
 Calls prog 159 #[.agg (cSc b h),.string dg,.agg (cSg ix U L cp Aq nq z)] w fun e G=>e= .returned (.bool (sgF b h ix L nq))/\Below w.heap.size w G:=by
 have HV:=lh (fun W=>rgvalid_any b h W);have HF:Hid (sgF b h ix L nq=(sgOk b h&&(decide (ix < 2 ^ h.toNat)&&(decide ((nq:Int)=h)&&decide (L=mN b.toNat+cN b.toNat))))):=rfl;have aR:((dg.size:Int)==32)=true:=by simp [aH]
 obtain ⟨M,ac⟩:∃M:World,M=(w.alloc (.cells (cSc b h) 26)).alloc (.cells (cSg (ix:Int) U L cp Aq nq z) 33):=⟨_,rfl⟩
 have aA:M.heap.size=w.heap.size+2:=by rw [ac];simp
 have ay:M.heap[w.heap.size]? =some (.cells (cSc b h) 26 (0,0)):=by
  rw [ac];exact (zx _ _ _ sI).trans (zy w _)
 have aq:M.heap[w.heap.size+1]? =some (.cells (cSg (ix:Int) U L cp Aq nq z) 33 (0,0)):=by
  rw [ac];have:=zy (w.alloc (.cells (cSc b h) 26)) (.cells (cSg (ix:Int) U L cp Aq nq z) 33);simpa using this
 have HC:Hid (∀V,Below (w.heap.size+2) M V->V.cell? ⟨w.heap.size,0,none⟩=some (.int .i64 b)/\V.cell? ⟨w.heap.size,1,none⟩=some (.int .i64 h)/\V.cell? ⟨w.heap.size+1,0,none⟩=some (.int .i64 (ix:Int))/\V.cell? ⟨w.heap.size+1,1,none⟩=some (.slice U L cp)/\V.cell? ⟨w.heap.size+1,2,none⟩=some (.slice Aq nq z)):=fun V hv=>by
  have q:=(hv.block w.heap.size om).trans ay;have q2:=(hv.block (w.heap.size+1) om).trans aq;refine ⟨?_,?_,?_,?_,?_⟩
  ·rw [cell_of_row V _ _ _ _ _ q];rfl
  ·rw [cell_of_row V _ _ _ _ _ q];rfl
  ·rw [cell_of_row V _ _ _ _ _ q2];rfl
  ·rw [cell_of_row V _ _ _ _ _ q2];rfl
  ·rw [cell_of_row V _ _ _ _ _ q2];rfl
 have HB:Hid (Below w.heap.size w M):=by
  show Below ..
  rw [ac];exact bl.alloc sI _
 have HS:=lh aA;have HWE:=lh ac;have HB1:Hid (Below (w.heap.size+2) M M):=Below.refl _ _;clear ay aq aA ac
 cases aa:sgOk b h with
 |false=>
  rw [aa,Bool.false_and] at HF;have T:=HF;rw [aa] at HV;obtain ⟨c0,c1,c2,c3,c4⟩:=HC.out M HB1.out;clear hp hq ax aw aa HF;go_enter func159,ntmps159;go_upto_region 1 with fail
  rw [<-HWE.out];go_wp2_with fail;refine rH (S:=(fun G=>G.cell? ⟨w.heap.size,0,none⟩=some (.int .i64 b)/\G.cell? ⟨w.heap.size,1,none⟩=some (.int .i64 h)/\G.cell? ⟨w.heap.size+1,0,none⟩=some (.int .i64 (ix:Int))/\G.cell? ⟨w.heap.size+1,1,none⟩=some (.slice U L cp)/\G.cell? ⟨w.heap.size+1,2,none⟩=some (.slice Aq nq z))) ybi yam (fun N=>?_);refine tkY 0 ?_;refine rd1 1 (fun K J=>?_)
  (go_simp;go_at_call 205;(with_reducible refine (HV.out _).mono ?_);rintro e w4 ⟨rfl,O⟩;(have HBx:Hid (Below (w.heap.size+2) M w4):=Below.trans (B:=w.heap.size+2) yaL (Below.mono O (Nat.le_of_eq HS.out.symm)));clear O;go_wp2_with fail)
  refine J.out _ _ yam (fun aE=>?_);clear J K N
  try simp only [pt]
  refine tkY 2 ?_;refine tkN 3 ?_;refine tkN 4 ?_;refine tkN 5 ?_
  (iterate 2 refine tkA ?_)
  refine tkN 8 ?_;refine tkN 9 ?_;refine tkN 10 ?_
  (iterate 2 refine tkA ?_)
  refine tkN 13 ?_;refine tkN 14 ?_;refine tkN 15 ?_;refine tkN 16 ?_;refine tkN 17 ?_;refine tkN 18 ?_
  (iterate 2 refine tkA ?_)
  refine tkN 21 ?_;refine tkN 22 ?_;refine tkN 23 ?_;refine tkN 24 ?_;refine tkN 25 ?_
  (iterate 2 refine tkA ?_)
  refine tkN 28 ?_;refine tkN 29 ?_;refine tkN 30 ?_;refine tkN 31 ?_;refine tkN 32 ?_;refine tkN 33 ?_
  (iterate 2 refine tkA ?_)
  refine tkN 36 ?_;refine tkN 37 ?_;refine tkN 38 ?_
  (iterate 2 refine tkA ?_)
  refine wpAnyH_done ybi ?_ _;go_wp2_with fail;go_ret;exact ⟨by rw [T.out];rfl,HB.out.trans (HBx.out.mono (Nat.le_add_right _ 2))⟩
 |true=>
  obtain ⟨ar,aO,aN⟩:=sgOk_bit aa;rw [aa,Bool.true_and] at HF;rw [aa] at HV;obtain ⟨H,rfl⟩:∃H:Nat,h=(H:Int):=⟨h.toNat,by omega⟩
  rw [Int.toNat_natCast] at HF;have aJ:H<=8:=by omega
  have aQ:decide (0<=(ix:Int))=true:=by simp
  obtain ⟨P,hP⟩:=gX (2 ^ H);have aK:P<=256:=by rw [<-hP];exact lT (Nat.pow_le_pow_right de aJ) de
  have aM:IntKind.i64.wrap ((2:Int) ^ H)=(P:Int):=by
   rw [show ((2:Int) ^ H)=(P:Int) by rw [<-hP];simp];exact IntWalk.i64_in _ om
  rw [hP] at HF;have aP:=lh hP;clear hP;have ap:=lh (fun W=>rgpar_any b H W);have ai:Hid (∀V,Below (w.heap.size+2) M V->Calls prog 206 #[.agg (cPm b),.slice U L cp] V fun e G=>e= .returned (.bool ((L:Int)==((mN b.toNat+cN b.toNat:Nat):Int)))/\Below V.heap.size V G):=fun V hv=>rparts_any b b.toNat ar U L cp B ps V ((hp.up HB.out hB).up hv (lT hB (Nat.le_add_right _ 2))) (lT (lT hB HB.out.size) (HS.out▸hv.size:M.heap.size<=V.heap.size)) om ax;have aG:Hid (∀V,Below (w.heap.size+2) M V->Calls prog 155 #[.slice Aq nq z] V fun e G=>e= .returned (.bool true)/\V=G):=fun V hv=>rsums_any Aq nq z B qs V ((hq.up HB.out hB).up hv (lT hB (Nat.le_add_right _ 2))) om aw;obtain ⟨c0,c1,c2,c3,c4⟩:=HC.out M HB1.out;clear hp hq ax aw aa ar
  by_cases hlt:ix < P
  ·have au:decide (ix < P)=true:=by simp [hlt]
   have aF:decide ((ix:Int) < (P:Int))=true:=by simp;omega
   rw [au,Bool.true_and] at HF
   by_cases hT:L=mN b.toNat+cN b.toNat
   ·have af:((L:Int)==((mN b.toNat+cN b.toNat:Nat):Int))=true:=by rw [hT];simp
    rw [af] at ai;rw [decide_eq_true hT,Bool.and_true] at HF;clear af
    by_cases ao:nq=H
    ·
     have aI:((nq:Int)==(H:Int))=true:=by simp [ao]
     have T:Hid (sgF b H ix L nq=true):=by show _=_;rw [HF.out];simp [ao]
     clear hT HF hlt ao;go_enter func159,ntmps159;go_upto_region 1 with fail
     rw [<-HWE.out];go_wp2_with fail;refine rH (S:=(fun G=>G.cell? ⟨w.heap.size,0,none⟩=some (.int .i64 b)/\G.cell? ⟨w.heap.size,1,none⟩=some (.int .i64 (H:Int))/\G.cell? ⟨w.heap.size+1,0,none⟩=some (.int .i64 (ix:Int))/\G.cell? ⟨w.heap.size+1,1,none⟩=some (.slice U L cp)/\G.cell? ⟨w.heap.size+1,2,none⟩=some (.slice Aq nq z))) ybi yam (fun N=>?_);refine tkY 0 ?_;refine rd1 1 (fun K J=>?_)
     (go_simp;go_at_call 205;(with_reducible refine (HV.out _).mono ?_);rintro e w4 ⟨rfl,O⟩;(have HBx:Hid (Below (w.heap.size+2) M w4):=Below.trans (B:=w.heap.size+2) yaL (Below.mono O (Nat.le_of_eq HS.out.symm)));clear O;go_wp2_with fail)
     refine J.out _ _ yam (fun am=>?_);clear J K N
     try simp only [pt]
     (iterate 20 refine tkA ?_)
     refine tkY 23 ?_;refine tkY 24 ?_;refine rd1 22 (fun K J=>?_)
     (go_simp;go_at_call 162;(with_reducible refine (ap.out _).mono ?_);rintro e w5 ⟨rfl,Z⟩;(have HBx:Hid (Below (w.heap.size+2) M w5):=HBx.out.trans (Below.mono Z (HS.out▸HBx.out.size)));clear Z;go_wp2_with fail)
     refine J.out _ _ yam (fun aj=>?_);clear J K am
     try simp only [pt]
     refine rd1 25 (fun K J=>?_)
     (go_simp;go_at_call 206;(with_reducible refine (ai.out _ HBx.out).mono ?_);rintro e w6 ⟨rfl,Y⟩;(have HBx:Hid (Below (w.heap.size+2) M w6):=HBx.out.trans (Below.mono Y (HS.out▸HBx.out.size)));clear Y;go_wp2_with fail)
     refine J.out _ _ yam (fun ae=>?_);clear J K aj
     try simp only [pt]
     (iterate 12 refine tkA ?_)
     refine rd1 38 (fun K J=>?_)
     (go_simp;go_at_call 155;(with_reducible refine (aG.out _ HBx.out).mono ?_);rintro e w7 ⟨rfl,rfl⟩;go_wp2_with fail)
     refine J.out _ _ yam (fun az=>?_);clear J K ae
     try simp only [pt]
     (iterate 2 refine tkA ?_)
     refine wpAnyH_done ybi ?_ _;go_wp2_with fail;go_ret;exact ⟨by rw [T.out];rfl,HB.out.trans (HBx.out.mono (Nat.le_add_right _ 2))⟩
    ·
     have aI:((nq:Int)==(H:Int))=false:=by simp;omega
     have T:Hid (sgF b H ix L nq=false):=by show _=_;rw [HF.out];simp;omega
     clear hT HF hlt ao;go_enter func159,ntmps159;go_upto_region 1 with fail
     rw [<-HWE.out];go_wp2_with fail;refine rH (S:=(fun G=>G.cell? ⟨w.heap.size,0,none⟩=some (.int .i64 b)/\G.cell? ⟨w.heap.size,1,none⟩=some (.int .i64 (H:Int))/\G.cell? ⟨w.heap.size+1,0,none⟩=some (.int .i64 (ix:Int))/\G.cell? ⟨w.heap.size+1,1,none⟩=some (.slice U L cp)/\G.cell? ⟨w.heap.size+1,2,none⟩=some (.slice Aq nq z))) ybi yam (fun N=>?_);refine tkY 0 ?_;refine rd1 1 (fun K J=>?_)
     (go_simp;go_at_call 205;(with_reducible refine (HV.out _).mono ?_);rintro e w4 ⟨rfl,O⟩;(have HBx:Hid (Below (w.heap.size+2) M w4):=Below.trans (B:=w.heap.size+2) yaL (Below.mono O (Nat.le_of_eq HS.out.symm)));clear O;go_wp2_with fail)
     refine J.out _ _ yam (fun ak=>?_);clear J K N
     try simp only [pt]
     (iterate 20 refine tkA ?_)
     refine tkY 23 ?_;refine tkY 24 ?_;refine rd1 22 (fun K J=>?_)
     (go_simp;go_at_call 162;(with_reducible refine (ap.out _).mono ?_);rintro e w5 ⟨rfl,Z⟩;(have HBx:Hid (Below (w.heap.size+2) M w5):=HBx.out.trans (Below.mono Z (HS.out▸HBx.out.size)));clear Z;go_wp2_with fail)
     refine J.out _ _ yam (fun ah=>?_);clear J K ak
     try simp only [pt]
     refine rd1 25 (fun K J=>?_)
     (go_simp;go_at_call 206;(with_reducible refine (ai.out _ HBx.out).mono ?_);rintro e w6 ⟨rfl,Y⟩;(have HBx:Hid (Below (w.heap.size+2) M w6):=HBx.out.trans (Below.mono Y (HS.out▸HBx.out.size)));clear Y;go_wp2_with fail)
     refine J.out _ _ yam (fun aB=>?_);clear J K ah
     try simp only [pt]
     (iterate 10 refine tkA ?_)
     refine tkN 36 ?_;refine tkN 37 ?_;refine tkN 38 ?_
     (iterate 2 refine tkA ?_)
     refine wpAnyH_done ybi ?_ _;go_wp2_with fail;go_ret;exact ⟨by rw [T.out];rfl,HB.out.trans (HBx.out.mono (Nat.le_add_right _ 2))⟩
   ·
    have af:((L:Int)==((mN b.toNat+cN b.toNat:Nat):Int))=false:=by simp;omega
    rw [af] at ai;have T:Hid (sgF b H ix L nq=false):=by show _=_;rw [HF.out,decide_eq_false hT,Bool.and_false]
    clear hT af HF hlt;go_enter func159,ntmps159;go_upto_region 1 with fail
    rw [<-HWE.out];go_wp2_with fail;refine rH (S:=(fun G=>G.cell? ⟨w.heap.size,0,none⟩=some (.int .i64 b)/\G.cell? ⟨w.heap.size,1,none⟩=some (.int .i64 (H:Int))/\G.cell? ⟨w.heap.size+1,0,none⟩=some (.int .i64 (ix:Int))/\G.cell? ⟨w.heap.size+1,1,none⟩=some (.slice U L cp)/\G.cell? ⟨w.heap.size+1,2,none⟩=some (.slice Aq nq z))) ybi yam (fun N=>?_);refine tkY 0 ?_;refine rd1 1 (fun K J=>?_)
    (go_simp;go_at_call 205;(with_reducible refine (HV.out _).mono ?_);rintro e w4 ⟨rfl,O⟩;(have HBx:Hid (Below (w.heap.size+2) M w4):=Below.trans (B:=w.heap.size+2) yaL (Below.mono O (Nat.le_of_eq HS.out.symm)));clear O;go_wp2_with fail)
    refine J.out _ _ yam (fun al=>?_);clear J K N
    try simp only [pt]
    (iterate 20 refine tkA ?_)
    refine tkY 23 ?_;refine tkY 24 ?_;refine rd1 22 (fun K J=>?_)
    (go_simp;go_at_call 162;(with_reducible refine (ap.out _).mono ?_);rintro e w5 ⟨rfl,Z⟩;(have HBx:Hid (Below (w.heap.size+2) M w5):=HBx.out.trans (Below.mono Z (HS.out▸HBx.out.size)));clear Z;go_wp2_with fail)
    refine J.out _ _ yam (fun ag=>?_);clear J K al
    try simp only [pt]
    refine rd1 25 (fun K J=>?_)
    (go_simp;go_at_call 206;(with_reducible refine (ai.out _ HBx.out).mono ?_);rintro e w6 ⟨rfl,Y⟩;(have HBx:Hid (Below (w.heap.size+2) M w6):=HBx.out.trans (Below.mono Y (HS.out▸HBx.out.size)));clear Y;go_wp2_with fail)
    refine J.out _ _ yam (fun aC=>?_);clear J K ag
    try simp only [pt]
    (iterate 2 refine tkA ?_)
    refine tkN 28 ?_;refine tkN 29 ?_;refine tkN 30 ?_;refine tkN 31 ?_;refine tkN 32 ?_;refine tkN 33 ?_
    (iterate 2 refine tkA ?_)
    refine tkN 36 ?_;refine tkN 37 ?_;refine tkN 38 ?_
    (iterate 2 refine tkA ?_)
    refine wpAnyH_done ybi ?_ _;go_wp2_with fail;go_ret;exact ⟨by rw [T.out];rfl,HB.out.trans (HBx.out.mono (Nat.le_add_right _ 2))⟩
  ·
   have au:decide (ix < P)=false:=by simp;omega
   have aF:decide ((ix:Int) < (P:Int))=false:=by simp;omega
   have T:Hid (sgF b H ix L nq=false):=by show _=_;rw [HF.out,au];rfl
   clear HF hlt;go_enter func159,ntmps159;go_upto_region 1 with fail
   rw [<-HWE.out];go_wp2_with fail;refine rH (S:=(fun G=>G.cell? ⟨w.heap.size,0,none⟩=some (.int .i64 b)/\G.cell? ⟨w.heap.size,1,none⟩=some (.int .i64 (H:Int))/\G.cell? ⟨w.heap.size+1,0,none⟩=some (.int .i64 (ix:Int))/\G.cell? ⟨w.heap.size+1,1,none⟩=some (.slice U L cp)/\G.cell? ⟨w.heap.size+1,2,none⟩=some (.slice Aq nq z))) ybi yam (fun N=>?_);refine tkY 0 ?_;refine rd1 1 (fun K J=>?_)
   (go_simp;go_at_call 205;(with_reducible refine (HV.out _).mono ?_);rintro e w4 ⟨rfl,O⟩;(have HBx:Hid (Below (w.heap.size+2) M w4):=Below.trans (B:=w.heap.size+2) yaL (Below.mono O (Nat.le_of_eq HS.out.symm)));clear O;go_wp2_with fail)
   refine J.out _ _ yam (fun aD=>?_);clear J K N
   try simp only [pt]
   (iterate 19 refine tkA ?_)
   refine tkN 21 ?_;refine tkN 22 ?_;refine tkN 23 ?_;refine tkN 24 ?_;refine tkN 25 ?_
   (iterate 2 refine tkA ?_)
   refine tkN 28 ?_;refine tkN 29 ?_;refine tkN 30 ?_;refine tkN 31 ?_;refine tkN 32 ?_;refine tkN 33 ?_
   (iterate 2 refine tkA ?_)
   refine tkN 36 ?_;refine tkN 37 ?_;refine tkN 38 ?_
   (iterate 2 refine tkA ?_)
   refine wpAnyH_done ybi ?_ _;go_wp2_with fail;go_ret;exact ⟨by rw [T.out];rfl,HB.out.trans (HBx.out.mono (Nat.le_add_right _ 2))⟩
theorem rgroot_any (b h:Int) (T:ByteArray) (aC:T.size=32) (ix:Nat) (az:ix < 256) (O Aq:Option Addr) (H nq Z U B:Nat) (ps qs:List ByteArray) (w:World) (hp:Sl fT w B O H ps) (hq:Sl fT w B Aq nq qs) (hB:B<=w.heap.size) (hn:H<=300) (hm:nq<=8) (ai:∀s∈ps,s.size=32) (ag:∀s∈qs,s.size=32):
 Calls prog 97 #[.agg (cSc b h),.string T,.agg (cSg ix O H Z Aq nq U)] w fun e J=>∃r er,e= .returned (.tuple #[.string r,.int .i64 er])/\(er=0/\sgF b h ix H nq=true/\r=sgR b T ix ps qs∨er=1/\sgF b h ix H nq=false)/\Below w.heap.size w J:=by
 have ar:Hid (∀V,Below w.heap.size w V->Calls prog 159 #[.agg (cSc b h),.string T,.agg (cSg ix O H Z Aq nq U)] V fun e J=>e= .returned (.bool (sgF b h ix H nq))/\Below V.heap.size V J):=fun V hb=>rfits_any b h T aC ix az O Aq H nq Z U B ps qs V (hp.up hb hB) (hq.up hb hB) (lT hB hb.size) hn hm ai ag;obtain ⟨G,z⟩:∃G:World,G=(w.alloc (.cells (cSc b h) 26)).alloc (.cells (cSg (ix:Int) O H Z Aq nq U) 33):=⟨_,rfl⟩
 have aH:G.heap.size=w.heap.size+2:=by rw [z];simp
 have ay:G.heap[w.heap.size]? =some (.cells (cSc b h) 26 (0,0)):=by
  rw [z];exact (zx _ _ _ sI).trans (zy w _)
 have ap:G.heap[w.heap.size+1]? =some (.cells (cSg (ix:Int) O H Z Aq nq U) 33 (0,0)):=by
  rw [z];have:=zy (w.alloc (.cells (cSc b h) 26)) (.cells (cSg (ix:Int) O H Z Aq nq U) 33);simpa using this
 have HC:Hid (∀V,Below (w.heap.size+2) G V->V.cell? ⟨w.heap.size,0,none⟩=some (.int .i64 b)/\V.cell? ⟨w.heap.size,1,none⟩=some (.int .i64 h)/\V.cell? ⟨w.heap.size+1,0,none⟩=some (.int .i64 (ix:Int))/\V.cell? ⟨w.heap.size+1,1,none⟩=some (.slice O H Z)/\V.cell? ⟨w.heap.size+1,2,none⟩=some (.slice Aq nq U)):=fun V N=>by
  have q:=(N.block w.heap.size om).trans ay;have q2:=(N.block (w.heap.size+1) om).trans ap;refine ⟨?_,?_,?_,?_,?_⟩
  ·rw [cell_of_row V _ _ _ _ _ q];rfl
  ·rw [cell_of_row V _ _ _ _ _ q];rfl
  ·rw [cell_of_row V _ _ _ _ _ q2];rfl
  ·rw [cell_of_row V _ _ _ _ _ q2];rfl
  ·rw [cell_of_row V _ _ _ _ _ q2];rfl
 have HB:Hid (Below w.heap.size w G):=by
  show Below ..
  rw [z];exact bl.alloc sI _
 have HS:=lh aH;have HWE:=lh z;have HB1:Hid (Below (w.heap.size+2) G G):=Below.refl _ _;clear ay ap aH z;have aj:=lh (ar.out G HB.out);obtain ⟨c0,c1,c2,c3,c4⟩:=HC.out G HB1.out;rcases Bool.eq_false_or_eq_true (sgF b h ix H nq) with hf |hf
 rotate_left
 ·rw [hf] at aj;have ao:=lh hf;clear hp hq ai ag ar hf;go_enter func97,ntmps97;go_upto_region 1 with fail
  rw [<-HWE.out];go_wp2_with (go_at_call 159;(with_reducible refine aj.out.mono ?_);rintro e w4 ⟨rfl,aa⟩;(have aR:=lh (bt HB.out aa));clear aa);go_ret2;exact ⟨_,_,rfl,Or.inr ⟨rfl,ao.out⟩,aR.out⟩
 ·rw [hf] at aj;have ao:=lh hf;have aB:(sgOk b h&&(decide (ix < 2 ^ h.toNat)&&(decide ((nq:Int)=h)&&decide (H=mN b.toNat+cN b.toNat))))=true:=hf;simp only [Bool.and_eq_true,decide_eq_true_eq] at aB;obtain ⟨aJ,_,_,hT⟩:=aB;obtain ⟨aq,_,_⟩:=sgOk_bit aJ;have HQ:Hid (∀V,Below (w.heap.size+2) G V->Sl fT V B Aq nq qs/\Sl fT V B O H ps/\B<=V.heap.size):=fun V N=>⟨(hq.up HB.out hB).up N (lT hB (Nat.le_add_right _ 2)),(hp.up HB.out hB).up N (lT hB (Nat.le_add_right _ 2)),Nat.le_trans (lT hB HB.out.size) (HS.out▸N.size:G.heap.size<=V.heap.size)⟩;have aN:=lh (fun W=>rgpar_any b h W);have aI:Hid (∀V,Below (w.heap.size+2) G V->Calls prog 161 #[.agg (cPm b),.string T,.slice O H Z] V fun e J=>e= .returned (.string (pubF b.toNat (dgF b.toNat (sB T)) ps))/\Below V.heap.size V J):=fun V N=>rrecover_any b b.toNat aq T aC O H Z B ps V (HQ.out V N).2.1 (HQ.out V N).2.2 hT ai;obtain ⟨Y,af⟩:=gX (pubF b.toNat (dgF b.toNat (sB T)) ps);have ah:Y.size=32:=by rw [<-af];unfold pubF;rw [<-ybS,ybL (ycJ _),ycv]
  have au:Hid (sgR b T ix ps qs=clF (leafS (sB Y)) ix qs):=by show _=_;rw [<-af];rfl
  rw [af] at aI;have aP:=lh ah;obtain ⟨L,hL⟩:=gX (leafS (sB Y));have am:L.size=32:=by rw [<-hL];exact ycq _
  have aO:Hid (∀(V:World) A' c',Below (w.heap.size+2) G V->Sl fB V V.heap.size A' Y.size (sB Y)->Calls prog 157 #[.slice A' Y.size c'] V fun e J=>e= .returned (.string L)/\Below V.heap.size V J):=fun V A' c' N hs=>hL▸ydC A' Y.size c' V.heap.size (sB Y) V hs nl (by rw [aP.out];omega) (ycR Y);rw [hL] at au;have HCL:Hid (∀V,Below (w.heap.size+2) G V->Calls prog 160 #[.string L,.int .i64 ix,.slice Aq nq U] V fun e J=>e= .returned (.string (clF L ix qs))/\Below V.heap.size V J):=fun V N=>rclimb_any L am ix az Aq nq U B qs V (HQ.out V N).1 (HQ.out V N).2.2 hm ag;obtain ⟨rt,aK⟩:=gX (clF L ix qs);rw [aK] at HCL au;clear hp hq ai ag ar hf aJ aq hT af ah hL am aK;go_enter func97,ntmps97;go_upto_region 1 with fail
  rw [<-HWE.out];go_wp2_with (go_at_call 159;(with_reducible refine aj.out.mono ?_);rintro e w4 ⟨rfl,aa⟩;(have HBx:Hid (Below (w.heap.size+2) G w4):=Below.mono aa (Nat.le_of_eq HS.out.symm));(obtain ⟨c0,c1,c2,c3,c4⟩:=HC.out w4 HBx.out);clear aa);refine rH (S:=(fun J=>J.cell? ⟨w.heap.size,0,none⟩=some (.int .i64 b)/\J.cell? ⟨w.heap.size,1,none⟩=some (.int .i64 h)/\J.cell? ⟨w.heap.size+1,0,none⟩=some (.int .i64 (ix:Int))/\J.cell? ⟨w.heap.size+1,1,none⟩=some (.slice O H Z)/\J.cell? ⟨w.heap.size+1,2,none⟩=some (.slice Aq nq U))) ybi yam (fun ax=>?_);refine tkY 0 ?_;refine tkY 2 ?_;refine tkY 3 ?_;refine tkY 4 ?_;refine tkY 8 ?_;refine tkY 9 ?_;refine tkY 10 ?_;refine tkY 11 ?_;refine rd1 1 (fun K M=>?_)
  (go_simp;go_at_call 162;(with_reducible refine (aN.out _).mono ?_);rintro e w5 ⟨rfl,aG⟩;(have HBx:Hid (Below (w.heap.size+2) G w5):=Below.trans (B:=w.heap.size+2) (by repeat (first |exact HBx.out |refine Below.drew ?_ |refine below_dN' ?_ _ |refine ybl ?_ _)) (Below.mono aG (HS.out▸HBx.out.size)));clear aG;go_wp2_with fail)
  refine M.out _ _ yam (fun al=>?_);clear M K ax
  try simp only [pt]
  refine rd1 5 (fun K M=>?_)
  (go_simp;go_at_call 161;(with_reducible refine (aI.out _ HBx.out).mono ?_);rintro e w6 ⟨rfl,aE⟩;(have HBx:Hid (Below (w.heap.size+2) G w6):=HBx.out.trans (Below.mono aE (HS.out▸HBx.out.size)));clear aE;go_wp2_with fail)
  refine M.out _ _ yam (fun ak=>?_);clear M K al
  try simp only [pt]
  refine rd1 6 (fun K M=>?_)
  ((refine yd5 (.tmp 18) rfl rfl Y rfl ?_);intro cb W8 aD aM aA;(have HBx:Hid (Below (w.heap.size+2) G W8):=HBx.out.trans (Below.mono aA.out (HS.out▸HBx.out.size)));(have aQ:=lh (aO.out W8 _ cb HBx.out aD.out));clear aD aM aA)
  refine M.out _ _ yam (fun ac=>?_);clear M K ak
  try simp only [pt]
  refine rd1 7 (fun K M=>?_)
  (go_simp;go_at_call 157;(with_reducible refine aQ.out.mono ?_);rintro e w9 ⟨rfl,aF⟩;(have HBx:Hid (Below (w.heap.size+2) G w9):=HBx.out.trans (Below.mono aF (HS.out▸HBx.out.size)));clear aF;go_wp2_with fail)
  refine M.out _ _ yam (fun ae=>?_);clear M K ac
  try simp only [pt]
  refine rd1 12 (fun K M=>?_)
  (go_simp;go_at_call 160;(with_reducible refine (HCL.out _ HBx.out).mono ?_);rintro e aS ⟨rfl,aw⟩;(have HBx:Hid (Below (w.heap.size+2) G aS):=HBx.out.trans (Below.mono aw (HS.out▸HBx.out.size)));clear aw;go_wp2_with fail)
  refine M.out _ _ yam (fun aL=>?_);clear M K ae
  try simp only [pt]
  (iterate 2 refine tkA ?_)
  refine wpAnyH_done ybi ?_ _;go_wp2_with fail;go_ret2;exact ⟨_,_,rfl,Or.inl ⟨rfl,ao.out,au.out.symm⟩,HB.out.trans (HBx.out.mono (Nat.le_add_right _ 2))⟩
theorem yen (x:ByteArray) (G:x.size<=32):∀(k i n:Nat) (ps:List ByteArray),(upF k x i n ps).1.size<=32
 |0,i,n,ps=>by
  rw [upF]
  split
  ·exact G
  ·split<;>exact Nat.zero_le _
 |k+1,i,n,ps=>by
  rw [upF]
  split
  ·exact G
  ·split
   ·exact Nat.zero_le _
   ·split<;>(dsimp only;rw [ydc];exact Nat.le_refl _)
theorem last_of {ps:List ByteArray} {m:Nat} (h:ps.length=m+1):ps.dropLast=ps.take m/\ps.getLastD ⟨#[]⟩=ps.getD m ⟨#[]⟩:=by
 refine ⟨by rw [List.dropLast_eq_take,h];rfl,?_⟩;rw [List.getLastD_eq_getLast?,List.getLast?_eq_getElem?,h,List.getD_eq_getElem?_getD];rfl
theorem climb_any:∀(k:Nat) (x:ByteArray) (i n:Nat) (A:Option Addr) (m c B:Nat) (ps:List ByteArray) (w:World) (L:Glob w),x.size=32->i < n->n<=256->Sl fT w B A m ps->B<=w.heap.size->m<=c->m<=k->m<=1000->(∀s∈ps,s.size=32)->
 Calls prog 149 #[.string x,.int .i64 i,.int .i64 n,.slice A m c] w fun e J=>e= .returned (.tuple #[.string (upF k x i n ps).1,.bool (upF k x i n ps).2])/\Below w.heap.size w J:=fun k=>by
 induction k with
 |zero=>
  intro x i n A m c B ps w L hx aL hn hp hB aB aM aJ H;obtain rfl:m=0:=by omega
  have N:ps.length=0:=hp.1
  by_cases O:n=1
  ·subst O;have G:Hid (upF 0 x i 1 ps=(x,true)):=by show _=_;rw [upF,if_pos rfl,decide_eq_true N]
   rw [G.out];clear hp H L;go_enter func149,ntmps149;go_wp2;go_ret2;exact ⟨rfl,Below.refl _ _⟩
  ·have G:Hid (upF 0 x i n ps=(⟨#[]⟩,false)):=by show _=_;rw [upF,if_neg O,if_pos N]
   rw [G.out];have aG:((n:Int)==1)=false:=by simp;omega
   clear hp H L;go_enter func149,ntmps149;go_wp2;go_ret2;exact ⟨rfl,Below.refl _ _⟩
 |succ k ih=>
  intro x i n A m c B ps w L hx aL hn hp hB aB aM aJ H;have N:ps.length=m:=hp.1
  by_cases O:n=1
  ·subst O;have G:Hid (upF (k+1) x i 1 ps=(x,decide (m=0))):=by show _=_;rw [upF,if_pos rfl,N]
   rw [G.out];have aj:((m:Int)==0)=decide (m=0):=by by_cases h:m=0<;>simp [h]
   clear hp H L;go_enter func149,ntmps149;go_wp2;go_ret2;exact ⟨by rw [<-aj];rfl,Below.refl _ _⟩
  ·have aG:((n:Int)==1)=false:=by simp;omega
   by_cases aK:m=0
   ·subst aK;have G:Hid (upF (k+1) x i n ps=(⟨#[]⟩,false)):=by show _=_;rw [upF,if_neg O,if_pos N]
    rw [G.out];clear hp H L;go_enter func149,ntmps149;go_wp2;go_ret2;exact ⟨rfl,Below.refl _ _⟩
   ·obtain ⟨m,rfl⟩:∃m',m=m'+1:=⟨m - 1,by omega⟩
    obtain ⟨ac,U⟩:=last_of N;obtain ⟨b1,o1,z,rfl,aD,ak,aE⟩:=hp.2.at_ (k:=m) om;have ar:=H z (List.mem_of_getElem? ak);rw [ybA ak] at U;obtain ⟨f1,f2,f3,f4,f5⟩:=ycD (n:=n) om hn;have ae:=lh (fun W=>msplit_any n om hn W)
    have G:Hid (upF (k+1) x i n ps=if i < spl n then (ndS (upF k x i (spl n) (ps.take m)).1 z,(upF k x i (spl n) (ps.take m)).2) else (ndS z (upF k x (i - spl n) (n - spl n) (ps.take m)).1,(upF k x (i - spl n) (n - spl n) (ps.take m)).2)):=by
     show _=_;rw [upF,if_neg O,if_neg om,ac,U]
    obtain ⟨p,al⟩:=gX (spl n);rw [al] at ae G f3 f4 f5;obtain ⟨iS,aq,_,au,_⟩:=info_parts Tryz.infoS;obtain ⟨A1,ag⟩:∃A1:Option Addr,(if c=0 then (some ⟨b1,o1,none⟩:Option Addr) else (some ⟨b1,o1,none⟩:Option Addr).map (·.add 0))=A1:=⟨_,rfl⟩
    have af:=ycx (P:=prog) 24 9 iS underlying24 aq au (some ⟨b1,o1,none⟩) (m+1) c m om;rw [ag] at af
    have ai:Hid (∀V,Below w.heap.size w V->Sl fT V B A1 m (ps.take m)):=fun V K=>by
     have:=(hp.up K hB).partT (c:=c) 0 m om aB;rw [ag,List.drop_zero] at this;exact this
    have aj:((m+1:Nat):Int) - 1=(m:Int):=by omega
    have aw:(m:Int)+1 - 1=(m:Int):=by omega
    have aO:(((m+1:Nat):Int)==0)=false:=by simp;omega
    have aN:(((m:Int)+1)==0)=false:=by simp;omega
    have aC:IntKind.i64.wrap (m:Int)=m:=IntWalk.i64_in _ om;have ay:(m:Int) < (m:Int)+1:=by omega
    have ah:(m:Int) < ((m+1:Nat):Int):=by omega
    have T:∀s∈ps.take m,s.size=32:=fun s h=>H s (List.mem_of_mem_take h);have HB:Hid (Below w.heap.size w w):=Below.refl _ _;have aA:m<=k:=by omega
    by_cases Y:i < p
    ·have aF:(i:Int) < (p:Int):=by omega
     have HR:Hid (∀V,Below w.heap.size w V->Calls prog 149 #[.string x,.int .i64 i,.int .i64 p,.slice A1 m c] V fun e J=>e= .returned (.tuple #[.string (upF k x i p (ps.take m)).1,.bool (upF k x i p (ps.take m)).2])/\Below V.heap.size V J):=fun V K=>
      ih x i p A1 m c B (ps.take m) V (L.on K) hx Y om (ai.out V K) (lT hB K.size) om aA om T
     have M:=yen x (Nat.le_of_eq hx) k i p (ps.take m);rw [if_pos Y] at G;obtain ⟨⟨r,ok⟩,hr⟩:=gX (upF k x i p (ps.take m));rw [hr] at HR G M;dsimp only at M;have ax:Hid (∀V,Below w.heap.size w V->Calls prog 168 #[.string r,.string z] V fun e J=>e= .returned (.string (ndS r z))/\Below V.heap.size V J):=fun V K=>yc0 r z V (L.on K) om om;rw [G.out];clear hp H hx ak ar ac U al ag aq au hr M T ih f1 f2 ai L aD Y;go_enter func149,ntmps149;go_wp2_with fail;refine rH (S:=(fun J=>J.cell? ⟨b1,o1+m,none⟩=some (.string z))) ybi (by first |exact aE |go_keep) (fun az=>?_)
     (iterate 13 refine tkA ?_)
     refine wpAnyH_done ybi ?_ _;clear aC aj aw af ay ah
     go_wp2_with (first
      |(go_at_call 167;(with_reducible refine (ae.out _).mono ?_);rintro e W1 ⟨rfl,rfl⟩)
      |(go_at_call 149;(with_reducible refine (HR.out _ yaB).mono ?_);rintro e w2 ⟨rfl,Z⟩;(have HB:Hid (Below w.heap.size w w2):=Below.trans (B:=w.heap.size) yaB (Z.mono nl));(have ap:=lh (ax.out w2 HB.out));clear Z)
      |(go_at_call 168;(with_reducible refine ap.out.mono ?_);rintro e w3 ⟨rfl,aa⟩;(have HB:Hid (Below w.heap.size w w3):=bt HB.out aa);clear aa))
     go_ret2;exact ⟨rfl,HB.out⟩
    ·have aF:¬(i:Int) < (p:Int):=by omega
     have aI:(i:Int) - (p:Int)=((i - p:Nat):Int):=by omega
     have aH:(n:Int) - (p:Int)=((n - p:Nat):Int):=by omega
     have HR:Hid (∀V,Below w.heap.size w V->Calls prog 149 #[.string x,.int .i64 ((i - p:Nat):Int),.int .i64 ((n - p:Nat):Int),.slice A1 m c] V fun e J=>e= .returned (.tuple #[.string (upF k x (i - p) (n - p) (ps.take m)).1,.bool (upF k x (i - p) (n - p) (ps.take m)).2])/\Below V.heap.size V J):=fun V K=>
      ih x (i - p) (n - p) A1 m c B (ps.take m) V (L.on K) hx om om (ai.out V K) (lT hB K.size) om aA om T
     have M:=yen x (Nat.le_of_eq hx) k (i - p) (n - p) (ps.take m);rw [if_neg Y] at G;obtain ⟨⟨r,ok⟩,hr⟩:=gX (upF k x (i - p) (n - p) (ps.take m));rw [hr] at HR G M;dsimp only at M;have ax:Hid (∀V,Below w.heap.size w V->Calls prog 168 #[.string z,.string r] V fun e J=>e= .returned (.string (ndS z r))/\Below V.heap.size V J):=fun V K=>yc0 z r V (L.on K) om om;rw [G.out];obtain ⟨ip,am⟩:=gX (i - p);obtain ⟨np,ao⟩:=gX (n - p);rw [am] at HR aI;rw [ao] at HR aH;clear hp H hx ak ar ac U al ag aq au hr M T ih f1 f2 ai L aD Y am ao;go_enter func149,ntmps149;go_wp2_with fail;refine rH (S:=(fun J=>J.cell? ⟨b1,o1+m,none⟩=some (.string z))) ybi (by first |exact aE |go_keep) (fun az=>?_)
     (iterate 13 refine tkA ?_)
     refine wpAnyH_done ybi ?_ _;clear aC aj aw af ay ah
     go_wp2_with (first
      |(go_at_call 167;(with_reducible refine (ae.out _).mono ?_);rintro e W1 ⟨rfl,rfl⟩)
      |(go_at_call 149;(with_reducible refine (HR.out _ yaB).mono ?_);rintro e w2 ⟨rfl,Z⟩;(have HB:Hid (Below w.heap.size w w2):=Below.trans (B:=w.heap.size) yaB (Z.mono nl));(have ap:=lh (ax.out w2 HB.out));clear Z)
      |(go_at_call 168;(with_reducible refine ap.out.mono ?_);rintro e w3 ⟨rfl,aa⟩;(have HB:Hid (Below w.heap.size w w3):=bt HB.out aa);clear aa))
     go_ret2;exact ⟨rfl,HB.out⟩
theorem rup_any:∀(k:Nat) (x:ByteArray) (i n:Nat) (A:Option Addr) (m c B:Nat) (ps:List ByteArray) (w:World),x.size=32->i < n->n<=256->Sl fT w B A m ps->B<=w.heap.size->m<=c->m<=k->m<=1000->(∀s∈ps,s.size=32)->
 Calls prog 156 #[.string x,.int .i64 i,.int .i64 n,.slice A m c] w fun e J=>e= .returned (.tuple #[.string (upF k x i n ps).1,.bool (upF k x i n ps).2])/\Below w.heap.size w J:=fun k=>by
 induction k with
 |zero=>
  intro x i n A m c B ps w hx aK hn hp hB aA aL aI H;obtain rfl:m=0:=by omega
  have L:ps.length=0:=hp.1
  by_cases M:n=1
  ·subst M;have G:Hid (upF 0 x i 1 ps=(x,true)):=by show _=_;rw [upF,if_pos rfl,decide_eq_true L]
   rw [G.out];clear hp H;go_enter func156,ntmps156;go_wp2;go_ret2;exact ⟨rfl,Below.refl _ _⟩
  ·have G:Hid (upF 0 x i n ps=(⟨#[]⟩,false)):=by show _=_;rw [upF,if_neg M,if_pos L]
   rw [G.out];have aF:((n:Int)==1)=false:=by simp;omega
   clear hp H;go_enter func156,ntmps156;go_wp2;go_ret2;exact ⟨rfl,Below.refl _ _⟩
 |succ k ih=>
  intro x i n A m c B ps w hx aK hn hp hB aA aL aI H;have L:ps.length=m:=hp.1
  by_cases M:n=1
  ·subst M;have G:Hid (upF (k+1) x i 1 ps=(x,decide (m=0))):=by show _=_;rw [upF,if_pos rfl,L]
   rw [G.out];have ai:((m:Int)==0)=decide (m=0):=by by_cases h:m=0<;>simp [h]
   clear hp H;go_enter func156,ntmps156;go_wp2;go_ret2;exact ⟨by rw [<-ai];rfl,Below.refl _ _⟩
  ·have aF:((n:Int)==1)=false:=by simp;omega
   by_cases aJ:m=0
   ·subst aJ;have G:Hid (upF (k+1) x i n ps=(⟨#[]⟩,false)):=by show _=_;rw [upF,if_neg M,if_pos L]
    rw [G.out];clear hp H;go_enter func156,ntmps156;go_wp2;go_ret2;exact ⟨rfl,Below.refl _ _⟩
   ·obtain ⟨m,rfl⟩:∃m',m=m'+1:=⟨m - 1,by omega⟩
    obtain ⟨aa,T⟩:=last_of L;obtain ⟨b1,o1,z,rfl,aC,aj,aD⟩:=hp.2.at_ (k:=m) om;have aq:=H z (List.mem_of_getElem? aj);rw [ybA aj] at T;obtain ⟨f1,f2,f3,f4,f5⟩:=ycD (n:=n) om hn;have ac:=lh (fun W=>rsplit_any n om hn W)
    have G:Hid (upF (k+1) x i n ps=if i < spl n then (ndS (upF k x i (spl n) (ps.take m)).1 z,(upF k x i (spl n) (ps.take m)).2) else (ndS z (upF k x (i - spl n) (n - spl n) (ps.take m)).1,(upF k x (i - spl n) (n - spl n) (ps.take m)).2)):=by
     show _=_;rw [upF,if_neg M,if_neg om,aa,T]
    obtain ⟨p,ak⟩:=gX (spl n);rw [ak] at ac G f3 f4 f5;obtain ⟨iS,ap,_,ar,_⟩:=info_parts Tryz.infoS;obtain ⟨A1,af⟩:∃A1:Option Addr,(if c=0 then (some ⟨b1,o1,none⟩:Option Addr) else (some ⟨b1,o1,none⟩:Option Addr).map (·.add 0))=A1:=⟨_,rfl⟩
    have ae:=ycx (P:=prog) 24 9 iS underlying24 ap ar (some ⟨b1,o1,none⟩) (m+1) c m om;rw [af] at ae
    have ah:Hid (∀V,Below w.heap.size w V->Sl fT V B A1 m (ps.take m)):=fun V O=>by
     have:=(hp.up O hB).partT (c:=c) 0 m om aA;rw [af,List.drop_zero] at this;exact this
    have ai:((m+1:Nat):Int) - 1=(m:Int):=by omega
    have au:(m:Int)+1 - 1=(m:Int):=by omega
    have aN:(((m+1:Nat):Int)==0)=false:=by simp;omega
    have aM:(((m:Int)+1)==0)=false:=by simp;omega
    have aB:IntKind.i64.wrap (m:Int)=m:=IntWalk.i64_in _ om;have ax:(m:Int) < (m:Int)+1:=by omega
    have ag:(m:Int) < ((m+1:Nat):Int):=by omega
    have N:∀s∈ps.take m,s.size=32:=fun s h=>H s (List.mem_of_mem_take h);have HB:Hid (Below w.heap.size w w):=Below.refl _ _;have az:m<=k:=by omega
    by_cases U:i < p
    ·have aE:(i:Int) < (p:Int):=by omega
     have HR:Hid (∀V,Below w.heap.size w V->Calls prog 156 #[.string x,.int .i64 i,.int .i64 p,.slice A1 m c] V fun e J=>e= .returned (.tuple #[.string (upF k x i p (ps.take m)).1,.bool (upF k x i p (ps.take m)).2])/\Below V.heap.size V J):=fun V O=>
      ih x i p A1 m c B (ps.take m) V hx U om (ah.out V O) (lT hB O.size) om az om N
     have K:=yen x (Nat.le_of_eq hx) k i p (ps.take m);rw [if_pos U] at G;obtain ⟨⟨r,ok⟩,hr⟩:=gX (upF k x i p (ps.take m));rw [hr] at HR G K;dsimp only at K;have aw:Hid (∀V,Below w.heap.size w V->Calls prog 125 #[.string r,.string z] V fun e J=>e= .returned (.string (ndS r z))/\Below V.heap.size V J):=fun V O=>yc1 r z V om om;rw [G.out];clear hp H hx aj aq aa T ak af ap ar hr K N ih f1 f2 ah aC U;go_enter func156,ntmps156;go_wp2_with fail;refine rH (S:=(fun J=>J.cell? ⟨b1,o1+m,none⟩=some (.string z))) ybi (by first |exact aD |go_keep) (fun ay=>?_)
     (iterate 13 refine tkA ?_)
     refine wpAnyH_done ybi ?_ _;clear aB ai au ae ax ag
     go_wp2_with (first
      |(go_at_call 124;(with_reducible refine (ac.out _).mono ?_);rintro e W1 ⟨rfl,rfl⟩)
      |(go_at_call 156;(with_reducible refine (HR.out _ yaB).mono ?_);rintro e w2 ⟨rfl,Y⟩;(have HB:Hid (Below w.heap.size w w2):=Below.trans (B:=w.heap.size) yaB (Y.mono nl));(have ao:=lh (aw.out w2 HB.out));clear Y)
      |(go_at_call 125;(with_reducible refine ao.out.mono ?_);rintro e w3 ⟨rfl,Z⟩;(have HB:Hid (Below w.heap.size w w3):=bt HB.out Z);clear Z))
     go_ret2;exact ⟨rfl,HB.out⟩
    ·have aE:¬(i:Int) < (p:Int):=by omega
     have aH:(i:Int) - (p:Int)=((i - p:Nat):Int):=by omega
     have aG:(n:Int) - (p:Int)=((n - p:Nat):Int):=by omega
     have HR:Hid (∀V,Below w.heap.size w V->Calls prog 156 #[.string x,.int .i64 ((i - p:Nat):Int),.int .i64 ((n - p:Nat):Int),.slice A1 m c] V fun e J=>e= .returned (.tuple #[.string (upF k x (i - p) (n - p) (ps.take m)).1,.bool (upF k x (i - p) (n - p) (ps.take m)).2])/\Below V.heap.size V J):=fun V O=>
      ih x (i - p) (n - p) A1 m c B (ps.take m) V hx om om (ah.out V O) (lT hB O.size) om az om N
     have K:=yen x (Nat.le_of_eq hx) k (i - p) (n - p) (ps.take m);rw [if_neg U] at G;obtain ⟨⟨r,ok⟩,hr⟩:=gX (upF k x (i - p) (n - p) (ps.take m));rw [hr] at HR G K;dsimp only at K;have aw:Hid (∀V,Below w.heap.size w V->Calls prog 125 #[.string z,.string r] V fun e J=>e= .returned (.string (ndS z r))/\Below V.heap.size V J):=fun V O=>yc1 z r V om om;rw [G.out];obtain ⟨ip,al⟩:=gX (i - p);obtain ⟨np,am⟩:=gX (n - p);rw [al] at HR aH;rw [am] at HR aG;clear hp H hx aj aq aa T ak af ap ar hr K N ih f1 f2 ah aC U al am;go_enter func156,ntmps156;go_wp2_with fail;refine rH (S:=(fun J=>J.cell? ⟨b1,o1+m,none⟩=some (.string z))) ybi (by first |exact aD |go_keep) (fun ay=>?_)
     (iterate 13 refine tkA ?_)
     refine wpAnyH_done ybi ?_ _;clear aB ai au ae ax ag
     go_wp2_with (first
      |(go_at_call 124;(with_reducible refine (ac.out _).mono ?_);rintro e W1 ⟨rfl,rfl⟩)
      |(go_at_call 156;(with_reducible refine (HR.out _ yaB).mono ?_);rintro e w2 ⟨rfl,Y⟩;(have HB:Hid (Below w.heap.size w w2):=Below.trans (B:=w.heap.size) yaB (Y.mono nl));(have ao:=lh (aw.out w2 HB.out));clear Y)
      |(go_at_call 125;(with_reducible refine ao.out.mono ?_);rintro e w3 ⟨rfl,Z⟩;(have HB:Hid (Below w.heap.size w w3):=bt HB.out Z);clear Z))
     go_ret2;exact ⟨rfl,HB.out⟩
