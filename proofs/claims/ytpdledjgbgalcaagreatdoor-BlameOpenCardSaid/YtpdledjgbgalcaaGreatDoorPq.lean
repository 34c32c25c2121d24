import Derived.Test.YtpdledjgbgalcaaGreatDoorPi
namespace Go.Proofs.YtpdledjgbgalcaaGreatDoor
set_option maxRecDepth 100000
set_option maxHeartbeats 8000000
open Go.RowKit Go.Lib Go.Proofs.Tryz
set_option linter.unusedVariables false
set_option linter.unusedSimpArgs false
theorem beqN (a b:ByteArray):decide (a=b)=(a.toList==b.toList):=by
 rw [<-beq_toListBytes];show decide (a=b)=(a.data==b.data)
 by_cases h:a=b
 ·subst h;simp
 ·rw [decide_eq_false h]
  symm
  rw [beq_eq_false_iff_ne];exact fun h2=>h (ByteArray.ext h2)
theorem sgverify_any (b h:Int) (H:ByteArray) (aa:H.size=32) (ix:Nat) (z:ix < 256) (J Aq:Option Addr) (G nq K M B:Nat) (ps qs:List ByteArray) (w:World) (hG:Glob w) (hp:Sl fT w B J G ps) (hq:Sl fT w B Aq nq qs) (W:B<=w.heap.size) (hn:G<=300) (hm:nq<=8) (O:∀s∈ps,s.size=32) (U:∀s∈qs,s.size=32) (T:ByteArray):
 Calls prog 90 #[.agg (cSc b h),.string T,.string H,.agg (cSg ix J G K Aq nq M)] w fun e Y=>e= .returned (.bool (sgF b h ix G nq&&decide (sgR b H ix ps qs=T)))/\Below w.heap.size w Y:=by
 have HR:Hid (∀V,Below w.heap.size w V->Calls prog 152 #[.agg (cSc b h),.string H,.agg (cSg ix J G K Aq nq M)] V fun e Y=>∃r er,e= .returned (.tuple #[.string r,.int .i64 er])/\(er=0/\sgF b h ix G nq=true/\r=sgR b H ix ps qs∨er=1/\sgF b h ix G nq=false)/\Below V.heap.size V Y):=fun V L=>sgroot_any b h H aa ix z J Aq G nq K M B ps qs V (hG.on L) (hp.up L W) (hq.up L W) (lT W L.size) hn hm O U;have HB:Hid (Below w.heap.size w ((w.alloc (.cells (cSc b h) 26)).alloc (.cells (cSg ix J G K Aq nq M) 33))):=bl.alloc sI _;have HC:=lh (HR.out _ HB.out);clear hp hq O U hG HR;go_enter func90,ntmps90;go_wp2_with (go_at_call 152;(with_reducible refine HC.out.mono ?_);rintro e w4 ⟨r,er,rfl,hr,N⟩;(have Z:=lh (bt HB.out N));clear N;rcases hr with ⟨rfl,hf,rfl⟩ |⟨rfl,hf⟩)
 all_goals
  have HF:=lh hf;clear hf;go_wp2;go_ret;exact ⟨by rw [HF.out];first |rfl |(rw [beqN];rfl),Z.out⟩
theorem rgpar_any (b h:Int) (w:World):Calls prog 162 #[.agg (cSc b h)] w fun e G=>e= .returned (.agg (cPm b))/\Below w.heap.size w G:=by
 have HB:Hid (Below w.heap.size w (w.alloc (.cells (cSc b h) 26))):=bl;go_enter func162,ntmps162;go_wp2;exact bodyPost_ret (v:= .agg (cPm b)) (by simp [results,Tryz.results162,go_sem]) rfl ⟨rfl,HB.out.alloc HB.out.size _⟩
theorem rsums_any (A:Option Addr) (n c B:Nat) (ys:List ByteArray) (w:World) (G:Sl fT w B A n ys) (hn:n<=1000000) (J:∀s∈ys,s.size=32):
 Calls prog 155 #[.slice A n c] w fun e L=>e= .returned (.bool true)/\w=L:=by
 have M:=lh G;have HXN:Hid (ys.length=n):=G.1;have K:=lh J;clear G J;go_enter func155,ntmps155;go_wp2
 go_loopw [7] (fun i wr=>(∃k:Nat,k<=n/\i= .int .i64 k)/\w=wr) (fun i _=>n - (intOf i).toNat)
 case atStart=>exact ⟨⟨0,by omega,rfl⟩,rfl⟩
 case round=>
  obtain ⟨⟨k,Z,rfl⟩,rfl⟩:=hrel
  by_cases hlt:k < n
  ·obtain ⟨Y,U,x,rfl,_,H,W⟩:=M.out.2.at_ (k:=k) ya3;have O:(k:Int) < (n:Int):=by omega
   have T:(0:Int)<=(k:Int):=by omega
   have N:((x.size:Int) != 32)=false:=by simp [K.out x (List.mem_of_getElem? H)]
   clear H;go_wp2;refine ⟨?rel,?measure⟩;case rel=>exact ⟨⟨k+1,by omega,by go_num⟩,by first |rfl |trivial⟩
   case measure=>(simp [intOf]<;>omega)
  ·obtain rfl:k=n:=by omega
   go_wp2;go_ret;exact ⟨rfl,by first |rfl |trivial⟩
theorem rclimb_any (L:ByteArray) (hL:L.size=32) (ix:Nat) (aq:ix < 256) (Aq:Option Addr) (nq cq B:Nat) (qs:List ByteArray) (w:World) (hq:Sl fT w B Aq nq qs) (hB:B<=w.heap.size) (hm:nq<=8) (ae:∀s∈qs,s.size=32):
 Calls prog 160 #[.string L,.int .i64 ix,.slice Aq nq cq] w fun e Z=>e= .returned (.string (clF L ix qs))/\Below w.heap.size w Z:=by
 have HQ:Hid (∀V,Below w.heap.size w V->Sl fT V B Aq nq qs):=fun V hv=>hq.up hv hB;have HQL:Hid (qs.length=nq):=hq.1;have am:=lh ae;have aj:=lh hL;have af:Hid (Below w.heap.size w w):=Below.refl _ _;have O:Hid (clF L ix qs=clF L (ix / 2 ^ 0) (qs.drop 0)):=by show _=_;rw [Nat.pow_zero,Nat.div_one,List.drop_zero]
 have ag:Hid (ix / 2 ^ 0=ix):=by show _=_;rw [Nat.pow_zero,Nat.div_one]
 clear hq ae hL;go_enter func160,ntmps160;go_upto_region 2 with fail
 go_loopw [0,1,11] (fun v j i wr=>∃(m t:Nat) (G:ByteArray),m<=nq/\i= .int .i64 m/\j= .int .i64 t/\t < 256/\v= .string G/\Hid (ix / 2 ^ m=t)/\Hid (G.size=32)/\Hid (clF L ix qs=clF G (ix / 2 ^ m) (qs.drop m))/\Hid (Below w.heap.size w wr)) (fun _ _ i _=>nq - (intOf i).toNat)
 case atStart=>exact ⟨0,ix,L,by omega,rfl,rfl,aq,rfl,ag,aj,O,af⟩
 case round=>
  clear af O ag;obtain ⟨m,t,G,ar,rfl,rfl,ht,rfl,HT,aa,HCL,HBr⟩:=hrel
  by_cases hml:m < nq
  ·have ax:(m:Int) < (nq:Int):=by omega
   have au:(0:Int)<=(m:Int):=by omega
   obtain ⟨bq,oq,x,ao,_,Y,aw⟩:=(HQ.out wr HBr.out).2.at_ (k:=m) ya4;have K:=am.out x (List.mem_of_getElem? Y);subst ao
   have H:Hid (clF L ix qs=clF (if t % 2=0 then ndS G x else ndS x G) (ix / 2 ^ (m+1)) (qs.drop (m+1))):=by
    show _=_;rw [HCL.out,HT.out,List.drop_eq_getElem_cons ya4]
    have hx:qs[m]' ya4=x:=by
     have:=List.getElem?_eq_getElem (l:=qs) (i:=m) ya4;rw [Y] at this;exact (Option.some.inj this).symm
    rw [hx,clF,Nat.pow_succ,<-Nat.div_div_eq_div_mul,HT.out]
   have W:Hid (ix / 2 ^ (m+1)=t / 2):=by show _=_;rw [Nat.pow_succ,<-Nat.div_div_eq_div_mul,HT.out]
   have ak:Hid (Calls prog 125 #[.string G,.string x] wr fun e Z=>e= .returned (.string (ndS G x))/\Below wr.heap.size wr Z):=ycP G x wr (by rw [aa.out];omega) (by rw [K];omega);have ap:Hid (Calls prog 125 #[.string x,.string G] wr fun e Z=>e= .returned (.string (ndS x G))/\Below wr.heap.size wr Z):=ycP x G wr (by rw [K];omega) (by rw [aa.out];omega);have ai:t % 2=0∨t % 2=1:=by omega
   have N:Hid (m+1<=nq):=hml;have ac:(t:Int) / 2=((t / 2:Nat):Int):=by omega
   have T:Hid (t / 2 < 256):=by show _ < _;omega
   obtain ⟨t2,ah⟩:=gx (t / 2);rw [ah] at ac T W;clear Y K ah;rcases ai with hp |hp
   ·have U:(t:Int) % 2=0:=by omega
    rw [hp,if_pos rfl] at H;clear hp;go_wp2_with (go_at_call 125;(with_reducible refine ak.out.mono ?_);rintro e z ⟨rfl,J⟩;(have M:Hid (Below w.heap.size w z):=HBr.out.trans (Below.mono J HBr.out.size));clear J);refine ⟨?rel,?measure⟩;case rel=>exact ⟨m+1,t2,_,N.out,by go_num,rfl,T.out,rfl,W,yc1 _ _,H,M⟩
    case measure=>(have:=N.out;clear ac U;simp [intOf]<;>omega)
   ·have U:(t:Int) % 2=1:=by omega
    rw [hp,if_neg de] at H;clear hp;go_wp2_with (go_at_call 125;(with_reducible refine ap.out.mono ?_);rintro e z ⟨rfl,J⟩;(have M:Hid (Below w.heap.size w z):=HBr.out.trans (Below.mono J HBr.out.size));clear J);refine ⟨?rel,?measure⟩;case rel=>exact ⟨m+1,t2,_,N.out,by go_num,rfl,T.out,rfl,W,yc1 _ _,H,M⟩
    case measure=>(have:=N.out;clear ac U;simp [intOf]<;>omega)
  ·obtain rfl:m=nq:=by omega
   have HE:Hid (clF L ix qs=G):=by show _=_;rw [HCL.out,List.drop_eq_nil_of_le (by rw [HQL.out];exact Nat.le_refl _)];rfl
   go_wp2;go_ret;exact ⟨by rw [HE.out];rfl,HBr.out⟩
theorem rfits_any (b h:Int) (dg:ByteArray) (aG:dg.size=32) (ix:Nat) (aR:ix < 256) (U Aq:Option Addr) (M nq cp cq B:Nat) (ps qs:List ByteArray) (w:World) (hp:Sl fT w B U M ps) (hq:Sl fT w B Aq nq qs) (hB:B<=w.heap.size) (hn:M<=300) (hm:nq<=8) (ar:∀s∈ps,s.size=32) (au:∀s∈qs,s.size=32):
 Calls prog 159 #[.agg (cSc b h),.string dg,.agg (cSg ix U M cp Aq nq cq)] w fun e J=>e= .returned (.bool (sgF b h ix M nq))/\Below w.heap.size w J:=by
 have HV:=lh (fun W=>rgvalid_any b h W);have HF:Hid (sgF b h ix M nq=(sgOk b h&&(decide (ix < 2 ^ h.toNat)&&(decide ((nq:Int)=h)&&decide (M=mN b.toNat+cN b.toNat))))):=rfl;have aP:((dg.size:Int)==32)=true:=by simp [aG]
 obtain ⟨L,ac⟩:∃L:World,L=(w.alloc (.cells (cSc b h) 26)).alloc (.cells (cSg (ix:Int) U M cp Aq nq cq) 33):=⟨_,rfl⟩
 have aC:L.heap.size=w.heap.size+2:=by rw [ac];simp
 have aD:L.heap[w.heap.size]? =some (.cells (cSc b h) 26 (0,0)):=by
  rw [ac];exact (zx _ _ _ sI).trans (zy w _)
 have aq:L.heap[w.heap.size+1]? =some (.cells (cSg (ix:Int) U M cp Aq nq cq) 33 (0,0)):=by
  rw [ac];have:=zy (w.alloc (.cells (cSc b h) 26)) (.cells (cSg (ix:Int) U M cp Aq nq cq) 33);simpa using this
 have HC:Hid (∀V,Below (w.heap.size+2) L V->V.cell? ⟨w.heap.size,0,none⟩=some (.int .i64 b)/\V.cell? ⟨w.heap.size,1,none⟩=some (.int .i64 h)/\V.cell? ⟨w.heap.size+1,0,none⟩=some (.int .i64 (ix:Int))/\V.cell? ⟨w.heap.size+1,1,none⟩=some (.slice U M cp)/\V.cell? ⟨w.heap.size+1,2,none⟩=some (.slice Aq nq cq)):=fun V hv=>by
  have q:=(hv.block w.heap.size om).trans aD;have q2:=(hv.block (w.heap.size+1) om).trans aq;refine ⟨?_,?_,?_,?_,?_⟩
  ·rw [cell_of_row V _ _ _ _ _ q];rfl
  ·rw [cell_of_row V _ _ _ _ _ q];rfl
  ·rw [cell_of_row V _ _ _ _ _ q2];rfl
  ·rw [cell_of_row V _ _ _ _ _ q2];rfl
  ·rw [cell_of_row V _ _ _ _ _ q2];rfl
 have HB:Hid (Below w.heap.size w L):=by
  show Below ..
  rw [ac];exact bl.alloc sI _
 have z:=lh aC;have HWE:=lh ac;have HB1:Hid (Below (w.heap.size+2) L L):=Below.refl _ _;clear aD aq aC ac
 cases aa:sgOk b h with
 |false=>
  rw [aa,Bool.false_and] at HF;have T:=HF;rw [aa] at HV;obtain ⟨c0,c1,c2,c3,c4⟩:=HC.out L HB1.out;clear hp hq ar au aa HF;go_enter func159,ntmps159;go_upto_region 1 with fail
  rw [<-HWE.out];go_wp2_with fail;refine rH (S:=(fun J=>J.cell? ⟨w.heap.size,0,none⟩=some (.int .i64 b)/\J.cell? ⟨w.heap.size,1,none⟩=some (.int .i64 h)/\J.cell? ⟨w.heap.size+1,0,none⟩=some (.int .i64 (ix:Int))/\J.cell? ⟨w.heap.size+1,1,none⟩=some (.slice U M cp)/\J.cell? ⟨w.heap.size+1,2,none⟩=some (.slice Aq nq cq))) ya9 yam (fun N=>?_);refine tkY 0 ?_;refine rd1 1 (fun K G=>?_)
  (go_simp;go_at_call 205;(with_reducible refine (HV.out _).mono ?_);rintro e w4 ⟨rfl,O⟩;(have HBx:Hid (Below (w.heap.size+2) L w4):=Below.trans (B:=w.heap.size+2) yaG (Below.mono O (Nat.le_of_eq z.out.symm)));clear O;go_wp2_with fail)
  refine G.out _ _ yam (fun aF=>?_);clear G K N
  try simp only [pt]
  refine tkY 2 ?_;refine tkN 3 ?_;refine tkN 4 ?_;refine tkN 5 ?_
  (iterate 2 refine tkA ?_)
  refine tkN 8 ?_;refine tkN 9 ?_;refine tkN 10 ?_
  (iterate 2 refine tkA ?_)
  refine tkN 13 ?_;refine tkN 14 ?_;refine tkN 15 ?_;refine tkN 16 ?_;refine tkN 17 ?_;refine tkN 18 ?_
  (iterate 2 refine tkA ?_)
  refine tkN 21 ?_;refine tkN 22 ?_;refine tkN 23 ?_;refine tkN 24 ?_;refine tkN 25 ?_
  (iterate 2 refine tkA ?_)
  refine tkN 28 ?_;refine tkN 29 ?_;refine tkN 30 ?_;refine tkN 31 ?_;refine tkN 32 ?_;refine tkN 33 ?_
  (iterate 2 refine tkA ?_)
  refine tkN 36 ?_;refine tkN 37 ?_;refine tkN 38 ?_
  (iterate 2 refine tkA ?_)
  refine wpAnyH_done ya9 ?_ _;go_wp2_with fail;go_ret;exact ⟨by rw [T.out];rfl,HB.out.trans (HBx.out.mono (Nat.le_add_right _ 2))⟩
 |true=>
  obtain ⟨ay,aM,aN⟩:=sgOk_bit aa;rw [aa,Bool.true_and] at HF;rw [aa] at HV;obtain ⟨H,rfl⟩:∃H:Nat,h=(H:Int):=⟨h.toNat,by omega⟩
  rw [Int.toNat_natCast] at HF;have aK:H<=8:=by omega
  have aQ:decide (0<=(ix:Int))=true:=by simp
  obtain ⟨P,hP⟩:=gx (2 ^ H);have aL:P<=256:=by rw [<-hP];exact lT (Nat.pow_le_pow_right de aK) de
  have aS:IntKind.i64.wrap ((2:Int) ^ H)=(P:Int):=by
   rw [show ((2:Int) ^ H)=(P:Int) by rw [<-hP];simp];exact IntWalk.i64_in _ om
  rw [hP] at HF;have aO:=lh hP;clear hP;have ax:=lh (fun W=>rgpar_any b H W);have ai:Hid (∀V,Below (w.heap.size+2) L V->Calls prog 206 #[.agg (cPm b),.slice U M cp] V fun e J=>e= .returned (.bool ((M:Int)==((mN b.toNat+cN b.toNat:Nat):Int)))/\Below V.heap.size V J):=fun V hv=>rparts_any b b.toNat ay U M cp B ps V ((hp.up HB.out hB).up hv (lT hB (Nat.le_add_right _ 2))) (lT (lT hB HB.out.size) (z.out▸hv.size:L.heap.size<=V.heap.size)) om ar;have aI:Hid (∀V,Below (w.heap.size+2) L V->Calls prog 155 #[.slice Aq nq cq] V fun e J=>e= .returned (.bool true)/\V=J):=fun V hv=>rsums_any Aq nq cq B qs V ((hq.up HB.out hB).up hv (lT hB (Nat.le_add_right _ 2))) om au;obtain ⟨c0,c1,c2,c3,c4⟩:=HC.out L HB1.out;clear hp hq ar au aa ay
  by_cases hlt:ix < P
  ·have aw:decide (ix < P)=true:=by simp [hlt]
   have aJ:decide ((ix:Int) < (P:Int))=true:=by simp;omega
   rw [aw,Bool.true_and] at HF
   by_cases hT:M=mN b.toNat+cN b.toNat
   ·have ae:((M:Int)==((mN b.toNat+cN b.toNat:Nat):Int))=true:=by rw [hT];simp
    rw [ae] at ai;rw [decide_eq_true hT,Bool.and_true] at HF;clear ae
    by_cases ap:nq=H
    ·
     have aH:((nq:Int)==(H:Int))=true:=by simp [ap]
     have T:Hid (sgF b H ix M nq=true):=by show _=_;rw [HF.out];simp [ap]
     clear hT HF hlt ap;go_enter func159,ntmps159;go_upto_region 1 with fail
     rw [<-HWE.out];go_wp2_with fail;refine rH (S:=(fun J=>J.cell? ⟨w.heap.size,0,none⟩=some (.int .i64 b)/\J.cell? ⟨w.heap.size,1,none⟩=some (.int .i64 (H:Int))/\J.cell? ⟨w.heap.size+1,0,none⟩=some (.int .i64 (ix:Int))/\J.cell? ⟨w.heap.size+1,1,none⟩=some (.slice U M cp)/\J.cell? ⟨w.heap.size+1,2,none⟩=some (.slice Aq nq cq))) ya9 yam (fun N=>?_);refine tkY 0 ?_;refine rd1 1 (fun K G=>?_)
     (go_simp;go_at_call 205;(with_reducible refine (HV.out _).mono ?_);rintro e w4 ⟨rfl,O⟩;(have HBx:Hid (Below (w.heap.size+2) L w4):=Below.trans (B:=w.heap.size+2) yaG (Below.mono O (Nat.le_of_eq z.out.symm)));clear O;go_wp2_with fail)
     refine G.out _ _ yam (fun ao=>?_);clear G K N
     try simp only [pt]
     (iterate 20 refine tkA ?_)
     refine tkY 23 ?_;refine tkY 24 ?_;refine rd1 22 (fun K G=>?_)
     (go_simp;go_at_call 162;(with_reducible refine (ax.out _).mono ?_);rintro e w5 ⟨rfl,Y⟩;(have HBx:Hid (Below (w.heap.size+2) L w5):=HBx.out.trans (Below.mono Y (z.out▸HBx.out.size)));clear Y;go_wp2_with fail)
     refine G.out _ _ yam (fun ah=>?_);clear G K ao
     try simp only [pt]
     refine rd1 25 (fun K G=>?_)
     (go_simp;go_at_call 206;(with_reducible refine (ai.out _ HBx.out).mono ?_);rintro e w6 ⟨rfl,Z⟩;(have HBx:Hid (Below (w.heap.size+2) L w6):=HBx.out.trans (Below.mono Z (z.out▸HBx.out.size)));clear Z;go_wp2_with fail)
     refine G.out _ _ yam (fun ag=>?_);clear G K ah
     try simp only [pt]
     (iterate 12 refine tkA ?_)
     refine rd1 38 (fun K G=>?_)
     (go_simp;go_at_call 155;(with_reducible refine (aI.out _ HBx.out).mono ?_);rintro e w7 ⟨rfl,rfl⟩;go_wp2_with fail)
     refine G.out _ _ yam (fun az=>?_);clear G K ag
     try simp only [pt]
     (iterate 2 refine tkA ?_)
     refine wpAnyH_done ya9 ?_ _;go_wp2_with fail;go_ret;exact ⟨by rw [T.out];rfl,HB.out.trans (HBx.out.mono (Nat.le_add_right _ 2))⟩
    ·
     have aH:((nq:Int)==(H:Int))=false:=by simp;omega
     have T:Hid (sgF b H ix M nq=false):=by show _=_;rw [HF.out];simp;omega
     clear hT HF hlt ap;go_enter func159,ntmps159;go_upto_region 1 with fail
     rw [<-HWE.out];go_wp2_with fail;refine rH (S:=(fun J=>J.cell? ⟨w.heap.size,0,none⟩=some (.int .i64 b)/\J.cell? ⟨w.heap.size,1,none⟩=some (.int .i64 (H:Int))/\J.cell? ⟨w.heap.size+1,0,none⟩=some (.int .i64 (ix:Int))/\J.cell? ⟨w.heap.size+1,1,none⟩=some (.slice U M cp)/\J.cell? ⟨w.heap.size+1,2,none⟩=some (.slice Aq nq cq))) ya9 yam (fun N=>?_);refine tkY 0 ?_;refine rd1 1 (fun K G=>?_)
     (go_simp;go_at_call 205;(with_reducible refine (HV.out _).mono ?_);rintro e w4 ⟨rfl,O⟩;(have HBx:Hid (Below (w.heap.size+2) L w4):=Below.trans (B:=w.heap.size+2) yaG (Below.mono O (Nat.le_of_eq z.out.symm)));clear O;go_wp2_with fail)
     refine G.out _ _ yam (fun am=>?_);clear G K N
     try simp only [pt]
     (iterate 20 refine tkA ?_)
     refine tkY 23 ?_;refine tkY 24 ?_;refine rd1 22 (fun K G=>?_)
     (go_simp;go_at_call 162;(with_reducible refine (ax.out _).mono ?_);rintro e w5 ⟨rfl,Y⟩;(have HBx:Hid (Below (w.heap.size+2) L w5):=HBx.out.trans (Below.mono Y (z.out▸HBx.out.size)));clear Y;go_wp2_with fail)
     refine G.out _ _ yam (fun af=>?_);clear G K am
     try simp only [pt]
     refine rd1 25 (fun K G=>?_)
     (go_simp;go_at_call 206;(with_reducible refine (ai.out _ HBx.out).mono ?_);rintro e w6 ⟨rfl,Z⟩;(have HBx:Hid (Below (w.heap.size+2) L w6):=HBx.out.trans (Below.mono Z (z.out▸HBx.out.size)));clear Z;go_wp2_with fail)
     refine G.out _ _ yam (fun aB=>?_);clear G K af
     try simp only [pt]
     (iterate 10 refine tkA ?_)
     refine tkN 36 ?_;refine tkN 37 ?_;refine tkN 38 ?_
     (iterate 2 refine tkA ?_)
     refine wpAnyH_done ya9 ?_ _;go_wp2_with fail;go_ret;exact ⟨by rw [T.out];rfl,HB.out.trans (HBx.out.mono (Nat.le_add_right _ 2))⟩
   ·
    have ae:((M:Int)==((mN b.toNat+cN b.toNat:Nat):Int))=false:=by simp;omega
    rw [ae] at ai;have T:Hid (sgF b H ix M nq=false):=by show _=_;rw [HF.out,decide_eq_false hT,Bool.and_false]
    clear hT ae HF hlt;go_enter func159,ntmps159;go_upto_region 1 with fail
    rw [<-HWE.out];go_wp2_with fail;refine rH (S:=(fun J=>J.cell? ⟨w.heap.size,0,none⟩=some (.int .i64 b)/\J.cell? ⟨w.heap.size,1,none⟩=some (.int .i64 (H:Int))/\J.cell? ⟨w.heap.size+1,0,none⟩=some (.int .i64 (ix:Int))/\J.cell? ⟨w.heap.size+1,1,none⟩=some (.slice U M cp)/\J.cell? ⟨w.heap.size+1,2,none⟩=some (.slice Aq nq cq))) ya9 yam (fun N=>?_);refine tkY 0 ?_;refine rd1 1 (fun K G=>?_)
    (go_simp;go_at_call 205;(with_reducible refine (HV.out _).mono ?_);rintro e w4 ⟨rfl,O⟩;(have HBx:Hid (Below (w.heap.size+2) L w4):=Below.trans (B:=w.heap.size+2) yaG (Below.mono O (Nat.le_of_eq z.out.symm)));clear O;go_wp2_with fail)
    refine G.out _ _ yam (fun ak=>?_);clear G K N
    try simp only [pt]
    (iterate 20 refine tkA ?_)
    refine tkY 23 ?_;refine tkY 24 ?_;refine rd1 22 (fun K G=>?_)
    (go_simp;go_at_call 162;(with_reducible refine (ax.out _).mono ?_);rintro e w5 ⟨rfl,Y⟩;(have HBx:Hid (Below (w.heap.size+2) L w5):=HBx.out.trans (Below.mono Y (z.out▸HBx.out.size)));clear Y;go_wp2_with fail)
    refine G.out _ _ yam (fun aj=>?_);clear G K ak
    try simp only [pt]
    refine rd1 25 (fun K G=>?_)
    (go_simp;go_at_call 206;(with_reducible refine (ai.out _ HBx.out).mono ?_);rintro e w6 ⟨rfl,Z⟩;(have HBx:Hid (Below (w.heap.size+2) L w6):=HBx.out.trans (Below.mono Z (z.out▸HBx.out.size)));clear Z;go_wp2_with fail)
    refine G.out _ _ yam (fun aA=>?_);clear G K aj
    try simp only [pt]
    (iterate 2 refine tkA ?_)
    refine tkN 28 ?_;refine tkN 29 ?_;refine tkN 30 ?_;refine tkN 31 ?_;refine tkN 32 ?_;refine tkN 33 ?_
    (iterate 2 refine tkA ?_)
    refine tkN 36 ?_;refine tkN 37 ?_;refine tkN 38 ?_
    (iterate 2 refine tkA ?_)
    refine wpAnyH_done ya9 ?_ _;go_wp2_with fail;go_ret;exact ⟨by rw [T.out];rfl,HB.out.trans (HBx.out.mono (Nat.le_add_right _ 2))⟩
  ·
   have aw:decide (ix < P)=false:=by simp;omega
   have aJ:decide ((ix:Int) < (P:Int))=false:=by simp;omega
   have T:Hid (sgF b H ix M nq=false):=by show _=_;rw [HF.out,aw];rfl
   clear HF hlt;go_enter func159,ntmps159;go_upto_region 1 with fail
   rw [<-HWE.out];go_wp2_with fail;refine rH (S:=(fun J=>J.cell? ⟨w.heap.size,0,none⟩=some (.int .i64 b)/\J.cell? ⟨w.heap.size,1,none⟩=some (.int .i64 (H:Int))/\J.cell? ⟨w.heap.size+1,0,none⟩=some (.int .i64 (ix:Int))/\J.cell? ⟨w.heap.size+1,1,none⟩=some (.slice U M cp)/\J.cell? ⟨w.heap.size+1,2,none⟩=some (.slice Aq nq cq))) ya9 yam (fun N=>?_);refine tkY 0 ?_;refine rd1 1 (fun K G=>?_)
   (go_simp;go_at_call 205;(with_reducible refine (HV.out _).mono ?_);rintro e w4 ⟨rfl,O⟩;(have HBx:Hid (Below (w.heap.size+2) L w4):=Below.trans (B:=w.heap.size+2) yaG (Below.mono O (Nat.le_of_eq z.out.symm)));clear O;go_wp2_with fail)
   refine G.out _ _ yam (fun aE=>?_);clear G K N
   try simp only [pt]
   (iterate 19 refine tkA ?_)
   refine tkN 21 ?_;refine tkN 22 ?_;refine tkN 23 ?_;refine tkN 24 ?_;refine tkN 25 ?_
   (iterate 2 refine tkA ?_)
   refine tkN 28 ?_;refine tkN 29 ?_;refine tkN 30 ?_;refine tkN 31 ?_;refine tkN 32 ?_;refine tkN 33 ?_
   (iterate 2 refine tkA ?_)
   refine tkN 36 ?_;refine tkN 37 ?_;refine tkN 38 ?_
   (iterate 2 refine tkA ?_)
   refine wpAnyH_done ya9 ?_ _;go_wp2_with fail;go_ret;exact ⟨by rw [T.out];rfl,HB.out.trans (HBx.out.mono (Nat.le_add_right _ 2))⟩
theorem rgroot_any (b h:Int) (U:ByteArray) (az:U.size=32) (ix:Nat) (aL:ix < 256) (O Aq:Option Addr) (H nq Y Z B:Nat) (ps qs:List ByteArray) (w:World) (hp:Sl fT w B O H ps) (hq:Sl fT w B Aq nq qs) (hB:B<=w.heap.size) (hn:H<=300) (hm:nq<=8) (ag:∀s∈ps,s.size=32) (ah:∀s∈qs,s.size=32):
 Calls prog 97 #[.agg (cSc b h),.string U,.agg (cSg ix O H Y Aq nq Z)] w fun e J=>∃r er,e= .returned (.tuple #[.string r,.int .i64 er])/\(er=0/\sgF b h ix H nq=true/\r=sgR b U ix ps qs∨er=1/\sgF b h ix H nq=false)/\Below w.heap.size w J:=by
 have au:Hid (∀V,Below w.heap.size w V->Calls prog 159 #[.agg (cSc b h),.string U,.agg (cSg ix O H Y Aq nq Z)] V fun e J=>e= .returned (.bool (sgF b h ix H nq))/\Below V.heap.size V J):=fun V hb=>rfits_any b h U az ix aL O Aq H nq Y Z B ps qs V (hp.up hb hB) (hq.up hb hB) (lT hB hb.size) hn hm ag ah;obtain ⟨G,z⟩:∃G:World,G=(w.alloc (.cells (cSc b h) 26)).alloc (.cells (cSg (ix:Int) O H Y Aq nq Z) 33):=⟨_,rfl⟩
 have aH:G.heap.size=w.heap.size+2:=by rw [z];simp
 have aI:G.heap[w.heap.size]? =some (.cells (cSc b h) 26 (0,0)):=by
  rw [z];exact (zx _ _ _ sI).trans (zy w _)
 have ap:G.heap[w.heap.size+1]? =some (.cells (cSg (ix:Int) O H Y Aq nq Z) 33 (0,0)):=by
  rw [z];have:=zy (w.alloc (.cells (cSc b h) 26)) (.cells (cSg (ix:Int) O H Y Aq nq Z) 33);simpa using this
 have HC:Hid (∀V,Below (w.heap.size+2) G V->V.cell? ⟨w.heap.size,0,none⟩=some (.int .i64 b)/\V.cell? ⟨w.heap.size,1,none⟩=some (.int .i64 h)/\V.cell? ⟨w.heap.size+1,0,none⟩=some (.int .i64 (ix:Int))/\V.cell? ⟨w.heap.size+1,1,none⟩=some (.slice O H Y)/\V.cell? ⟨w.heap.size+1,2,none⟩=some (.slice Aq nq Z)):=fun V N=>by
  have q:=(N.block w.heap.size om).trans aI;have q2:=(N.block (w.heap.size+1) om).trans ap;refine ⟨?_,?_,?_,?_,?_⟩
  ·rw [cell_of_row V _ _ _ _ _ q];rfl
  ·rw [cell_of_row V _ _ _ _ _ q];rfl
  ·rw [cell_of_row V _ _ _ _ _ q2];rfl
  ·rw [cell_of_row V _ _ _ _ _ q2];rfl
  ·rw [cell_of_row V _ _ _ _ _ q2];rfl
 have HB:Hid (Below w.heap.size w G):=by
  show Below ..
  rw [z];exact bl.alloc sI _
 have HS:=lh aH;have HWE:=lh z;have HB1:Hid (Below (w.heap.size+2) G G):=Below.refl _ _;clear aI ap aH z;have aj:=lh (au.out G HB.out);obtain ⟨c0,c1,c2,c3,c4⟩:=HC.out G HB1.out;rcases Bool.eq_false_or_eq_true (sgF b h ix H nq) with hf |hf
 rotate_left
 ·rw [hf] at aj;have aq:=lh hf;clear hp hq ag ah au hf;go_enter func97,ntmps97;go_upto_region 1 with fail
  rw [<-HWE.out];go_wp2_with (go_at_call 159;(with_reducible refine aj.out.mono ?_);rintro e w4 ⟨rfl,aa⟩;(have aN:=lh (bt HB.out aa));clear aa);go_ret2;exact ⟨_,_,rfl,Or.inr ⟨rfl,aq.out⟩,aN.out⟩
 ·rw [hf] at aj;have aq:=lh hf;have aC:(sgOk b h&&(decide (ix < 2 ^ h.toNat)&&(decide ((nq:Int)=h)&&decide (H=mN b.toNat+cN b.toNat))))=true:=hf;simp only [Bool.and_eq_true,decide_eq_true_eq] at aC;obtain ⟨aB,_,_,hT⟩:=aC;obtain ⟨aw,_,_⟩:=sgOk_bit aB;have HQ:Hid (∀V,Below (w.heap.size+2) G V->Sl fT V B Aq nq qs/\Sl fT V B O H ps/\B<=V.heap.size):=fun V N=>⟨(hq.up HB.out hB).up N (lT hB (Nat.le_add_right _ 2)),(hp.up HB.out hB).up N (lT hB (Nat.le_add_right _ 2)),Nat.le_trans (lT hB HB.out.size) (HS.out▸N.size:G.heap.size<=V.heap.size)⟩;have aT:=lh (fun W=>rgpar_any b h W);have aJ:Hid (∀V,Below (w.heap.size+2) G V->Calls prog 161 #[.agg (cPm b),.string U,.slice O H Y] V fun e J=>e= .returned (.string (pubF b.toNat (dgF b.toNat (sB U)) ps))/\Below V.heap.size V J):=fun V N=>rrecover_any b b.toNat aw U az O H Y B ps V (HQ.out V N).2.1 (HQ.out V N).2.2 hT ag;obtain ⟨T,af⟩:=gx (pubF b.toNat (dgF b.toNat (sB U)) ps);have ai:T.size=32:=by rw [<-af];unfold pubF;rw [<-ybI,ybC (ycG _),ycq]
  have ar:Hid (sgR b U ix ps qs=clF (leafS (sB T)) ix qs):=by show _=_;rw [<-af];rfl
  rw [af] at aJ;have aS:=lh ai;obtain ⟨L,hL⟩:=gx (leafS (sB T));have ao:L.size=32:=by rw [<-hL];exact ycn _
  have aO:Hid (∀(V:World) A' c',Below (w.heap.size+2) G V->Sl fB V V.heap.size A' T.size (sB T)->Calls prog 157 #[.slice A' T.size c'] V fun e J=>e= .returned (.string L)/\Below V.heap.size V J):=fun V A' c' N hs=>hL▸ydn A' T.size c' V.heap.size (sB T) V hs nl (by rw [aS.out];omega) (ycw T);rw [hL] at ar;have HCL:Hid (∀V,Below (w.heap.size+2) G V->Calls prog 160 #[.string L,.int .i64 ix,.slice Aq nq Z] V fun e J=>e= .returned (.string (clF L ix qs))/\Below V.heap.size V J):=fun V N=>rclimb_any L ao ix aL Aq nq Z B qs V (HQ.out V N).1 (HQ.out V N).2.2 hm ah;obtain ⟨rt,aK⟩:=gx (clF L ix qs);rw [aK] at HCL ar;clear hp hq ag ah au hf aB aw hT af ai hL ao aK;go_enter func97,ntmps97;go_upto_region 1 with fail
  rw [<-HWE.out];go_wp2_with (go_at_call 159;(with_reducible refine aj.out.mono ?_);rintro e w4 ⟨rfl,aa⟩;(have HBx:Hid (Below (w.heap.size+2) G w4):=Below.mono aa (Nat.le_of_eq HS.out.symm));(obtain ⟨c0,c1,c2,c3,c4⟩:=HC.out w4 HBx.out);clear aa);refine rH (S:=(fun J=>J.cell? ⟨w.heap.size,0,none⟩=some (.int .i64 b)/\J.cell? ⟨w.heap.size,1,none⟩=some (.int .i64 h)/\J.cell? ⟨w.heap.size+1,0,none⟩=some (.int .i64 (ix:Int))/\J.cell? ⟨w.heap.size+1,1,none⟩=some (.slice O H Y)/\J.cell? ⟨w.heap.size+1,2,none⟩=some (.slice Aq nq Z))) ya9 yam (fun ay=>?_);refine tkY 0 ?_;refine tkY 2 ?_;refine tkY 3 ?_;refine tkY 4 ?_;refine tkY 8 ?_;refine tkY 9 ?_;refine tkY 10 ?_;refine tkY 11 ?_;refine rd1 1 (fun K M=>?_)
  (go_simp;go_at_call 162;(with_reducible refine (aT.out _).mono ?_);rintro e w5 ⟨rfl,aF⟩;(have HBx:Hid (Below (w.heap.size+2) G w5):=Below.trans (B:=w.heap.size+2) (by repeat (first |exact HBx.out |refine Below.drew ?_ |refine below_dN' ?_ _ |refine ybd ?_ _)) (Below.mono aF (HS.out▸HBx.out.size)));clear aF;go_wp2_with fail)
  refine M.out _ _ yam (fun ak=>?_);clear M K ay
  try simp only [pt]
  refine rd1 5 (fun K M=>?_)
  (go_simp;go_at_call 161;(with_reducible refine (aJ.out _ HBx.out).mono ?_);rintro e w6 ⟨rfl,aG⟩;(have HBx:Hid (Below (w.heap.size+2) G w6):=HBx.out.trans (Below.mono aG (HS.out▸HBx.out.size)));clear aG;go_wp2_with fail)
  refine M.out _ _ yam (fun am=>?_);clear M K ak
  try simp only [pt]
  refine rd1 6 (fun K M=>?_)
  ((refine ydU (.tmp 18) rfl rfl T rfl ?_);intro cb W8 aA aQ aD;(have HBx:Hid (Below (w.heap.size+2) G W8):=HBx.out.trans (Below.mono aD.out (HS.out▸HBx.out.size)));(have aP:=lh (aO.out W8 _ cb HBx.out aA.out));clear aA aQ aD)
  refine M.out _ _ yam (fun ac=>?_);clear M K am
  try simp only [pt]
  refine rd1 7 (fun K M=>?_)
  (go_simp;go_at_call 157;(with_reducible refine aP.out.mono ?_);rintro e w9 ⟨rfl,aE⟩;(have HBx:Hid (Below (w.heap.size+2) G w9):=HBx.out.trans (Below.mono aE (HS.out▸HBx.out.size)));clear aE;go_wp2_with fail)
  refine M.out _ _ yam (fun ae=>?_);clear M K ac
  try simp only [pt]
  refine rd1 12 (fun K M=>?_)
  (go_simp;go_at_call 160;(with_reducible refine (HCL.out _ HBx.out).mono ?_);rintro e aR ⟨rfl,ax⟩;(have HBx:Hid (Below (w.heap.size+2) G aR):=HBx.out.trans (Below.mono ax (HS.out▸HBx.out.size)));clear ax;go_wp2_with fail)
  refine M.out _ _ yam (fun aM=>?_);clear M K ae
  try simp only [pt]
  (iterate 2 refine tkA ?_)
  refine wpAnyH_done ya9 ?_ _;go_wp2_with fail;go_ret2;exact ⟨_,_,rfl,Or.inl ⟨rfl,aq.out,ar.out.symm⟩,HB.out.trans (HBx.out.mono (Nat.le_add_right _ 2))⟩
theorem yea (x:ByteArray) (G:x.size<=32):∀(k i n:Nat) (ps:List ByteArray),(upF k x i n ps).1.size<=32
 |0,i,n,ps=>by
  rw [upF]
  split
  ·exact G
  ·split<;>exact Nat.zero_le _
 |k+1,i,n,ps=>by
  rw [upF]
  split
  ·exact G
  ·split
   ·exact Nat.zero_le _
   ·split<;>(dsimp only;rw [yc1];exact Nat.le_refl _)
theorem last_of {ps:List ByteArray} {m:Nat} (h:ps.length=m+1):ps.dropLast=ps.take m/\ps.getLastD ⟨#[]⟩=ps.getD m ⟨#[]⟩:=by
 refine ⟨by rw [List.dropLast_eq_take,h];rfl,?_⟩;rw [List.getLastD_eq_getLast?,List.getLast?_eq_getElem?,h,List.getD_eq_getElem?_getD];rfl
theorem climb_any:∀(k:Nat) (x:ByteArray) (i n:Nat) (A:Option Addr) (m c B:Nat) (ps:List ByteArray) (w:World) (L:Glob w),x.size=32->i < n->n<=256->Sl fT w B A m ps->B<=w.heap.size->m<=c->m<=k->m<=1000->(∀s∈ps,s.size=32)->
 Calls prog 149 #[.string x,.int .i64 i,.int .i64 n,.slice A m c] w fun e K=>e= .returned (.tuple #[.string (upF k x i n ps).1,.bool (upF k x i n ps).2])/\Below w.heap.size w K:=fun k=>by
 induction k with
 |zero=>
  intro x i n A m c B ps w L hx aM hn hp hB aB aK aN H;obtain rfl:m=0:=by omega
  have O:ps.length=0:=hp.1
  by_cases N:n=1
  ·subst N;have G:Hid (upF 0 x i 1 ps=(x,true)):=by show _=_;rw [upF,if_pos rfl,decide_eq_true O]
   rw [G.out];clear hp H L;go_enter func149,ntmps149;go_wp2;go_ret2;exact ⟨rfl,Below.refl _ _⟩
  ·have G:Hid (upF 0 x i n ps=(⟨#[]⟩,false)):=by show _=_;rw [upF,if_neg N,if_pos O]
   rw [G.out];have aH:((n:Int)==1)=false:=by simp;omega
   clear hp H L;go_enter func149,ntmps149;go_wp2;go_ret2;exact ⟨rfl,Below.refl _ _⟩
 |succ k ih=>
  intro x i n A m c B ps w L hx aM hn hp hB aB aK aN H;have O:ps.length=m:=hp.1
  by_cases N:n=1
  ·subst N;have G:Hid (upF (k+1) x i 1 ps=(x,decide (m=0))):=by show _=_;rw [upF,if_pos rfl,O]
   rw [G.out];have aj:((m:Int)==0)=decide (m=0):=by by_cases h:m=0<;>simp [h]
   clear hp H L;go_enter func149,ntmps149;go_wp2;go_ret2;exact ⟨by rw [<-aj];rfl,Below.refl _ _⟩
  ·have aH:((n:Int)==1)=false:=by simp;omega
   by_cases aL:m=0
   ·subst aL;have G:Hid (upF (k+1) x i n ps=(⟨#[]⟩,false)):=by show _=_;rw [upF,if_neg N,if_pos O]
    rw [G.out];clear hp H L;go_enter func149,ntmps149;go_wp2;go_ret2;exact ⟨rfl,Below.refl _ _⟩
   ·obtain ⟨m,rfl⟩:∃m',m=m'+1:=⟨m - 1,by omega⟩
    obtain ⟨ae,T⟩:=last_of O;obtain ⟨b1,o1,z,rfl,aE,ai,aC⟩:=hp.2.at_ (k:=m) om;have au:=H z (List.mem_of_getElem? ai);rw [ybw ai] at T;obtain ⟨f1,f2,f3,f4,f5⟩:=ycy (n:=n) om hn;have ac:=lh (fun W=>msplit_any n om hn W)
    have G:Hid (upF (k+1) x i n ps=if i < spl n then (ndS (upF k x i (spl n) (ps.take m)).1 z,(upF k x i (spl n) (ps.take m)).2) else (ndS z (upF k x (i - spl n) (n - spl n) (ps.take m)).1,(upF k x (i - spl n) (n - spl n) (ps.take m)).2)):=by
     show _=_;rw [upF,if_neg N,if_neg om,ae,T]
    obtain ⟨p,ap⟩:=gx (spl n);rw [ap] at ac G f3 f4 f5;obtain ⟨iS,aw,_,az,_⟩:=info_parts Tryz.infoS;obtain ⟨A1,ah⟩:∃A1:Option Addr,(if c=0 then (some ⟨b1,o1,none⟩:Option Addr) else (some ⟨b1,o1,none⟩:Option Addr).map (·.add 0))=A1:=⟨_,rfl⟩
    have af:=ycs (P:=prog) 24 9 iS underlying24 aw az (some ⟨b1,o1,none⟩) (m+1) c m om;rw [ah] at af
    have ag:Hid (∀V,Below w.heap.size w V->Sl fT V B A1 m (ps.take m)):=fun V J=>by
     have:=(hp.up J hB).partT (c:=c) 0 m om aB;rw [ah,List.drop_zero] at this;exact this
    have aj:((m+1:Nat):Int) - 1=(m:Int):=by omega
    have aq:(m:Int)+1 - 1=(m:Int):=by omega
    have aP:(((m+1:Nat):Int)==0)=false:=by simp;omega
    have aO:(((m:Int)+1)==0)=false:=by simp;omega
    have aD:IntKind.i64.wrap (m:Int)=m:=IntWalk.i64_in _ om;have am:(m:Int) < (m:Int)+1:=by omega
    have ak:(m:Int) < ((m+1:Nat):Int):=by omega
    have U:∀s∈ps.take m,s.size=32:=fun s h=>H s (List.mem_of_mem_take h);have HB:Hid (Below w.heap.size w w):=Below.refl _ _;have aF:m<=k:=by omega
    by_cases Y:i < p
    ·have aI:(i:Int) < (p:Int):=by omega
     have HR:Hid (∀V,Below w.heap.size w V->Calls prog 149 #[.string x,.int .i64 i,.int .i64 p,.slice A1 m c] V fun e K=>e= .returned (.tuple #[.string (upF k x i p (ps.take m)).1,.bool (upF k x i p (ps.take m)).2])/\Below V.heap.size V K):=fun V J=>
      ih x i p A1 m c B (ps.take m) V (L.on J) hx Y om (ag.out V J) (lT hB J.size) om aF om U
     have M:=yea x (Nat.le_of_eq hx) k i p (ps.take m);rw [if_pos Y] at G;obtain ⟨⟨r,ok⟩,hr⟩:=gx (upF k x i p (ps.take m));rw [hr] at HR G M;dsimp only at M;have ao:Hid (∀V,Below w.heap.size w V->Calls prog 168 #[.string r,.string z] V fun e K=>e= .returned (.string (ndS r z))/\Below V.heap.size V K):=fun V J=>ycO r z V (L.on J) om om;rw [G.out];clear hp H hx ai au ae T ap ah aw az hr M U ih f1 f2 ag L aE Y;go_enter func149,ntmps149;go_wp2_with fail;refine rH (S:=(fun K=>K.cell? ⟨b1,o1+m,none⟩=some (.string z))) ya9 (by first |exact aC |go_keep) (fun aA=>?_)
     (iterate 13 refine tkA ?_)
     refine wpAnyH_done ya9 ?_ _;clear aD aj aq af am ak
     go_wp2_with (first
      |(go_at_call 167;(with_reducible refine (ac.out _).mono ?_);rintro e W1 ⟨rfl,rfl⟩)
      |(go_at_call 149;(with_reducible refine (HR.out _ yaB).mono ?_);rintro e w2 ⟨rfl,aa⟩;(have HB:Hid (Below w.heap.size w w2):=Below.trans (B:=w.heap.size) yaB (aa.mono nl));(have ar:=lh (ao.out w2 HB.out));clear aa)
      |(go_at_call 168;(with_reducible refine ar.out.mono ?_);rintro e w3 ⟨rfl,Z⟩;(have HB:Hid (Below w.heap.size w w3):=bt HB.out Z);clear Z))
     go_ret2;exact ⟨rfl,HB.out⟩
    ·have aI:¬(i:Int) < (p:Int):=by omega
     have aJ:(i:Int) - (p:Int)=((i - p:Nat):Int):=by omega
     have aG:(n:Int) - (p:Int)=((n - p:Nat):Int):=by omega
     have HR:Hid (∀V,Below w.heap.size w V->Calls prog 149 #[.string x,.int .i64 ((i - p:Nat):Int),.int .i64 ((n - p:Nat):Int),.slice A1 m c] V fun e K=>e= .returned (.tuple #[.string (upF k x (i - p) (n - p) (ps.take m)).1,.bool (upF k x (i - p) (n - p) (ps.take m)).2])/\Below V.heap.size V K):=fun V J=>
      ih x (i - p) (n - p) A1 m c B (ps.take m) V (L.on J) hx om om (ag.out V J) (lT hB J.size) om aF om U
     have M:=yea x (Nat.le_of_eq hx) k (i - p) (n - p) (ps.take m);rw [if_neg Y] at G;obtain ⟨⟨r,ok⟩,hr⟩:=gx (upF k x (i - p) (n - p) (ps.take m));rw [hr] at HR G M;dsimp only at M;have ao:Hid (∀V,Below w.heap.size w V->Calls prog 168 #[.string z,.string r] V fun e K=>e= .returned (.string (ndS z r))/\Below V.heap.size V K):=fun V J=>ycO z r V (L.on J) om om;rw [G.out];obtain ⟨ip,ay⟩:=gx (i - p);obtain ⟨np,ax⟩:=gx (n - p);rw [ay] at HR aJ;rw [ax] at HR aG;clear hp H hx ai au ae T ap ah aw az hr M U ih f1 f2 ag L aE Y ay ax;go_enter func149,ntmps149;go_wp2_with fail;refine rH (S:=(fun K=>K.cell? ⟨b1,o1+m,none⟩=some (.string z))) ya9 (by first |exact aC |go_keep) (fun aA=>?_)
     (iterate 13 refine tkA ?_)
     refine wpAnyH_done ya9 ?_ _;clear aD aj aq af am ak
     go_wp2_with (first
      |(go_at_call 167;(with_reducible refine (ac.out _).mono ?_);rintro e W1 ⟨rfl,rfl⟩)
      |(go_at_call 149;(with_reducible refine (HR.out _ yaB).mono ?_);rintro e w2 ⟨rfl,aa⟩;(have HB:Hid (Below w.heap.size w w2):=Below.trans (B:=w.heap.size) yaB (aa.mono nl));(have ar:=lh (ao.out w2 HB.out));clear aa)
      |(go_at_call 168;(with_reducible refine ar.out.mono ?_);rintro e w3 ⟨rfl,Z⟩;(have HB:Hid (Below w.heap.size w w3):=bt HB.out Z);clear Z))
     go_ret2;exact ⟨rfl,HB.out⟩
theorem rup_any:∀(k:Nat) (x:ByteArray) (i n:Nat) (A:Option Addr) (m c B:Nat) (ps:List ByteArray) (w:World),x.size=32->i < n->n<=256->Sl fT w B A m ps->B<=w.heap.size->m<=c->m<=k->m<=1000->(∀s∈ps,s.size=32)->
 Calls prog 156 #[.string x,.int .i64 i,.int .i64 n,.slice A m c] w fun e J=>e= .returned (.tuple #[.string (upF k x i n ps).1,.bool (upF k x i n ps).2])/\Below w.heap.size w J:=fun k=>by
 induction k with
 |zero=>
  intro x i n A m c B ps w hx aL hn hp hB aA aJ aM H;obtain rfl:m=0:=by omega
  have M:ps.length=0:=hp.1
  by_cases L:n=1
  ·subst L;have G:Hid (upF 0 x i 1 ps=(x,true)):=by show _=_;rw [upF,if_pos rfl,decide_eq_true M]
   rw [G.out];clear hp H;go_enter func156,ntmps156;go_wp2;go_ret2;exact ⟨rfl,Below.refl _ _⟩
  ·have G:Hid (upF 0 x i n ps=(⟨#[]⟩,false)):=by show _=_;rw [upF,if_neg L,if_pos M]
   rw [G.out];have aG:((n:Int)==1)=false:=by simp;omega
   clear hp H;go_enter func156,ntmps156;go_wp2;go_ret2;exact ⟨rfl,Below.refl _ _⟩
 |succ k ih=>
  intro x i n A m c B ps w hx aL hn hp hB aA aJ aM H;have M:ps.length=m:=hp.1
  by_cases L:n=1
  ·subst L;have G:Hid (upF (k+1) x i 1 ps=(x,decide (m=0))):=by show _=_;rw [upF,if_pos rfl,M]
   rw [G.out];have ai:((m:Int)==0)=decide (m=0):=by by_cases h:m=0<;>simp [h]
   clear hp H;go_enter func156,ntmps156;go_wp2;go_ret2;exact ⟨by rw [<-ai];rfl,Below.refl _ _⟩
  ·have aG:((n:Int)==1)=false:=by simp;omega
   by_cases aK:m=0
   ·subst aK;have G:Hid (upF (k+1) x i n ps=(⟨#[]⟩,false)):=by show _=_;rw [upF,if_neg L,if_pos M]
    rw [G.out];clear hp H;go_enter func156,ntmps156;go_wp2;go_ret2;exact ⟨rfl,Below.refl _ _⟩
   ·obtain ⟨m,rfl⟩:∃m',m=m'+1:=⟨m - 1,by omega⟩
    obtain ⟨ac,O⟩:=last_of M;obtain ⟨b1,o1,z,rfl,aD,ah,aB⟩:=hp.2.at_ (k:=m) om;have ar:=H z (List.mem_of_getElem? ah);rw [ybw ah] at O;obtain ⟨f1,f2,f3,f4,f5⟩:=ycy (n:=n) om hn;have aa:=lh (fun W=>rsplit_any n om hn W)
    have G:Hid (upF (k+1) x i n ps=if i < spl n then (ndS (upF k x i (spl n) (ps.take m)).1 z,(upF k x i (spl n) (ps.take m)).2) else (ndS z (upF k x (i - spl n) (n - spl n) (ps.take m)).1,(upF k x (i - spl n) (n - spl n) (ps.take m)).2)):=by
     show _=_;rw [upF,if_neg L,if_neg om,ac,O]
    obtain ⟨p,ao⟩:=gx (spl n);rw [ao] at aa G f3 f4 f5;obtain ⟨iS,au,_,ay,_⟩:=info_parts Tryz.infoS;obtain ⟨A1,ag⟩:∃A1:Option Addr,(if c=0 then (some ⟨b1,o1,none⟩:Option Addr) else (some ⟨b1,o1,none⟩:Option Addr).map (·.add 0))=A1:=⟨_,rfl⟩
    have ae:=ycs (P:=prog) 24 9 iS underlying24 au ay (some ⟨b1,o1,none⟩) (m+1) c m om;rw [ag] at ae
    have af:Hid (∀V,Below w.heap.size w V->Sl fT V B A1 m (ps.take m)):=fun V N=>by
     have:=(hp.up N hB).partT (c:=c) 0 m om aA;rw [ag,List.drop_zero] at this;exact this
    have ai:((m+1:Nat):Int) - 1=(m:Int):=by omega
    have ap:(m:Int)+1 - 1=(m:Int):=by omega
    have aO:(((m+1:Nat):Int)==0)=false:=by simp;omega
    have aN:(((m:Int)+1)==0)=false:=by simp;omega
    have aC:IntKind.i64.wrap (m:Int)=m:=IntWalk.i64_in _ om;have ak:(m:Int) < (m:Int)+1:=by omega
    have aj:(m:Int) < ((m+1:Nat):Int):=by omega
    have T:∀s∈ps.take m,s.size=32:=fun s h=>H s (List.mem_of_mem_take h);have HB:Hid (Below w.heap.size w w):=Below.refl _ _;have aE:m<=k:=by omega
    by_cases U:i < p
    ·have aH:(i:Int) < (p:Int):=by omega
     have HR:Hid (∀V,Below w.heap.size w V->Calls prog 156 #[.string x,.int .i64 i,.int .i64 p,.slice A1 m c] V fun e J=>e= .returned (.tuple #[.string (upF k x i p (ps.take m)).1,.bool (upF k x i p (ps.take m)).2])/\Below V.heap.size V J):=fun V N=>
      ih x i p A1 m c B (ps.take m) V hx U om (af.out V N) (lT hB N.size) om aE om T
     have K:=yea x (Nat.le_of_eq hx) k i p (ps.take m);rw [if_pos U] at G;obtain ⟨⟨r,ok⟩,hr⟩:=gx (upF k x i p (ps.take m));rw [hr] at HR G K;dsimp only at K;have am:Hid (∀V,Below w.heap.size w V->Calls prog 125 #[.string r,.string z] V fun e J=>e= .returned (.string (ndS r z))/\Below V.heap.size V J):=fun V N=>ycP r z V om om;rw [G.out];clear hp H hx ah ar ac O ao ag au ay hr K T ih f1 f2 af aD U;go_enter func156,ntmps156;go_wp2_with fail;refine rH (S:=(fun J=>J.cell? ⟨b1,o1+m,none⟩=some (.string z))) ya9 (by first |exact aB |go_keep) (fun az=>?_)
     (iterate 13 refine tkA ?_)
     refine wpAnyH_done ya9 ?_ _;clear aC ai ap ae ak aj
     go_wp2_with (first
      |(go_at_call 124;(with_reducible refine (aa.out _).mono ?_);rintro e W1 ⟨rfl,rfl⟩)
      |(go_at_call 156;(with_reducible refine (HR.out _ yaB).mono ?_);rintro e w2 ⟨rfl,Z⟩;(have HB:Hid (Below w.heap.size w w2):=Below.trans (B:=w.heap.size) yaB (Z.mono nl));(have aq:=lh (am.out w2 HB.out));clear Z)
      |(go_at_call 125;(with_reducible refine aq.out.mono ?_);rintro e w3 ⟨rfl,Y⟩;(have HB:Hid (Below w.heap.size w w3):=bt HB.out Y);clear Y))
     go_ret2;exact ⟨rfl,HB.out⟩
    ·have aH:¬(i:Int) < (p:Int):=by omega
     have aI:(i:Int) - (p:Int)=((i - p:Nat):Int):=by omega
     have aF:(n:Int) - (p:Int)=((n - p:Nat):Int):=by omega
     have HR:Hid (∀V,Below w.heap.size w V->Calls prog 156 #[.string x,.int .i64 ((i - p:Nat):Int),.int .i64 ((n - p:Nat):Int),.slice A1 m c] V fun e J=>e= .returned (.tuple #[.string (upF k x (i - p) (n - p) (ps.take m)).1,.bool (upF k x (i - p) (n - p) (ps.take m)).2])/\Below V.heap.size V J):=fun V N=>
      ih x (i - p) (n - p) A1 m c B (ps.take m) V hx om om (af.out V N) (lT hB N.size) om aE om T
     have K:=yea x (Nat.le_of_eq hx) k (i - p) (n - p) (ps.take m);rw [if_neg U] at G;obtain ⟨⟨r,ok⟩,hr⟩:=gx (upF k x (i - p) (n - p) (ps.take m));rw [hr] at HR G K;dsimp only at K;have am:Hid (∀V,Below w.heap.size w V->Calls prog 125 #[.string z,.string r] V fun e J=>e= .returned (.string (ndS z r))/\Below V.heap.size V J):=fun V N=>ycP z r V om om;rw [G.out];obtain ⟨ip,ax⟩:=gx (i - p);obtain ⟨np,aw⟩:=gx (n - p);rw [ax] at HR aI;rw [aw] at HR aF;clear hp H hx ah ar ac O ao ag au ay hr K T ih f1 f2 af aD U ax aw;go_enter func156,ntmps156;go_wp2_with fail;refine rH (S:=(fun J=>J.cell? ⟨b1,o1+m,none⟩=some (.string z))) ya9 (by first |exact aB |go_keep) (fun az=>?_)
     (iterate 13 refine tkA ?_)
     refine wpAnyH_done ya9 ?_ _;clear aC ai ap ae ak aj
     go_wp2_with (first
      |(go_at_call 124;(with_reducible refine (aa.out _).mono ?_);rintro e W1 ⟨rfl,rfl⟩)
      |(go_at_call 156;(with_reducible refine (HR.out _ yaB).mono ?_);rintro e w2 ⟨rfl,Z⟩;(have HB:Hid (Below w.heap.size w w2):=Below.trans (B:=w.heap.size) yaB (Z.mono nl));(have aq:=lh (am.out w2 HB.out));clear Z)
      |(go_at_call 125;(with_reducible refine aq.out.mono ?_);rintro e w3 ⟨rfl,Y⟩;(have HB:Hid (Below w.heap.size w w3):=bt HB.out Y);clear Y))
     go_ret2;exact ⟨rfl,HB.out⟩
