/- The reference's public key of parts. Signatures: schemes. Contracts of library functions at this translation (printed by the kit's lay-shelf and lay-plain). One-time signatures: the public key of values. -/
import Derived.Test.YtpdledjgbgalcaaGreatDoorPf
import Derived.Shelf.Strings.Builder1
import Derived.Shelf.Strings.Builder2
import Derived.Shelf.Strings.OnBuilder
import Derived.Shelf.Small.Bits
import Derived.Shelf.Small.Wraps
import Derived.Shelf.Strings.BuilderF
import Derived.Shelf.Strings.BuilderK
import Derived.Shelf.Strings.Builder2Cap
import Derived.Shelf.Strconv.Itoa0
import Derived.Shelf.Sort.Plain
import Derived.Shelf.Strings.BuilderCap
import Derived.Shelf.Slices.Turned
import Derived.Ground.Names2Prog
import Derived.Shelf.Slices.Clone
import Derived.Shelf.Slices.SearchI
import Derived.Shelf.Slices.In.SortNone
import Derived.Ground.SlgnProg
import Derived.Shelf.SlicesE.Clone
import Derived.Test.YtpdledjgbgalcaaGreatDoorProg
namespace Go.Proofs.YtpdledjgbgalcaaGreatDoor
set_option maxRecDepth 100000
set_option maxHeartbeats 8000000
open Go.RowKit Go.Lib
set_option linter.unusedVariables false
set_option linter.unusedSimpArgs false
abbrev pbL:List Int:=[112,117,98,108,105,99]
theorem pbL_eq:sB "public".toUTF8=pbL:=by decide+kernel
theorem bit_M {b:Int} {β:Nat} (hb:BitN b β):∃M:Nat,2 ^ β - 1=M∧1≤M∧M≤15∧bsF β=(M:Int)+1∧lsF β=(M:Int)∧(2 ^ β:Nat)=M+1:=by
 rcases hb with ⟨_,rfl⟩ |⟨_,rfl⟩ |⟨_,rfl⟩
 ·exact ⟨1,rfl,by omega,by omega,rfl,rfl,rfl⟩
 ·exact ⟨3,rfl,by omega,by omega,rfl,rfl,rfl⟩
 ·exact ⟨15,rfl,by omega,by omega,rfl,rfl,rfl⟩
theorem ydi (β:Nat) (ds:List Int) (ps:List ByteArray) (h:∀s∈ps,s.size=32) (n:Nat) (hn:n≤ps.length):∀s∈endsF β ds ps n,s.size=32:=by
 intro s hs;unfold endsF at hs;obtain ⟨i,hi,rfl⟩:=List.mem_map.1 hs;rw [List.mem_range] at hi;refine ycZ _ _ _ ?_ _;rw [List.getD_eq_getElem?_getD,List.getElem?_eq_getElem om];exact h _ (List.getElem_mem _)
theorem jnL_len32 (ps:List ByteArray) (h:∀s∈ps,s.size=32):(jnL ps).length=32*ps.length:=by
 induction ps with
 |nil=>rfl
 |cons a t ih=>
  rw [show jnL (a::t)=sB a++jnL t from rfl,List.length_append,ya9,h a List.mem_cons_self,ih (fun s hs=>h s (List.mem_cons_of_mem _ hs)),List.length_cons];omega
theorem rends_any (b:Int) (β:Nat) (hb:BitN b β) (Ad Ap:Option Addr) (nd np cd cp Bd:Nat) (ds:List Int) (ps:List ByteArray) (w:World) (hd:Sl I w Bd Ad nd ds) (hp:Sl fT w Bd Ap np ps) (hB:Bd≤w.heap.size) (hn:np=nd) (hn3:np≤300) (hdr:∀d∈ds,0≤d∧d≤2 ^ β - 1) (hps:∀s∈ps,s.size=32):
 Calls Tryz.prog 207 #[.agg (cPm b),.slice Ad nd cd,.slice Ap np cp] w fun e w'=>e= .returned (.string (baOf (pbL++jnL (endsF β ds ps np))))∧Below w.heap.size w w':=by
 obtain ⟨M,hM1,hM2,hM3,hM4,hM5,hM6⟩:=bit_M hb;have hpw:((2:Int) ^ β)=((2 ^ β:Nat):Int):=by simp
 have HDR:Hid (∀d∈ds,0≤d∧d≤(M:Int)):=fun d h=>by
  have:=hdr d h
  rw [hpw,hM6] at this;omega
 have HL:=lh (fun W=>ybZ b β hb W);rw [hM4] at HL;have hwm:IntKind.i64.wrap (M:Int)=M:=IntWalk.i64_in _ om;have HB:Hid (Below w.heap.size w (w.alloc (.cells (cPm b) 233))):=bl;obtain ⟨W1,hW1⟩:∃W1:World,W1=w.alloc (.cells (cPm b) 233):=⟨_,rfl⟩
 have hsz:W1.heap.size=w.heap.size+1:=by rw [hW1];simp
 have hge:W1.heap[w.heap.size]? =some (.cells (cPm b) 233 (0,0)):=by rw [hW1];exact heap_alloc_new w _
 have HC:Hid (∀V,Below (w.heap.size+1) W1 V→V.cell? ⟨w.heap.size,0,none⟩=some (.int .i64 b)∧V.cell? ⟨w.heap.size,1,none⟩=some (.int .i64 32)):=fun V hv=>by
  have q:=(hv.block w.heap.size (Nat.lt_succ_self _)).trans hge;refine ⟨?_,?_⟩<;>(rw [cell_of_row V _ _ _ _ _ q];rfl)
 rw [←hW1] at HB;have HS:=lh hsz;have HWE:=lh hW1;have HB1:Hid (Below (w.heap.size+1) W1 W1):=Below.refl _ _;clear hge hsz hW1;have HD:Hid (∀V,Below (w.heap.size+1) W1 V→Sl I V Bd Ad nd ds∧Sl fT V Bd Ap np ps):=fun V hv=>⟨(hd.up HB.out hB).up hv (Nat.le_succ_of_le hB),(hp.up HB.out hB).up hv (Nat.le_succ_of_le hB)⟩
 have HPS:=lh hps;have HDL:Hid (ds.length=nd):=hd.1;have HPL:Hid (ps.length=np):=hp.1;have HM1:=lh hM1;have HN:=lh hn;have HES:Hid (∀k,k≤np→(endsF β ds ps k).length=k∧∀s∈endsF β ds ps k,s.size=32):=fun k hk=>⟨ycs _ _ _ _,ydi β ds ps hps k (by rw [hp.1];exact hk)⟩
 have HU0:Hid (baOf (pbL++jnL (endsF β ds ps 0))=⟨#[112,117,98,108,105,99]⟩):=by show baOf (pbL++jnL [])=_;decide+kernel
 clear hd hp hdr hps hM1 hM4 hM5 hM6 hpw hb hn;go_enter Tryz.func207,Tryz.ntmps207
 go_upto_region 1 with fail
 rw [←HWE.out]
 go_upto_region 3 with fail
 go_loopw [7,11] (fun u i wr=>∃(k:Nat) (y:ByteArray),k≤np∧i= .int .i64 k∧u= .string y∧Hid (baOf (pbL++jnL (endsF β ds ps k))=y)∧Hid (Below (w.heap.size+1) W1 wr)) (fun _ i _=>np - (intOf i).toNat)
 case atStart=>exact ⟨0,_,by omega,rfl,rfl,HU0,HB1⟩
 case round=>
  clear HU0 HB1;obtain ⟨k,y,hk,rfl,rfl,HY,HBr⟩:=hrel
  by_cases hlt:k < np
  ·have hkI:(k:Int) < (np:Int):=by omega
   have hkd:(k:Int) < (nd:Int):=by rw [←HN.out];exact hkI
   have hk0:(0:Int)≤(k:Int):=by omega
   obtain ⟨bd,od,dI,hAd,_,hgd,_⟩:=(HD.out wr HBr.out).1.2.at_ (k:=k) (by rw [HDL.out,←HN.out];exact hlt);obtain ⟨bp,op,x,hAp,_,hgp,_⟩:=(HD.out wr HBr.out).2.2.at_ (k:=k) (by rw [HPL.out];exact hlt);obtain ⟨d,rfl⟩:∃d:Nat,dI=(d:Int):=⟨dI.toNat,by have:=(HDR.out dI (List.mem_of_getElem? hgd)).1;omega⟩
   have hdM:d≤M:=by have:=(HDR.out _ (List.mem_of_getElem? hgd)).2;omega
   have hx32:x.size=32:=HPS.out x (List.mem_of_getElem? hgp)
   have HK:Hid (∀V,Below (w.heap.size+1) W1 V→V.cell? ⟨w.heap.size,0,none⟩=some (.int .i64 b)∧V.cell? ⟨w.heap.size,1,none⟩=some (.int .i64 32)∧V.cell? ⟨bd,od+k,none⟩=some (.int .i64 (d:Int))∧V.cell? ⟨bp,op+k,none⟩=some (.string x)):=fun V hv=>by
    obtain ⟨c0,c1⟩:=HC.out V hv;obtain ⟨b2,o2,x2,e2,_,g2,k2⟩:=(HD.out V hv).1.2.at_ (k:=k) (by rw [HDL.out,←HN.out];exact hlt);obtain ⟨b3,o3,x3,e3,_,g3,k3⟩:=(HD.out V hv).2.2.at_ (k:=k) (by rw [HPL.out];exact hlt);rw [hAd] at e2
    cases e2
    rw [hAp] at e3
    cases e3
    rw [hgd] at g2
    cases g2
    rw [hgp] at g3
    cases g3
    exact ⟨c0,c1,k2,k3⟩
   have HCH:=lh (fun W=>rchain_any k d M om hdM om x hx32 W)
   have HNX:Hid (baOf (pbL++jnL (endsF β ds ps (k+1)))=y++chF k d (M - d) x):=by
    show _=_
    apply ba_eqU
    have hb0:∀l,Byt (pbL++jnL l):=fun l z hz=>by
     rcases List.mem_append.1 hz with hz |hz
     ·(rcases List.mem_cons.1 hz with rfl |hz; ·omega);(rcases List.mem_cons.1 hz with rfl |hz; ·omega);(rcases List.mem_cons.1 hz with rfl |hz; ·omega);(rcases List.mem_cons.1 hz with rfl |hz; ·omega);(rcases List.mem_cons.1 hz with rfl |hz; ·omega);(rcases List.mem_cons.1 hz with rfl |hz; ·omega);cases hz
     ·exact ycp _ z hz
    rw [sB_app,←HY.out,ybi (hb0 _),ybi (hb0 _),endsF_succ,ydH,List.append_assoc,ybg hgd,ybg hgp,HM1.out]
    rfl
   have hysz:y.size≤10000:=by
    have h1:=HES.out k hk;have h2:=jnL_len32 _ h1.2;rw [h1.1] at h2
    have hb0:Byt (pbL++jnL (endsF β ds ps k)):=fun z hz=>by
     rcases List.mem_append.1 hz with hz |hz
     ·(rcases List.mem_cons.1 hz with rfl |hz; ·omega);(rcases List.mem_cons.1 hz with rfl |hz; ·omega);(rcases List.mem_cons.1 hz with rfl |hz; ·omega);(rcases List.mem_cons.1 hz with rfl |hz; ·omega);(rcases List.mem_cons.1 hz with rfl |hz; ·omega);(rcases List.mem_cons.1 hz with rfl |hz; ·omega);cases hz
     ·exact ycp _ z hz
    rw [←HY.out,yc2 hb0,List.length_append,h2]
    show 6+_≤_
    omega
   have hcsz:=ycZ k d x hx32 (M - d);obtain ⟨cv,hcv⟩:∃c,chF k d (M - d) x=c:=⟨_,rfl⟩
   rw [hcv] at HCH HNX hcsz;have hll:¬9223372036854775807 < y.size+cv.size:=by omega
   have HBc:=HBr;subst hAd;subst hAp;clear hgd hgp hx32 hcsz hcv hysz
   go_upto_region 5 with fail
   refine wp_region_held_drew (S:=(fun w'=>w'.cell? ⟨w.heap.size,0,none⟩=some (.int .i64 b)∧w'.cell? ⟨w.heap.size,1,none⟩=some (.int .i64 32)∧w'.cell? ⟨bd,od+k,none⟩=some (.int .i64 (d:Int))∧w'.cell? ⟨bp,op+k,none⟩=some (.string x))) yaV yah (fun hHeld=>?_);refine tkY 0 ?_;refine tkY 1 ?_;refine tkY 2 ?_;refine tkY 3 ?_;refine tkY 4 ?_;refine tkY 5 ?_;refine tkY 6 ?_;refine tkY 9 ?_;refine tkY 10 ?_;refine tkY 11 ?_;refine tkY 12 ?_;refine rd1 7 (fun K hK=>?_)
   (go_simp;go_at_call 250;(with_reducible refine (HL.out _).mono ?_);rintro e w4 ⟨rfl,hb4⟩;(have HBc:Hid (Below (w.heap.size+1) W1 w4):=HBr.out.trans (Below.mono (Below.trans (B:=wr.heap.size) yaA hb4) (HS.out▸HBr.out.size)));clear hb4;go_wp2_with fail)
   refine hK.out _ _ yah (fun hHeldq11=>?_);clear hK K hHeld
   try simp only [pt]
   refine tkY 8 ?_;refine rd1 13 (fun K hK=>?_)
   (go_simp;go_at_call 249;(with_reducible refine (HCH.out _).mono ?_);rintro e w5 ⟨rfl,hb5⟩;(have HBd:Hid (Below (w.heap.size+1) W1 w5):=HBc.out.trans (hb5.mono (HS.out▸HBc.out.size)));clear hb5;go_wp2_with fail)
   refine hK.out _ _ yah (fun hHeldq13=>?_);clear hK K hHeldq11
   try simp only [pt]
   refine tkY 14 ?_;refine tkY 15 ?_;refine wpAnyH_done yaV ?_ _
   go_wp2_with fail
   refine ⟨?rel,?measure⟩
   case rel=>exact ⟨k+1,y++cv,by omega,by go_num,rfl,HNX,HBd⟩
   case measure=>(simp [intOf]<;>omega)
  ·obtain rfl:k=np:=by omega
   go_wp2;go_ret;exact ⟨by rw [←HY.out];rfl,HB.out.trans (HBr.out.mono (Nat.le_succ _))⟩
theorem rcheck_any (b:Int) (β:Nat) (hb:BitN b β) (w:World):Calls Tryz.prog 248 #[.agg (cPm b)] w fun e w'=>e= .returned (.int .i64 (cNI β))∧Below w.heap.size w w':=by
 rcases hb with ⟨rfl,rfl⟩ |⟨rfl,rfl⟩ |⟨rfl,rfl⟩
 ·exact rcheck_1 w
 ·exact rcheck_2 w
 ·exact rcheck_4 w
theorem bit_T {b:Int} {β:Nat} (hb:BitN b β):∃T:Nat,mN β+cN β=T∧60≤T∧T≤265∧mNI β+cNI β=(T:Int):=by
 rcases hb with ⟨_,rfl⟩ |⟨_,rfl⟩ |⟨_,rfl⟩
 ·exact ⟨265,rfl,by omega,by omega,rfl⟩
 ·exact ⟨133,rfl,by omega,by omega,rfl⟩
 ·exact ⟨67,rfl,by omega,by omega,rfl⟩
theorem step_conv_sb {w:World} {ops:Array Oper} {o:Oper} {a:Act} {K:Act→World→Prop} {Q:Exit→Act→World→Prop} {E:Prop} (x:Operand) (ho:o.op= .convert 9 40 x) (hgd:o.guard=none) (s:ByteArray) (hx:a.eval x= .string s)
 (h:∀c W,Hid (Sl fB W W.heap.size (some ⟨w.heap.size,0,none⟩) s.size (sB s))→Hid (s.size≤c)→Hid (Below w.heap.size w W)→K (a.put o.dst (.slice (some ⟨w.heap.size,0,none⟩) s.size c)) W):if Region.wanted o (yielded ops a.tmps)=true then Oper.wp Tryz.prog o a w K Q else E:=by
 have hw:Region.wanted o (yielded ops a.tmps)=true:=by simp [Region.wanted,hgd]
 rw [if_pos hw];unfold Oper.wp execOp;simp only [ho,hx,Sem.run_bind,run_bytes_of_string (P:=Tryz.prog) w 9 40 5 s Tryz.underlying9 Tryz.underlying40 Tryz.underlying5,Result.andThen_ok];refine h _ _ (yds (heap_alloc_new w.drew _) sI) (grownCap_ge w s.size 0 _) ?_;exact (Below.drew br).alloc nl _
def sgOk (b h:Int):Bool:=decide ((b=1∨b=2∨b=4)∧0≤h∧h≤8)
abbrev cSc (b h:Int):Array Value:=#[.int .i64 b,.int .i64 h]
theorem sgvalid_any (b h:Int) (w:World):Calls Tryz.prog 201 #[.agg (cSc b h)] w fun e w'=>e= .returned (.bool (sgOk b h))∧Below w.heap.size w w':=by
 have HB:Hid (Below w.heap.size w (w.alloc (.cells (cSc b h) 26))):=bl;have i0:∀w,(Instr.index 303 (.agg #[.int .i64 1,.int .i64 2,.int .i64 4]) (.int .i64 0)).run Tryz.prog w= .ok (.int .i64 1) w:=fun _=>by kernel_rfl
 have i1:∀w,(Instr.index 303 (.agg #[.int .i64 1,.int .i64 2,.int .i64 4]) (.int .i64 1)).run Tryz.prog w= .ok (.int .i64 2) w:=fun _=>by kernel_rfl
 have i2:∀w,(Instr.index 303 (.agg #[.int .i64 1,.int .i64 2,.int .i64 4]) (.int .i64 2)).run Tryz.prog w= .ok (.int .i64 4) w:=fun _=>by kernel_rfl
 by_cases h0:h < 0
 ·have HV:Hid (sgOk b h=false):=by show _=_;unfold sgOk;rw [decide_eq_false];omega
  rw [HV.out];go_enter Tryz.func201,Tryz.ntmps201;go_wp2;go_ret;exact ⟨rfl,HB.out⟩
 ·by_cases h8:8 < h
  ·have HV:Hid (sgOk b h=false):=by show _=_;unfold sgOk;rw [decide_eq_false];omega
   rw [HV.out];go_enter Tryz.func201,Tryz.ntmps201;go_wp2;go_ret;exact ⟨rfl,HB.out⟩
  ·by_cases hb:b=1∨b=2∨b=4
   ·have HV:Hid (sgOk b h=true):=by show _=_;unfold sgOk;rw [decide_eq_true];omega
    rw [HV.out];rcases hb with rfl |rfl |rfl
    all_goals
     go_enter Tryz.func201,Tryz.ntmps201;go_wp2;refine wp_loop_rounds 3 ?_;rw [rounds_succ];go_wp2
     (try rw [rounds_succ])
     go_wp2
     (try rw [rounds_succ])
     go_wp2;go_ret;exact ⟨rfl,HB.out⟩
   ·have HV:Hid (sgOk b h=false):=by show _=_;unfold sgOk;rw [decide_eq_false];omega
    rw [HV.out];have hb1:¬b=1:=by omega
    have hb2:¬b=2:=by omega
    have hb4:¬b=4:=by omega
    have hc1:(b==1)=false:=by simp [hb1]
    have hc2:(b==2)=false:=by simp [hb2]
    have hc4:(b==4)=false:=by simp [hb4]
    go_enter Tryz.func201,Tryz.ntmps201;go_wp2;refine wp_loop_rounds 4 ?_;rw [rounds_succ];go_wp2;rw [rounds_succ];go_wp2;rw [rounds_succ];go_wp2;rw [rounds_succ];go_wp2;go_ret;exact ⟨rfl,HB.out⟩
open Go.Shelf
def Tryz.lays156_ren:Go.Shelf.Ren:=⟨fun |156=>267 |165=>272 |166=>273 |169=>274 |240=>275 |241=>276 |276=>277 |277=>278 |n=>n,fun |31=>24 |9=>9 |3=>3 |4=>4 |0=>0 |20=>20 |72=>327 |76=>330 |70=>325 |37=>40 |75=>329 |127=>332 |164=>333 |5=>5 |80=>240 |n=>n,fun |n=>n⟩
theorem Tryz.lays156:Go.Proofs.Lays.n156 Tryz.prog Tryz.lays156_ren:={
 mixed:=by kernel_rfl
 f156:=Tryz.func267.trans (congrArg some yaV)
 f165:=Tryz.func272.trans (congrArg some yaV)
 f166:=Tryz.func273.trans (congrArg some yaV)
 f169:=Tryz.func274.trans (congrArg some yaV)
 f240:=Tryz.func275.trans (congrArg some yaV)
 f241:=Tryz.func276.trans (congrArg some yaV)
 f276:=Tryz.func277.trans (congrArg some yaV)
 f277:=Tryz.func278.trans (congrArg some yaV)
 t0:=Tryz.underlying0
 a0:=Tryz.isAgg0
 z0:=Tryz.sizeOf0
 v0:=Tryz.zeroValue0
 t3:=Tryz.underlying3
 a3:=Tryz.isAgg3
 z3:=Tryz.sizeOf3
 v3:=Tryz.zeroValue3
 t4:=Tryz.underlying4
 a4:=Tryz.isAgg4
 z4:=Tryz.sizeOf4
 v4:=Tryz.zeroValue4
 t9:=Tryz.underlying9
 a9:=Tryz.isAgg9
 z9:=Tryz.sizeOf9
 v9:=Tryz.zeroValue9
 t20:=Tryz.underlying20
 a20:=Tryz.isAgg20
 z20:=Tryz.sizeOf20
 v20:=Tryz.zeroValue20
 t31:=Tryz.underlying24
 a31:=Tryz.isAgg24
 z31:=Tryz.sizeOf24
 v31:=Tryz.zeroValue24
 t37:=Tryz.underlying40
 a37:=Tryz.isAgg40
 z37:=Tryz.sizeOf40
 v37:=Tryz.zeroValue40
 t70:=Tryz.underlying325
 a70:=Tryz.isAgg325
 z70:=Tryz.sizeOf325
 v70:=Tryz.zeroValue325
 t72:=Tryz.underlying327
 a72:=Tryz.isAgg327
 z72:=Tryz.sizeOf327
 v72:=Tryz.zeroValue327
 t75:=Tryz.underlying329
 a75:=Tryz.isAgg329
 z75:=Tryz.sizeOf329
 v75:=Tryz.zeroValue329
 t76:=Tryz.underlying330
 a76:=Tryz.isAgg330
 z76:=Tryz.sizeOf330
 v76:=Tryz.zeroValue330
 t127:=Tryz.underlying332
 a127:=Tryz.isAgg332
 z127:=Tryz.sizeOf332
 v127:=Tryz.zeroValue332
 t164:=Tryz.underlying333
 a164:=Tryz.isAgg333
 z164:=Tryz.sizeOf333
 v164:=Tryz.zeroValue333}
theorem Tryz.Builder_Extra_156:Builder.Extra Tryz.prog Tryz.lays156_ren:={
 sizeBuilder:=by kernel_rfl
 liesBuilder:=by kernel_rfl
 t5:=Tryz.underlying5
 a5:=Tryz.isAgg5
 z5:=Tryz.sizeOf5
 v5:=Tryz.zeroValue5
 infoByte:=by kernel_rfl
 cellsByte:=by kernel_rfl
 sizeByte:=by kernel_rfl
 neB5:=by decide}
open Go.RowKit in
theorem Tryz.strings_Join (bk o c:Nat) (xs:List ByteArray) (sep:ByteArray) (w:World) (hcells:∀(j:Nat) x,xs[j]? =some x→w.cell? ⟨bk,o+j,none⟩=some (.string x)) (hbk:bk < w.heap.size) (hN:xs.length≤140737488355328) (hcap:xs.length≤c) (hlen:(Lib.join (xs.map (·.data.toList)) sep.data.toList).length≤140737488355328):
 Calls Tryz.prog 267 #[.slice (some ⟨bk,o,none⟩) xs.length c,.string sep] w fun e w'=>e= .returned (.string ⟨(Lib.join (xs.map (·.data.toList)) sep.data.toList).toArray⟩)∧Below w.heap.size w w':=Any.strings_Join Tryz.lays156 Tryz.Builder_Extra_156 bk o c xs sep w hcells hbk hN hcap hlen
def Tryz.lays189_ren:Go.Shelf.Ren:=⟨fun |189=>109 |125=>177 |257=>176 |128=>229 |129=>230 |294=>220 |295=>221 |296=>222 |297=>223 |298=>224 |299=>225 |216=>226 |300=>227 |301=>228 |328=>254 |329=>255 |330=>256 |331=>257 |332=>258 |215=>259 |343=>269 |n=>n,fun |28=>27 |3=>3 |46=>247 |0=>0 |51=>250 |53=>93 |4=>4 |183=>284 |182=>283 |131=>287 |5=>5 |9=>9 |218=>310 |222=>279 |228=>321 |229=>317 |n=>n,fun |n=>n⟩
theorem Tryz.lays189:Go.Proofs.Lays.n189 Tryz.prog Tryz.lays189_ren:={
 mixed:=by kernel_rfl
 f125:=Tryz.func177.trans (congrArg some yaV)
 f128:=Tryz.func229.trans (congrArg some yaV)
 f129:=Tryz.func230.trans (congrArg some yaV)
 f189:=Tryz.func109.trans (congrArg some yaV)
 f215:=Tryz.func259.trans (congrArg some yaV)
 f216:=Tryz.func226.trans (congrArg some yaV)
 f257:=Tryz.func176.trans (congrArg some yaV)
 f294:=Tryz.func220.trans (congrArg some yaV)
 f295:=Tryz.func221.trans (congrArg some yaV)
 f296:=Tryz.func222.trans (congrArg some yaV)
 f297:=Tryz.func223.trans (congrArg some yaV)
 f298:=Tryz.func224.trans (congrArg some yaV)
 f299:=Tryz.func225.trans (congrArg some yaV)
 f300:=Tryz.func227.trans (congrArg some yaV)
 f301:=Tryz.func228.trans (congrArg some yaV)
 f328:=Tryz.func254.trans (congrArg some yaV)
 f329:=Tryz.func255.trans (congrArg some yaV)
 f330:=Tryz.func256.trans (congrArg some yaV)
 f331:=Tryz.func257.trans (congrArg some yaV)
 f332:=Tryz.func258.trans (congrArg some yaV)
 f343:=Tryz.func269.trans (congrArg some yaV)
 t0:=Tryz.underlying0
 a0:=Tryz.isAgg0
 z0:=Tryz.sizeOf0
 v0:=Tryz.zeroValue0
 t3:=Tryz.underlying3
 a3:=Tryz.isAgg3
 z3:=Tryz.sizeOf3
 v3:=Tryz.zeroValue3
 t4:=Tryz.underlying4
 a4:=Tryz.isAgg4
 z4:=Tryz.sizeOf4
 v4:=Tryz.zeroValue4
 t5:=Tryz.underlying5
 a5:=Tryz.isAgg5
 z5:=Tryz.sizeOf5
 v5:=Tryz.zeroValue5
 t9:=Tryz.underlying9
 a9:=Tryz.isAgg9
 z9:=Tryz.sizeOf9
 v9:=Tryz.zeroValue9
 t28:=Tryz.underlying27
 a28:=Tryz.isAgg27
 z28:=Tryz.sizeOf27
 v28:=Tryz.zeroValue27
 t46:=Tryz.underlying247
 a46:=Tryz.isAgg247
 z46:=Tryz.sizeOf247
 v46:=Tryz.zeroValue247
 t51:=Tryz.underlying250
 a51:=Tryz.isAgg250
 z51:=Tryz.sizeOf250
 v51:=Tryz.zeroValue250
 t53:=Tryz.underlying93
 a53:=Tryz.isAgg93
 z53:=Tryz.sizeOf93
 v53:=Tryz.zeroValue93
 t131:=Tryz.underlying287
 a131:=Tryz.isAgg287
 z131:=Tryz.sizeOf287
 v131:=Tryz.zeroValue287
 t182:=Tryz.underlying283
 a182:=Tryz.isAgg283
 z182:=Tryz.sizeOf283
 v182:=Tryz.zeroValue283
 t183:=Tryz.underlying284
 a183:=Tryz.isAgg284
 z183:=Tryz.sizeOf284
 v183:=Tryz.zeroValue284
 t218:=Tryz.underlying310
 a218:=Tryz.isAgg310
 z218:=Tryz.sizeOf310
 v218:=Tryz.zeroValue310
 t222:=Tryz.underlying279
 a222:=Tryz.isAgg279
 z222:=Tryz.sizeOf279
 v222:=Tryz.zeroValue279
 t228:=Tryz.underlying321
 a228:=Tryz.isAgg321
 z228:=Tryz.sizeOf321
 v228:=Tryz.zeroValue321
 t229:=Tryz.underlying317
 a229:=Tryz.isAgg317
 z229:=Tryz.sizeOf317
 v229:=Tryz.zeroValue317}
open Go.Sort Go.RowKit in
theorem Tryz.slices_Sort_int (blk off cap:Nat) (zs:List Int) (w:World) (hH:Holds (Value.int .i64) w blk off zs.toArray) (hblk:blk < w.heap.size) (hsz:zs.length < 4611686018427387904):
 Calls Tryz.prog 109 #[.slice (some ⟨blk,off,none⟩) zs.length cap] w fun e w'=>
  e= .returned (.tuple #[])∧∃n os,w'=grow (putRow (Value.int .i64) (Sort.ahead w n) blk off (zs.mergeSort fun x y=>decide (x≤y)).toArray) os:=Any.slices_Sort_int Tryz.lays189 blk off cap zs w hH hblk hsz
def Tryz.lays110_ren:Go.Shelf.Ren:=⟨fun |110=>173 |109=>217 |n=>n,fun |31=>24 |9=>9 |4=>4 |3=>3 |0=>0 |n=>n,fun |n=>n⟩
theorem Tryz.lays110:Go.Proofs.Lays.n110 Tryz.prog Tryz.lays110_ren:={
 mixed:=by kernel_rfl
 f109:=Tryz.func217.trans (congrArg some yaV)
 f110:=Tryz.func173.trans (congrArg some yaV)
 t0:=Tryz.underlying0
 a0:=Tryz.isAgg0
 z0:=Tryz.sizeOf0
 v0:=Tryz.zeroValue0
 t3:=Tryz.underlying3
 a3:=Tryz.isAgg3
 z3:=Tryz.sizeOf3
 v3:=Tryz.zeroValue3
 t4:=Tryz.underlying4
 a4:=Tryz.isAgg4
 z4:=Tryz.sizeOf4
 v4:=Tryz.zeroValue4
 t9:=Tryz.underlying9
 a9:=Tryz.isAgg9
 z9:=Tryz.sizeOf9
 v9:=Tryz.zeroValue9
 t31:=Tryz.underlying24
 a31:=Tryz.isAgg24
 z31:=Tryz.sizeOf24
 v31:=Tryz.zeroValue24}
open Go.Lib in
theorem Tryz.slices_Contains_string (b off n c:Nat) (zs:List ByteArray) (x:ByteArray) (w:World) (hz:n≤zs.length) (hbig:n≤9223372036854775807) (hc:∀j,j < zs.length→w.cell? ⟨b,off+j,none⟩=some (.string (zs.getD j ByteArray.empty))):
 Calls Tryz.prog 173 #[.slice (some ⟨b,off,none⟩) n c,.string x] w fun e w'=>e= .returned (.bool (Lib.containsS (zs.take n) x))∧w'=w:=Any.slices_Contains_string Tryz.lays110 b off n c zs x w hz hbig hc
open Go.Lib in
theorem Tryz.slices_Contains_string_empty (a:Option Addr) (c:Nat) (x:ByteArray) (w:World):
 Calls Tryz.prog 173 #[.slice a 0 c,.string x] w fun e w'=>e= .returned (.bool false)∧w'=w:=Any.slices_Contains_string_empty Tryz.lays110 a c x w
open Go.RowKit Go.Sort in
theorem Tryz.slices_Sort_int_none (p:Option Addr) (cap:Nat) (w:World):
 Calls Tryz.prog 109 #[.slice p 0 cap] w fun e w'=>e= .returned (.tuple #[])∧w'=w:=Any.slices_Sort_int_none Tryz.lays189 p cap w
theorem join_emp:∀(xs:List (List UInt8)),Lib.join xs []=xs.flatten
 | []=>rfl
 |a::t=>by
  rw [Lib.join_cons];simp [Lib.joinTail]
theorem sB_mk (l:List UInt8):sB ⟨l.toArray⟩=l.map fun b=>(b.toNat:Int):=by unfold sB;simp
theorem join_jnL (vs:List ByteArray):sB ⟨(Lib.join (vs.map (·.data.toList)) []).toArray⟩=jnL vs:=by
 rw [join_emp,sB_mk]
 induction vs with
 |nil=>rfl
 |cons a t ih=>
  rw [List.map_cons,List.flatten_cons,List.map_append,ih]
  rfl
theorem join_len (vs:List ByteArray):(Lib.join (vs.map (·.data.toList)) []).length=(jnL vs).length:=by
 rw [←join_jnL,sB_mk,List.length_map]
theorem two_sl (w:World) (a b:ByteArray):Sl fT (w.alloc (.cells #[.string a,.string b] 9)) (w.alloc (.cells #[.string a,.string b] 9)).heap.size (some ⟨w.heap.size,0,none⟩) 2 [a,b]:=
 ⟨rfl,SL.of_block (t:=9) (fr:=(0,0)) (heap_alloc_new w _) sI⟩
theorem pubkey_any (A:Option Addr) (n c B:Nat) (vs:List ByteArray) (w:World) (hG:Glob w) (hx:Sl fT w B A n vs) (hB:B≤w.heap.size) (hc:n≤c) (h1:1≤n) (hn:n≤300) (hv:∀s∈vs,s.size=32):
 Calls Tryz.prog 246 #[.slice A n c] w fun e w'=>e= .returned (.string (baOf (shaB (pbL++jnL vs))))∧Below w.heap.size w w':=by
 have hvl:vs.length=n:=hx.1;have hln:=jnL_len32 vs hv;rw [hvl] at hln;obtain ⟨b1,o1,x,rfl,hb1,_,_⟩:=hx.2.at_ (k:=0) om
 have HJ:Hid (Calls Tryz.prog 267 #[.slice (some ⟨b1,o1,none⟩) n c,.string ⟨#[]⟩] w fun e w'=>e= .returned (.string ⟨(Lib.join (vs.map (·.data.toList)) []).toArray⟩)∧Below w.heap.size w w'):=by
  have h:=Tryz.strings_Join b1 o1 c vs ⟨#[]⟩ w (fun j y hj=>by
   obtain ⟨b2,o2,x2,e2,_,g2,k2⟩:=hx.2.at_ (k:=j) (List.getElem?_eq_some_iff.1 hj).1
   cases e2
   rw [hj] at g2
   cases g2
   exact k2) (Nat.lt_of_lt_of_le hb1 hB) om om (by show (Lib.join _ []).length≤_;rw [join_len,hln];omega)
  rw [hvl] at h;exact h
 obtain ⟨js,hjs⟩:∃s,(⟨(Lib.join (vs.map (·.data.toList)) []).toArray⟩:ByteArray)=s:=⟨_,rfl⟩
 have hsb:sB js=jnL vs:=by rw [←hjs,join_jnL]
 rw [hjs] at HJ
 have hjn:jnL [⟨#[112,117,98,108,105,99]⟩,js]=pbL++jnL vs:=by
  show sB ⟨#[112,117,98,108,105,99]⟩++(sB js++[])=_
  rw [hsb,List.append_nil]
  rfl
 have HM:Hid (∀W,Below w.heap.size w W→Calls Tryz.prog 209 #[.slice (some ⟨W.heap.size,0,none⟩) 2 2] (W.alloc (.cells #[.string ⟨#[112,117,98,108,105,99]⟩,.string js] 9)) fun e w'=>e= .returned (.string (baOf (shaB (pbL++jnL vs))))∧Below W.heap.size W w'):=fun W hb=>by
  have hba:=(Below.refl W.heap.size W).alloc nl (.cells #[.string ⟨#[112,117,98,108,105,99]⟩,.string js] 9);have h:=mjoin_any _ 2 2 _ [⟨#[112,117,98,108,105,99]⟩,js] _ (hG.on (hb.trans (hba.mono hb.size))) (two_sl W _ _) nl om (by rw [hjn,List.length_append,hln];show 6+_≤_;omega);rw [hjn] at h;exact h.mono fun e w' ⟨h1,h2⟩=>⟨h1,hba.trans (h2.mono hba.size)⟩
 clear hG hx hB hv hvl hln hb1 hjs hsb hjn;go_enter Tryz.func246,Tryz.ntmps246
 go_wp2_with (first
  |(go_at_call 267;(with_reducible refine HJ.out.mono ?_);rintro e w1 ⟨rfl,hb1⟩;(have HB1:=lh hb1);(have HM1:=lh (HM.out w1 hb1));clear hb1)
  |(go_at_call 209;(with_reducible refine HM1.out.mono ?_);rintro e w2 ⟨rfl,hb2⟩;(have HB2:=lh (HB1.out.trans (hb2.mono HB1.out.size)));clear hb2))
 go_ret;exact ⟨rfl,HB2.out⟩
