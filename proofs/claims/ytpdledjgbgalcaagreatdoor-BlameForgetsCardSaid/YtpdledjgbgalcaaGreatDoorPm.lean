/- Numbers in a slice; Reassign. Receipts and tokens checked: receipt.valid, isToken; the reference's Valid, Token. -/
import Derived.Test.YtpdledjgbgalcaaGreatDoorPc
import Derived.Test.YtpdledjgbgalcaaGreatDoorMa
import Derived.OwnWalk
import Derived.Test.YtpdledjgbgalcaaGreatDoorPh
namespace Go.Proofs.YtpdledjgbgalcaaGreatDoor
set_option maxRecDepth 100000
set_option maxHeartbeats 4000000
open Go.RowKit
set_option linter.unusedVariables false
set_option linter.unusedSimpArgs false
structure Rcp where
 hd:Int
 vt:Int
 s:ByteArray
 ix:Int
 sz:Int
 dy:Int
 sr:Int
 ct:Int
 pl:Int
 rt:ByteArray
 pa:Hd
 si:Int
 pb:Hd
 pc:Hd
def fR (r:Rcp):List Value:=[.int .i64 r.hd,.int .i64 r.vt,.string r.s,.int .i64 r.ix,.int .i64 r.sz,.int .i64 r.dy,.int .i64 r.sr,.int .i64 r.ct,.int .i64 r.pl,.string r.rt,.slice r.pa.a r.pa.n r.pa.c,.int .i64 r.si,.slice r.pb.a r.pb.n r.pb.c,.slice r.pc.a r.pc.n r.pc.c]
theorem fR_len (r:Rcp):(fR r).length=14:=rfl
def fP (p:ByteArray × Int):List Value:=[.string p.1,.int .i64 p.2]
theorem fP_len (p:ByteArray × Int):(fP p).length=2:=rfl
theorem fP_one (p:ByteArray × Int):∀u∈fP p,u.oneCell'=true:=fun u hu=>by
 simp only [fP,List.mem_cons,List.not_mem_nil,or_false] at hu;rcases hu with rfl |rfl<;>rfl
noncomputable def reaS (dev:List Int) (acc:List (ByteArray × Int)) (r:Rcp):List (ByteArray × Int):=
 if (dev.contains r.hd&& !pinB acc (r.s,r.ix))=true then acc++[(r.s,r.ix)] else acc
noncomputable def rea (dev:List Int) (rs:List Rcp):List (ByteArray × Int):=rs.foldl (reaS dev) []
theorem rea_snoc (dev:List Int) (rs:List Rcp) (r:Rcp):rea dev (rs++[r])=reaS dev (rea dev rs) r:=by simp [rea]
theorem reaS_len (dev:List Int) (acc:List (ByteArray × Int)) (r:Rcp):(reaS dev acc r).length≤acc.length+1:=by
 unfold reaS
 split
 ·simp
 ·omega
theorem ydv (dev:List Int) (rs:List Rcp):∀k,k≤rs.length→(rea dev (rs.take k)).length≤k
 |0,_=>by simp [rea]
 |k+1,h=>by
  obtain ⟨r,hr⟩:=ybn (xs:=rs) (k:=k) om;rw [yba hr,rea_snoc]
  have:=reaS_len dev (rea dev (rs.take k)) r
  have:=ydv dev rs k om
  omega
def IdxP (h:Int) (xs:List Int) (w:World) (i:Value) (wr:World):Prop:=∃k:Nat,k≤xs.length∧i= .int .i64 k∧Hid (h∉xs.take k)∧w=wr
theorem notin_snoc {h x:Int} {xs:List Int} {k:Nat} (hx:xs[k]? =some x) (h1:h∉xs.take k) (h2:h≠x):h∉xs.take (k+1):=by
 rw [yba hx];simp [h1,h2]
theorem indexI_any (A:Option Addr) (n c B:Nat) (xs:List Int) (h:Int) (w:World) (hx:Sl I w B A n xs) (hl:n≤1000000):
 Calls Tryz.prog 86 #[.slice A n c,.int .i64 h] w fun e w'=>∃z:Int,e= .returned (.int .i64 z)∧(decide (0≤z)=xs.contains h)∧w=w':=by
 have HX:=lh hx;have HXN:Hid (xs.length=n):=hx.1;clear hx;go_enter Tryz.func86,Tryz.ntmps86;go_wp2
 go_loopw [8] (fun i wr=>IdxP h xs w i wr) (fun i _=>n - (intOf i).toNat)
 case atStart=>exact ⟨0,by omega,rfl,by show h∉xs.take 0;simp,rfl⟩
 case round=>
  obtain ⟨k,hk,rfl,HN,rfl⟩:=hrel;rw [HXN.out] at hk
  by_cases hlt:k < n
  ·obtain ⟨b,off,x,rfl,_,hg,hc⟩:=HX.out.2.at_ (k:=k) yaR
   have hkI:(k:Int) < (n:Int):=by omega
   by_cases hxe:h=x
   ·subst hxe
    have HIn:Hid (xs.contains h=true):=by
     show _=_
     simp only [List.contains_iff_mem];exact List.mem_of_getElem? hg
    clear hg;go_wp2;go_ret;exact ⟨_,rfl,by rw [HIn.out];simp,rfl⟩
   ·have HG:=lh hg
    have HNE:=lh hxe;clear hg;go_wp2;refine ⟨?rel,?measure⟩
    case rel=>exact ⟨k+1,by rw [HXN.out];omega,by go_num,notin_snoc HG.out HN.out HNE.out,rfl⟩
    case measure=>simp [intOf];omega
  ·obtain rfl:k=n:=by omega
   go_wp2;go_ret;refine ⟨-1,rfl,?_,rfl⟩;have h1:=HN.out;rw [List.take_of_length_le yaM] at h1
   have h2:xs.contains h=false:=by
    cases hc:xs.contains h
    ·rfl
    ·rw [List.contains_iff_mem] at hc;exact absurd hc h1
   rw [h2];rfl
theorem containsI_any (A:Option Addr) (n c B:Nat) (xs:List Int) (h:Int) (w:World) (hx:Sl I w B A n xs) (hl:n≤1000000):
 Calls Tryz.prog 41 #[.slice A n c,.int .i64 h] w fun e w'=>e= .returned (.bool (xs.contains h))∧w=w':=by
 have HC:=lh (indexI_any A n c B xs h w hx hl);clear hx;go_enter Tryz.func41,Tryz.ntmps41
 go_wp2_with (first
  |(go_at_call 86;(with_reducible refine HC.out.mono ?_);rintro e w1 ⟨z,rfl,hz,rfl⟩;(have HZ:=lh hz);clear hz))
 go_ret;exact ⟨ya2 HZ.out,rfl⟩
def ReaP (dev:List Int) (rs:List Rcp) (w:World) (v i:Value) (wr:World):Prop:=
 ∃k n:Nat,k≤rs.length∧n≤k∧i= .int .i64 k∧Hid (MapP wr w.heap.size n (rea dev (rs.take k)))∧Hid (OwnN fP 2 31 wr (w.heap.size+1) v (rea dev (rs.take k)))∧Hid (Below w.heap.size w wr)
theorem Tryz.infoP:(Tryz.prog.info? 31).map (fun i=>(i.zero,i.size,i.bytes))=some (some (.agg #[.string ⟨#[]⟩,.int .i64 0]),2,24):=by kernel_rfl
theorem reassign_any (A A':Option Addr) (n c n' c' B:Nat) (rs:List Rcp) (dev:List Int) (w:World) (hx:SlN fR 14 w B A n rs) (hy:Sl I w B A' n' dev) (hB:B≤w.heap.size) (hl:n≤1000) (hl':n'≤1000000) (hok:∀r∈rs,okP r.s r.ix):
 Calls Tryz.prog 36 #[.slice A n c,.slice A' n' c'] w fun e w'=>∃A1 n1 c1,e= .returned (.slice A1 n1 c1)∧SlN fP 2 w' w'.heap.size A1 n1 (rea dev rs)∧Below w.heap.size w w':=by
 obtain ⟨i0,hi,hz0,hz1,hz2⟩:=info_parts Tryz.infoP;have HI:=lh hi;have HZ0:=lh hz0;have HZ1:=lh hz1;have HZ2:=lh hz2;have HX:=lh hx;have HXN:Hid (rs.length=n):=hx.1;have HOK:=lh hok;have HB:=lh hB;have HY:Hid (∀W h,Below w.heap.size w W→Calls Tryz.prog 41 #[.slice A' n' c',.int .i64 h] W fun e w'=>e= .returned (.bool (dev.contains h))∧W=w'):=fun W h hb=>containsI_any A' n' c' B dev h W (hy.up hb hB) hl'
 clear hi hz0 hz1 hz2 hx hy hok hB;go_enter Tryz.func36,Tryz.ntmps36;have hmm:= @run_makeMap Tryz.prog;go_wp2;clear hmm
 go_loopw [6,12] (fun v i wr=>ReaP dev rs w v i wr) (fun _ i _=>n - (intOf i).toNat)
 case atStart=>exact ⟨0,0,by omega,by omega,rfl,MapP.made w,OwnN.nil,bl⟩
 case round=>
  obtain ⟨k,m,hk,hm,rfl,HM,HO,HBw⟩:=hrel;rw [HXN.out] at hk
  by_cases hlt:k < n
  ·obtain ⟨b,off,r,rfl,hbB,hr,hat⟩:=(HX.out.up HBw.out HB.out).at_ hlt
   have hkI:(k:Int) < (n:Int):=by omega
   have hx0:wr.cell? ⟨b,off+k*14,none⟩=some (.int .i64 r.hd):=by rw [show off+k*14=off+(k*14+0) by omega];exact hat 0 _ rfl
   have hx1:wr.cell? ⟨b,off+k*14+1,none⟩=some (.int .i64 r.vt):=by rw [show off+k*14+1=off+(k*14+1) by omega];exact hat 1 _ rfl
   have hx2:wr.cell? ⟨b,off+k*14+2,none⟩=some (.string r.s):=by rw [show off+k*14+2=off+(k*14+2) by omega];exact hat 2 _ rfl
   have hx3:wr.cell? ⟨b,off+k*14+3,none⟩=some (.int .i64 r.ix):=by rw [show off+k*14+3=off+(k*14+3) by omega];exact hat 3 _ rfl
   have hx4:wr.cell? ⟨b,off+k*14+4,none⟩=some (.int .i64 r.sz):=by rw [show off+k*14+4=off+(k*14+4) by omega];exact hat 4 _ rfl
   have hx5:wr.cell? ⟨b,off+k*14+5,none⟩=some (.int .i64 r.dy):=by rw [show off+k*14+5=off+(k*14+5) by omega];exact hat 5 _ rfl
   have hx6:wr.cell? ⟨b,off+k*14+6,none⟩=some (.int .i64 r.sr):=by rw [show off+k*14+6=off+(k*14+6) by omega];exact hat 6 _ rfl
   have hx7:wr.cell? ⟨b,off+k*14+7,none⟩=some (.int .i64 r.ct):=by rw [show off+k*14+7=off+(k*14+7) by omega];exact hat 7 _ rfl
   have hx8:wr.cell? ⟨b,off+k*14+8,none⟩=some (.int .i64 r.pl):=by rw [show off+k*14+8=off+(k*14+8) by omega];exact hat 8 _ rfl
   have hx9:wr.cell? ⟨b,off+k*14+9,none⟩=some (.string r.rt):=by rw [show off+k*14+9=off+(k*14+9) by omega];exact hat 9 _ rfl
   have hx10:wr.cell? ⟨b,off+k*14+10,none⟩=some (.slice r.pa.a r.pa.n r.pa.c):=by rw [show off+k*14+10=off+(k*14+10) by omega];exact hat 10 _ rfl
   have hx11:wr.cell? ⟨b,off+k*14+11,none⟩=some (.int .i64 r.si):=by rw [show off+k*14+11=off+(k*14+11) by omega];exact hat 11 _ rfl
   have hx12:wr.cell? ⟨b,off+k*14+12,none⟩=some (.slice r.pb.a r.pb.n r.pb.c):=by rw [show off+k*14+12=off+(k*14+12) by omega];exact hat 12 _ rfl
   have hx13:wr.cell? ⟨b,off+k*14+13,none⟩=some (.slice r.pc.a r.pc.n r.pc.c):=by rw [show off+k*14+13=off+(k*14+13) by omega];exact hat 13 _ rfl
   have HR:=lh hr;have hokr:okP r.s r.ix:=HOK.out r (List.mem_of_getElem? hr);have HOr:=lh hokr;have HSN:Hid (rea dev (rs.take (k+1))=reaS dev (rea dev (rs.take k)) r):=by show _=_;rw [yba hr,rea_snoc]
   have hlen:=ydv dev rs k (by rw [HXN.out];omega);obtain ⟨acc,hacc⟩:∃acc,acc=rea dev (rs.take k):=⟨_,rfl⟩
   rw [←hacc] at HM HO HSN hlen;have HACC:=lh hacc;have HKm:Hid (m < maxLen):=by show _ < _;unfold maxLen;omega
   have HL1:Hid ((acc.length+1)*24≤140737488355328):=by show _≤_;omega
   have HL2:Hid (acc.length+1≤maxLen):=by show _≤_;unfold maxLen;omega
   clear hat hr hokr hacc
   go_upto_region 6 with fail
   generalize hW:wr.alloc _=W1;have HG1:Hid (W1.heap[wr.heap.size]? =some (.cells (fR r).toArray 35 (0,0))):=by show _=_;rw [←hW];exact heap_alloc_new wr _
   have HBa:Hid (Below wr.heap.size wr W1):=by show Below ..;rw [←hW];exact bl
   have HB1:Hid (Below w.heap.size w W1):=HBw.out.trans (HBa.out.mono HBw.out.size);have HM1:Hid (MapP W1 w.heap.size m acc):=HM.out.block (HBa.out.block _ HM.out.lt);have HO1:Hid (OwnN fP 2 31 W1 (w.heap.size+1) u6 acc):=HO.out.on HBa.out;have HGN:Hid (w.heap.size < wr.heap.size):=HM.out.lt;have f0:=cell_of_row W1 wr.heap.size 0 _ _ _ HG1.out;have f2:=cell_of_row W1 wr.heap.size 2 _ _ _ HG1.out;have f3:=cell_of_row W1 wr.heap.size 3 _ _ _ HG1.out;simp [fR] at f0 f2 f3;clear hW hx0 hx1 hx2 hx3 hx4 hx5 hx6 hx7 hx8 hx9 hx10 hx11 hx12 hx13;have hlook:=HM1.out.look r.s r.ix HOr.out;unfold pP at hlook
   cases hcb:dev.contains r.hd
   ·have HCB:=lh hcb
    have HRE:Hid (rea dev (rs.take (k+1))=acc):=by show _=_;rw [HSN.out,reaS,hcb];rfl
    clear hcb hlook
    go_wp2_with (first
     |(go_at_call 41;(with_reducible refine (HY.out _ _ HB1.out).mono ?_);rintro e w1 ⟨rfl,hw1⟩;subst hw1;rw [HCB.out]))
    refine ⟨?rel,?measure⟩
    case rel=>exact ⟨k+1,m,by rw [HXN.out];omega,by omega,by go_num,by show MapP ..;rw [HRE.out];exact HM1.out,by show OwnN ..;rw [HRE.out];exact HO1.out,HB1⟩
    case measure=>simp [intOf];omega
   ·have HCB:=lh hcb
    cases hpb:pinB acc (r.s,r.ix)
    ·have HRE:Hid (rea dev (rs.take (k+1))=acc++[(r.s,r.ix)]):=by show _=_;rw [HSN.out,reaS,hcb,hpb];rfl
     rw [hpb] at hlook;obtain ⟨W2,r1,hm2,hg2⟩:=HM1.out.store HKm.out r.s r.ix HOr.out;unfold pP at r1;have HM2:=lh hm2;have HG2:=lh hg2;have HBb:Hid (Below w.heap.size w W2):=HB1.out.trans (yaY hg2 (fun j hj=>by injection hj with hj;omega) HB1.out.size)
     have HO2:Hid (OwnN fP 2 31 W2 (w.heap.size+1) u6 acc):=HO1.out.kept hg2 (.inr (fun e=>by
      have:=(World.ownsRow.lt HO1.out _ e).1
      omega))
     have HR2:Hid (W2.heap[wr.heap.size]? =some (.cells (fR r).toArray 35 (0,0))):=(hg2.block _ (lt_of_block HG1.out) (fun e=>by injection e with e;have:=HGN.out;omega)).trans HG1.out;have g2:=cell_of_row W2 wr.heap.size 2 _ _ _ HR2.out;have g3:=cell_of_row W2 wr.heap.size 3 _ _ _ HR2.out;simp [fR] at g2 g3;have HSz:Hid (w.heap.size+1≤W2.heap.size):=hm2.lt;clear hcb hpb hm2 hg2
     go_upto_region 9 with (first
      |(go_at_call 41;(with_reducible refine (HY.out _ _ HB1.out).mono ?_);rintro e w1 ⟨rfl,hw1⟩;subst hw1;rw [HCB.out])
      |(at_builtin;(refine ybP fP_len om (o:=⟨some 34,_,_,_,_,_⟩) rfl (.tmp 30) (.tmp 33) 87 rfl 31 i0 _ 24 Tryz.underlying87 HI.out HZ0.out HZ1.out HZ2.out (by rfl) _ acc (w.heap.size+1) (by rfl) HO2.out (r.s,r.ix) 1 (by rfl) fP_one HL1.out HL2.out HSz.out ?_);intro v3 w3 HO3 HG3 HV3))
     clear hlook r1;go_wp2;refine ⟨?rel,?measure⟩
     case rel=>
      have hne:some w.heap.size≠u6.ownBlock:=fun e=>by
       have:=(World.ownsRow.lt HO2.out _ e.symm).1
       omega
      exact ⟨k+1,m+1,by rw [HXN.out];omega,by omega,by go_num,by show MapP ..;rw [HRE.out];exact HM2.out.kept HG3.out hne,by show OwnN ..;rw [HRE.out];exact HO3.out,HBb.out.trans (yaY HG3.out (fun j hj=>Nat.le_trans (Nat.le_succ _) (World.ownsRow.lt HO2.out j hj).1) HBb.out.size)⟩
     case measure=>simp [intOf];omega
    ·have HRE:Hid (rea dev (rs.take (k+1))=acc):=by show _=_;rw [HSN.out,reaS,hcb,hpb];rfl
     rw [hpb] at hlook;clear hcb hpb
     go_wp2_with (first
      |(go_at_call 41;(with_reducible refine (HY.out _ _ HB1.out).mono ?_);rintro e w1 ⟨rfl,hw1⟩;subst hw1;rw [HCB.out]))
     refine ⟨?rel,?measure⟩
     case rel=>exact ⟨k+1,m,by rw [HXN.out];omega,by omega,by go_num,by show MapP ..;rw [HRE.out];exact HM1.out,by show OwnN ..;rw [HRE.out];exact HO1.out,HB1⟩
     case measure=>simp [intOf];omega
  ·obtain rfl:k=n:=by omega
   go_wp2;go_ret;obtain ⟨A1,c1,hv,_,hs,_⟩:=HO.out.shape fP_len;rw [List.take_of_length_le yaM] at hv hs;exact ⟨A1,_,c1,by rw [←hv];rfl,hs,HBw.out⟩
open Go.RowKit Go.Lib
def rgB (x a b:Int):Bool:=decide (a≤x∧x≤b)
def arB (ys:List ByteArray) (m:Nat):Bool:=decide (ys.length≤m)&&sumsB ys
def pvB (vt:Int) (s:ByteArray) (ix sz:Int):Bool:=rgB vt 0 11&&(decide (s.size=32)&&(rgB ix 0 15&&rgB sz 1 65536))
def vaB (r:Rcp) (ps qs rs:List ByteArray):Bool:=rgB r.hd 0 11&&(pvB r.vt r.s r.ix r.sz&&(rgB r.dy 0 999999&&(rgB r.sr 0 1099511627776&&(rgB r.ct 1 256&&(rgB r.pl 0 (r.ct - 1)&&(decide (r.rt.size=32)&&(arB ps 8&&(arB rs 8&&(arB qs 300&&rgB r.si 0 255)))))))))
def RcIn (w:World) (B:Nat) (r:Rcp) (ps qs rs:List ByteArray):Prop:=Sl fT w B r.pa.a r.pa.n ps∧Sl fT w B r.pb.a r.pb.n qs∧Sl fT w B r.pc.a r.pc.n rs
theorem RcIn.up {w w':World} {B B':Nat} {r:Rcp} {ps qs rs:List ByteArray} (h:RcIn w B r ps qs rs) (hb:Below B' w w') (hB:B≤B'):RcIn w' B r ps qs rs:=⟨h.1.up hb hB,h.2.1.up hb hB,h.2.2.up hb hB⟩
theorem RcIn.more {w:World} {B B':Nat} {r:Rcp} {ps qs rs:List ByteArray} (h:RcIn w B r ps qs rs) (hB:B≤B'):RcIn w B' r ps qs rs:=⟨h.1.more' hB,h.2.1.more' hB,h.2.2.more' hB⟩
def tkB (s:ByteArray) (ix:Int) (no an:ByteArray):Bool:=idB s ix&&(decide (no.size=32)&&decide (an.size=32))
theorem ybo (x a b:Int) (w:World):Calls Tryz.prog 144 #[.int .i64 x,.int .i64 a,.int .i64 b] w fun e w'=>e= .returned (.bool (rgB x a b))∧w=w':=by
 by_cases h1:a≤x
 ·by_cases h2:x≤b
  ·skip
   go_enter Tryz.func144,Tryz.ntmps144;go_wp2;go_ret;exact ⟨ya2 yaF,rfl⟩
  ·skip
   go_enter Tryz.func144,Tryz.ntmps144;go_wp2;go_ret;exact ⟨ya2 yaF,rfl⟩
 ·skip
  go_enter Tryz.func144,Tryz.ntmps144;go_wp2;go_ret;exact ⟨ya2 yaF,rfl⟩
theorem ybw (x a b:Int) (w:World):Calls Tryz.prog 92 #[.int .i64 x,.int .i64 a,.int .i64 b] w fun e w'=>e= .returned (.bool (rgB x a b))∧w=w':=by
 by_cases h1:a≤x
 ·by_cases h2:x≤b
  ·skip
   go_enter Tryz.func92,Tryz.ntmps92;go_wp2;go_ret;exact ⟨ya2 yaF,rfl⟩
  ·skip
   go_enter Tryz.func92,Tryz.ntmps92;go_wp2;go_ret;exact ⟨ya2 yaF,rfl⟩
 ·skip
  go_enter Tryz.func92,Tryz.ntmps92;go_wp2;go_ret;exact ⟨ya2 yaF,rfl⟩
theorem areSums1_any (s:ByteArray) (w:World):Calls Tryz.prog 197 #[.string s] w fun e w'=>e= .returned (.bool (!decide (s.size=32)))∧w=w':=by
 by_cases hs:s.size=32
 ·have hsI:(((s.size:Nat):Int) != 32)=false:=by simp;omega
  rw [decide_eq_true hs];clear hs;go_enter Tryz.func197,Tryz.ntmps197;go_wp2;go_ret;exact ⟨rfl,rfl⟩
 ·have hsI:(((s.size:Nat):Int) != 32)=true:=by simp;omega
  rw [decide_eq_false hs];clear hs;go_enter Tryz.func197,Tryz.ntmps197;go_wp2;go_ret;exact ⟨rfl,rfl⟩
theorem indexF_are (A:Option Addr) (n c B:Nat) (ys:List ByteArray) (w:World) (hx:Sl fT w B A n ys) (hn:n≤1000000) (hf:∀s,Calls Tryz.prog 197 #[.string s] w fun e w'=>e= .returned (.bool (!decide (s.size=32)))∧w=w'):
 Calls Tryz.prog 165 #[.slice A n c,.func (.func 197) #[] #[]] w fun e w'=>∃z:Int,e= .returned (.int .i64 z)∧decide (0≤z)= !sumsB ys∧w=w':=by
 have HX:=lh hx;have HXN:Hid (ys.length=n):=hx.1;have HC:=lh hf;clear hx hf;go_enter Tryz.func165,Tryz.ntmps165;go_wp2
 go_loopw [8] (fun i wr=>∃k:Nat,k≤n∧i= .int .i64 k∧Hid (∀s∈ys.take k,s.size=32)∧w=wr) (fun i _=>n - (intOf i).toNat)
 case atStart=>exact ⟨0,by omega,rfl,fun s h=>by simp at h,rfl⟩
 case round=>
  obtain ⟨k,hk,rfl,HN,rfl⟩:=hrel
  by_cases hlt:k < n
  ·obtain ⟨b,off,x,rfl,_,hg,hc⟩:=HX.out.2.at_ (k:=k) yaR
   have hkI:(k:Int) < (n:Int):=by omega
   have HC1:=lh (HC.out x)
   by_cases hs:x.size=32
   ·have HT:Hid (∀s∈ys.take (k+1),s.size=32):=fun s h=>by
     rw [yba hg,List.mem_append,List.mem_singleton] at h;rcases h with h |rfl
     ·exact HN.out s h
     ·exact hs
    have hd:decide (x.size=32)=true:=decide_eq_true hs;rw [hd] at HC1;clear hs hd hg
    go_wp2_with (first
     |(go_at_call 197;(with_reducible refine HC1.out.mono ?_);rintro e w1 ⟨rfl,rfl⟩))
    refine ⟨?rel,?measure⟩
    case rel=>exact ⟨k+1,by omega,by go_num,HT,by trivial⟩
    case measure=>simp [intOf];omega
   ·have HS:Hid (sumsB ys=false):=ydu (List.mem_of_getElem? hg) hs
    have hd:decide (x.size=32)=false:=decide_eq_false hs;rw [hd] at HC1;clear hs hd hg
    go_wp2_with (first
     |(go_at_call 197;(with_reducible refine HC1.out.mono ?_);rintro e w1 ⟨rfl,rfl⟩))
    go_ret;exact ⟨_,rfl,by rw [HS.out];simp,rfl⟩
  ·obtain rfl:k=n:=by omega
   go_wp2;go_ret;have h1:=HN.out;rw [List.take_of_length_le yaM] at h1;exact ⟨-1,rfl,by rw [ybC.2 h1];rfl,rfl⟩
theorem containsF_are (A:Option Addr) (n c B:Nat) (ys:List ByteArray) (w:World) (hx:Sl fT w B A n ys) (hn:n≤1000000) (hf:∀s,Calls Tryz.prog 197 #[.string s] w fun e w'=>e= .returned (.bool (!decide (s.size=32)))∧w=w'):
 Calls Tryz.prog 99 #[.slice A n c,.func (.func 197) #[] #[]] w fun e w'=>e= .returned (.bool (!sumsB ys))∧w=w':=by
 have HC:=lh (indexF_are A n c B ys w hx hn hf);clear hx hf;go_enter Tryz.func99,Tryz.ntmps99
 go_wp2_with (first
  |(go_at_call 165;(with_reducible refine HC.out.mono ?_);rintro e w1 ⟨z,rfl,hz,rfl⟩;(have HZ:=lh hz);clear hz))
 go_ret;exact ⟨ya2 HZ.out,rfl⟩
theorem ycM (A:Option Addr) (n c B m:Nat) (ys:List ByteArray) (w:World) (hx:Sl fT w B A n ys) (hm:m≤1000):Calls Tryz.prog 146 #[.slice A n c,.int .i64 m] w fun e w'=>e= .returned (.bool (arB ys m))∧w=w':=by
 have HYN:Hid (ys.length=n):=hx.1;have HC:Hid (n≤m→Calls Tryz.prog 99 #[.slice A n c,.func (.func 197) #[] #[]] w fun e w'=>e= .returned (.bool (!sumsB ys))∧w=w'):=fun h=>containsF_are A n c B ys w hx om (fun s=>areSums1_any s w)
 clear hx;unfold arB;rw [HYN.out]
 by_cases h:n≤m
 ·have HC1:=lh (HC.out h)
  have hI:(n:Int)≤(m:Int):=by omega
  rw [decide_eq_true h];clear h HC;go_enter Tryz.func146,Tryz.ntmps146
  go_wp2_with (first
   |(go_at_call 99;(with_reducible refine HC1.out.mono ?_);rintro e w1 ⟨rfl,rfl⟩))
  go_ret;exact ⟨ya2 sI,rfl⟩
 ·have hI:¬(n:Int)≤(m:Int):=by omega
  rw [decide_eq_false h];clear h HC;go_enter Tryz.func146,Tryz.ntmps146;go_wp2;go_ret;exact ⟨rfl,rfl⟩
theorem pvalid_any (vt:Int) (s:ByteArray) (ix sz:Int) (w:World):Calls Tryz.prog 145 #[.agg #[.int .i64 vt,.string s,.int .i64 ix,.int .i64 sz]] w fun e w'=>e= .returned (.bool (pvB vt s ix sz))∧w.alloc (.cells #[.int .i64 vt,.string s,.int .i64 ix,.int .i64 sz] 223)=w':=by
 have H0:=lh (fun W=>ybo vt 0 11 W);have H2:=lh (fun W=>ybo ix 0 15 W);have H3:=lh (fun W=>ybo sz 1 65536 W);unfold pvB
 cases h0:rgB vt 0 11
 ·rw [h0] at H0
  skip
  have HH0:=lh h0;clear h0;go_enter Tryz.func145,Tryz.ntmps145
  go_wp2_with (first
   |(go_at_call 144;(with_reducible refine (H0.out _).mono ?_);rintro e w1 ⟨rfl,rfl⟩)
   |(go_at_call 144;(with_reducible refine (H2.out _).mono ?_);rintro e w1 ⟨rfl,rfl⟩)
   |(go_at_call 144;(with_reducible refine (H3.out _).mono ?_);rintro e w1 ⟨rfl,rfl⟩))
  go_ret;exact ⟨ya2 yaB,rfl⟩
 ·rw [h0] at H0
  skip
  have HH0:=lh h0;clear h0
  cases h1:decide (s.size=32)
  ·have hz1:((((s).size:Nat):Int)==32)=false:=by have:=of_decide_eq_false h1;simp;omega
   have hz101:((((s).size:Nat):Int) != 32)=true:=by have:=of_decide_eq_false h1;simp;omega
   skip
   have HH1:=lh h1;clear h1;go_enter Tryz.func145,Tryz.ntmps145
   go_wp2_with (first
    |(go_at_call 144;(with_reducible refine (H0.out _).mono ?_);rintro e w1 ⟨rfl,rfl⟩)
    |(go_at_call 144;(with_reducible refine (H2.out _).mono ?_);rintro e w1 ⟨rfl,rfl⟩)
    |(go_at_call 144;(with_reducible refine (H3.out _).mono ?_);rintro e w1 ⟨rfl,rfl⟩))
   go_ret;exact ⟨ya2 yay,rfl⟩
  ·have hz1:(((s).size:Nat):Int)=32:=by have:=of_decide_eq_true h1;omega
   skip
   have HH1:=lh h1;clear h1
   cases h2:rgB ix 0 15
   ·rw [h2] at H2
    skip
    have HH2:=lh h2;clear h2;go_enter Tryz.func145,Tryz.ntmps145
    go_wp2_with (first
     |(go_at_call 144;(with_reducible refine (H0.out _).mono ?_);rintro e w1 ⟨rfl,rfl⟩)
     |(go_at_call 144;(with_reducible refine (H2.out _).mono ?_);rintro e w1 ⟨rfl,rfl⟩)
     |(go_at_call 144;(with_reducible refine (H3.out _).mono ?_);rintro e w1 ⟨rfl,rfl⟩))
    go_ret;exact ⟨ya2 yat,rfl⟩
   ·rw [h2] at H2
    skip
    have HH2:=lh h2;clear h2
    cases h3:rgB sz 1 65536
    ·rw [h3] at H3
     skip
     have HH3:=lh h3;clear h3;go_enter Tryz.func145,Tryz.ntmps145
     go_wp2_with (first
      |(go_at_call 144;(with_reducible refine (H0.out _).mono ?_);rintro e w1 ⟨rfl,rfl⟩)
      |(go_at_call 144;(with_reducible refine (H2.out _).mono ?_);rintro e w1 ⟨rfl,rfl⟩)
      |(go_at_call 144;(with_reducible refine (H3.out _).mono ?_);rintro e w1 ⟨rfl,rfl⟩))
     go_ret;exact ⟨ya2 yaq,rfl⟩
    ·rw [h3] at H3
     skip
     have HH3:=lh h3;clear h3;go_enter Tryz.func145,Tryz.ntmps145
     go_wp2_with (first
      |(go_at_call 144;(with_reducible refine (H0.out _).mono ?_);rintro e w1 ⟨rfl,rfl⟩)
      |(go_at_call 144;(with_reducible refine (H2.out _).mono ?_);rintro e w1 ⟨rfl,rfl⟩)
      |(go_at_call 144;(with_reducible refine (H3.out _).mono ?_);rintro e w1 ⟨rfl,rfl⟩))
     go_ret;exact ⟨ya2 yaq,rfl⟩
theorem good_any (vt:Int) (s:ByteArray) (ix sz:Int) (w:World):Calls Tryz.prog 93 #[.agg #[.int .i64 vt,.string s,.int .i64 ix,.int .i64 sz]] w fun e w'=>e= .returned (.bool (pvB vt s ix sz))∧w.alloc (.cells #[.int .i64 vt,.string s,.int .i64 ix,.int .i64 sz] 158)=w':=by
 have H0:=lh (fun W=>ybw vt 0 11 W);have H2:=lh (fun W=>ybw ix 0 15 W);have H3:=lh (fun W=>ybw sz 1 65536 W);unfold pvB
 cases h0:rgB vt 0 11
 ·rw [h0] at H0
  skip
  have HH0:=lh h0;clear h0;go_enter Tryz.func93,Tryz.ntmps93
  go_wp2_with (first
   |(go_at_call 92;(with_reducible refine (H0.out _).mono ?_);rintro e w1 ⟨rfl,rfl⟩)
   |(go_at_call 92;(with_reducible refine (H2.out _).mono ?_);rintro e w1 ⟨rfl,rfl⟩)
   |(go_at_call 92;(with_reducible refine (H3.out _).mono ?_);rintro e w1 ⟨rfl,rfl⟩))
  go_ret;exact ⟨ya2 yaB,rfl⟩
 ·rw [h0] at H0
  skip
  have HH0:=lh h0;clear h0
  cases h1:decide (s.size=32)
  ·have hz1:((((s).size:Nat):Int)==32)=false:=by have:=of_decide_eq_false h1;simp;omega
   have hz101:((((s).size:Nat):Int) != 32)=true:=by have:=of_decide_eq_false h1;simp;omega
   skip
   have HH1:=lh h1;clear h1;go_enter Tryz.func93,Tryz.ntmps93
   go_wp2_with (first
    |(go_at_call 92;(with_reducible refine (H0.out _).mono ?_);rintro e w1 ⟨rfl,rfl⟩)
    |(go_at_call 92;(with_reducible refine (H2.out _).mono ?_);rintro e w1 ⟨rfl,rfl⟩)
    |(go_at_call 92;(with_reducible refine (H3.out _).mono ?_);rintro e w1 ⟨rfl,rfl⟩))
   go_ret;exact ⟨ya2 yay,rfl⟩
  ·have hz1:(((s).size:Nat):Int)=32:=by have:=of_decide_eq_true h1;omega
   skip
   have HH1:=lh h1;clear h1
   cases h2:rgB ix 0 15
   ·rw [h2] at H2
    skip
    have HH2:=lh h2;clear h2;go_enter Tryz.func93,Tryz.ntmps93
    go_wp2_with (first
     |(go_at_call 92;(with_reducible refine (H0.out _).mono ?_);rintro e w1 ⟨rfl,rfl⟩)
     |(go_at_call 92;(with_reducible refine (H2.out _).mono ?_);rintro e w1 ⟨rfl,rfl⟩)
     |(go_at_call 92;(with_reducible refine (H3.out _).mono ?_);rintro e w1 ⟨rfl,rfl⟩))
    go_ret;exact ⟨ya2 yat,rfl⟩
   ·rw [h2] at H2
    skip
    have HH2:=lh h2;clear h2
    cases h3:rgB sz 1 65536
    ·rw [h3] at H3
     skip
     have HH3:=lh h3;clear h3;go_enter Tryz.func93,Tryz.ntmps93
     go_wp2_with (first
      |(go_at_call 92;(with_reducible refine (H0.out _).mono ?_);rintro e w1 ⟨rfl,rfl⟩)
      |(go_at_call 92;(with_reducible refine (H2.out _).mono ?_);rintro e w1 ⟨rfl,rfl⟩)
      |(go_at_call 92;(with_reducible refine (H3.out _).mono ?_);rintro e w1 ⟨rfl,rfl⟩))
     go_ret;exact ⟨ya2 yaq,rfl⟩
    ·rw [h3] at H3
     skip
     have HH3:=lh h3;clear h3;go_enter Tryz.func93,Tryz.ntmps93
     go_wp2_with (first
      |(go_at_call 92;(with_reducible refine (H0.out _).mono ?_);rintro e w1 ⟨rfl,rfl⟩)
      |(go_at_call 92;(with_reducible refine (H2.out _).mono ?_);rintro e w1 ⟨rfl,rfl⟩)
      |(go_at_call 92;(with_reducible refine (H3.out _).mono ?_);rintro e w1 ⟨rfl,rfl⟩))
     go_ret;exact ⟨ya2 yaq,rfl⟩
