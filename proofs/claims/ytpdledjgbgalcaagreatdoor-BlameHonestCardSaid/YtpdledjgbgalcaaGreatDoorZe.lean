/- Numbers in a slice; Reassign. -/
import Derived.Test.YtpdledjgbgalcaaGreatDoorPb
import Derived.Test.YtpdledjgbgalcaaGreatDoorMa
import Derived.OwnWalk
namespace Go.Proofs.YtpdledjgbgalcaaGreatDoor
set_option maxRecDepth 100000
set_option maxHeartbeats 4000000
open Go.RowKit
set_option linter.unusedVariables false
set_option linter.unusedSimpArgs false
structure Rcp where
 hd:Int
 vt:Int
 s:ByteArray
 ix:Int
 sz:Int
 dy:Int
 sr:Int
 ct:Int
 pl:Int
 rt:ByteArray
 pa:Hd
 si:Int
 pb:Hd
 pc:Hd
def fR (r:Rcp):List Value:=[.int .i64 r.hd,.int .i64 r.vt,.string r.s,.int .i64 r.ix,.int .i64 r.sz,.int .i64 r.dy,.int .i64 r.sr,.int .i64 r.ct,.int .i64 r.pl,.string r.rt,.slice r.pa.a r.pa.n r.pa.c,.int .i64 r.si,.slice r.pb.a r.pb.n r.pb.c,.slice r.pc.a r.pc.n r.pc.c]
theorem fR_len (r:Rcp):(fR r).length=14:=rfl
def fP (p:ByteArray × Int):List Value:=[.string p.1,.int .i64 p.2]
theorem fP_len (p:ByteArray × Int):(fP p).length=2:=rfl
theorem fP_one (p:ByteArray × Int):∀u∈fP p,u.oneCell'=true:=fun u hu=>by
 simp only [fP,List.mem_cons,List.not_mem_nil,or_false] at hu
 rcases hu with rfl |rfl<;>rfl
noncomputable def reaS (dev:List Int) (acc:List (ByteArray × Int)) (r:Rcp):List (ByteArray × Int):=
 if (dev.contains r.hd&& !pinB acc (r.s,r.ix))=true then acc++[(r.s,r.ix)] else acc
noncomputable def rea (dev:List Int) (rs:List Rcp):List (ByteArray × Int):=rs.foldl (reaS dev) []
theorem rea_snoc (dev:List Int) (rs:List Rcp) (r:Rcp):rea dev (rs++[r])=reaS dev (rea dev rs) r:=by simp [rea]
theorem reaS_len (dev:List Int) (acc:List (ByteArray × Int)) (r:Rcp):(reaS dev acc r).length≤acc.length+1:=by
 unfold reaS
 split
 ·simp
 ·omega
theorem rea_take_len (dev:List Int) (rs:List Rcp):∀k,k≤rs.length→(rea dev (rs.take k)).length≤k
 |0,_=>by simp [rea]
 |k+1,h=>by
  obtain ⟨r,hr⟩:=get_ex (xs:=rs) (k:=k) (by omega)
  rw [take_snoc hr,rea_snoc]
  have:=reaS_len dev (rea dev (rs.take k)) r
  have:=rea_take_len dev rs k (by omega)
  omega
def IdxP (h:Int) (xs:List Int) (w:World) (i:Value) (wr:World):Prop:=∃k:Nat,k≤xs.length∧i= .int .i64 k∧Hid (h∉xs.take k)∧w=wr
theorem notin_snoc {h x:Int} {xs:List Int} {k:Nat} (hx:xs[k]? =some x) (h1:h∉xs.take k) (h2:h≠x):h∉xs.take (k+1):=by
 rw [take_snoc hx];simp [h1,h2]
theorem indexI_any (A:Option Addr) (n c B:Nat) (xs:List Int) (h:Int) (w:World) (hx:Sl I w B A n xs) (hl:n≤1000000):
 Calls Tryz.prog 86 #[.slice A n c,.int .i64 h] w fun e w'=>∃z:Int,e= .returned (.int .i64 z)∧(decide (0≤z)=xs.contains h)∧w=w':=by
 have HX:=Lib.hid hx
 have HXN:Hid (xs.length=n):=hx.1
 clear hx
 go_enter Tryz.func86,Tryz.ntmps86
 go_wp2
 go_loopw [8] (fun i wr=>IdxP h xs w i wr) (fun i _=>n - (intOf i).toNat)
 case atStart=>exact ⟨0,by omega,rfl,by show h∉xs.take 0;simp,rfl⟩
 case round=>
  obtain ⟨k,hk,rfl,HN,rfl⟩:=hrel
  rw [HXN.out] at hk
  by_cases hlt:k < n
  ·obtain ⟨b,off,x,rfl,_,hg,hc⟩:=HX.out.2.at_ (k:=k) (by rw [HXN.out];exact hlt)
   have hkI:(k:Int) < (n:Int):=by omega
   by_cases hxe:h=x
   ·subst hxe
    have HIn:Hid (xs.contains h=true):=by
     show _=_
     simp only [List.contains_iff_mem]
     exact List.mem_of_getElem? hg
    clear hg
    go_wp2
    go_ret
    exact ⟨_,rfl,by rw [HIn.out];simp,rfl⟩
   ·have HG:=Lib.hid hg
    have HNE:=Lib.hid hxe
    clear hg
    go_wp2
    refine ⟨?rel,?measure⟩
    case rel=>exact ⟨k+1,by rw [HXN.out];omega,by go_num,notin_snoc HG.out HN.out HNE.out,rfl⟩
    case measure=>simp [intOf];omega
  ·obtain rfl:k=n:=by omega
   go_wp2
   go_ret
   refine ⟨-1,rfl,?_,rfl⟩
   have h1:=HN.out
   rw [List.take_of_length_le (by rw [HXN.out];exact Nat.le_refl _)] at h1
   have h2:xs.contains h=false:=by
    cases hc:xs.contains h
    ·rfl
    ·rw [List.contains_iff_mem] at hc;exact absurd hc h1
   rw [h2];rfl
theorem containsI_any (A:Option Addr) (n c B:Nat) (xs:List Int) (h:Int) (w:World) (hx:Sl I w B A n xs) (hl:n≤1000000):
 Calls Tryz.prog 41 #[.slice A n c,.int .i64 h] w fun e w'=>e= .returned (.bool (xs.contains h))∧w=w':=by
 have HC:=Lib.hid (indexI_any A n c B xs h w hx hl)
 clear hx
 go_enter Tryz.func41,Tryz.ntmps41
 go_wp2_with (first
  |(go_at_call 86;(with_reducible refine HC.out.mono ?_);rintro e w1 ⟨z,rfl,hz,rfl⟩;(have HZ:=Lib.hid hz);clear hz))
 go_ret
 exact ⟨ret_bool HZ.out,rfl⟩
def ReaP (dev:List Int) (rs:List Rcp) (w:World) (v i:Value) (wr:World):Prop:=
 ∃k n:Nat,k≤rs.length∧n≤k∧i= .int .i64 k∧Hid (MapP wr w.heap.size n (rea dev (rs.take k)))∧Hid (OwnN fP 2 31 wr (w.heap.size+1) v (rea dev (rs.take k)))∧Hid (Below w.heap.size w wr)
theorem Tryz.infoP:(Tryz.prog.info? 31).map (fun i=>(i.zero,i.size,i.bytes))=some (some (.agg #[.string ⟨#[]⟩,.int .i64 0]),2,24):=by kernel_rfl
theorem reassign_any (A A':Option Addr) (n c n' c' B:Nat) (rs:List Rcp) (dev:List Int) (w:World) (hx:SlN fR 14 w B A n rs) (hy:Sl I w B A' n' dev) (hB:B≤w.heap.size) (hl:n≤1000) (hl':n'≤1000000) (hok:∀r∈rs,okP r.s r.ix):
 Calls Tryz.prog 36 #[.slice A n c,.slice A' n' c'] w fun e w'=>∃A1 n1 c1,e= .returned (.slice A1 n1 c1)∧SlN fP 2 w' w'.heap.size A1 n1 (rea dev rs)∧Below w.heap.size w w':=by
 obtain ⟨i0,hi,hz0,hz1,hz2⟩:=info_parts Tryz.infoP
 have HI:=Lib.hid hi
 have HZ0:=Lib.hid hz0
 have HZ1:=Lib.hid hz1
 have HZ2:=Lib.hid hz2
 have HX:=Lib.hid hx
 have HXN:Hid (rs.length=n):=hx.1
 have HOK:=Lib.hid hok
 have HB:=Lib.hid hB
 have HY:Hid (∀W h,Below w.heap.size w W→Calls Tryz.prog 41 #[.slice A' n' c',.int .i64 h] W fun e w'=>e= .returned (.bool (dev.contains h))∧W=w'):=fun W h hb=>containsI_any A' n' c' B dev h W (hy.up hb hB) hl'
 clear hi hz0 hz1 hz2 hx hy hok hB
 go_enter Tryz.func36,Tryz.ntmps36
 have hmm:= @run_makeMap Tryz.prog
 go_wp2
 clear hmm
 go_loopw [6,12] (fun v i wr=>ReaP dev rs w v i wr) (fun _ i _=>n - (intOf i).toNat)
 case atStart=>exact ⟨0,0,by omega,by omega,rfl,MapP.made w,OwnN.nil,(Below.refl _ _).alloc (Nat.le_refl _) _⟩
 case round=>
  obtain ⟨k,m,hk,hm,rfl,HM,HO,HBw⟩:=hrel
  rw [HXN.out] at hk
  by_cases hlt:k < n
  ·obtain ⟨b,off,r,rfl,hbB,hr,hat⟩:=(HX.out.up HBw.out HB.out).at_ hlt
   have hkI:(k:Int) < (n:Int):=by omega
   have hx0:wr.cell? ⟨b,off+k*14,none⟩=some (.int .i64 r.hd):=by rw [show off+k*14=off+(k*14+0) by omega];exact hat 0 _ rfl
   have hx1:wr.cell? ⟨b,off+k*14+1,none⟩=some (.int .i64 r.vt):=by rw [show off+k*14+1=off+(k*14+1) by omega];exact hat 1 _ rfl
   have hx2:wr.cell? ⟨b,off+k*14+2,none⟩=some (.string r.s):=by rw [show off+k*14+2=off+(k*14+2) by omega];exact hat 2 _ rfl
   have hx3:wr.cell? ⟨b,off+k*14+3,none⟩=some (.int .i64 r.ix):=by rw [show off+k*14+3=off+(k*14+3) by omega];exact hat 3 _ rfl
   have hx4:wr.cell? ⟨b,off+k*14+4,none⟩=some (.int .i64 r.sz):=by rw [show off+k*14+4=off+(k*14+4) by omega];exact hat 4 _ rfl
   have hx5:wr.cell? ⟨b,off+k*14+5,none⟩=some (.int .i64 r.dy):=by rw [show off+k*14+5=off+(k*14+5) by omega];exact hat 5 _ rfl
   have hx6:wr.cell? ⟨b,off+k*14+6,none⟩=some (.int .i64 r.sr):=by rw [show off+k*14+6=off+(k*14+6) by omega];exact hat 6 _ rfl
   have hx7:wr.cell? ⟨b,off+k*14+7,none⟩=some (.int .i64 r.ct):=by rw [show off+k*14+7=off+(k*14+7) by omega];exact hat 7 _ rfl
   have hx8:wr.cell? ⟨b,off+k*14+8,none⟩=some (.int .i64 r.pl):=by rw [show off+k*14+8=off+(k*14+8) by omega];exact hat 8 _ rfl
   have hx9:wr.cell? ⟨b,off+k*14+9,none⟩=some (.string r.rt):=by rw [show off+k*14+9=off+(k*14+9) by omega];exact hat 9 _ rfl
   have hx10:wr.cell? ⟨b,off+k*14+10,none⟩=some (.slice r.pa.a r.pa.n r.pa.c):=by rw [show off+k*14+10=off+(k*14+10) by omega];exact hat 10 _ rfl
   have hx11:wr.cell? ⟨b,off+k*14+11,none⟩=some (.int .i64 r.si):=by rw [show off+k*14+11=off+(k*14+11) by omega];exact hat 11 _ rfl
   have hx12:wr.cell? ⟨b,off+k*14+12,none⟩=some (.slice r.pb.a r.pb.n r.pb.c):=by rw [show off+k*14+12=off+(k*14+12) by omega];exact hat 12 _ rfl
   have hx13:wr.cell? ⟨b,off+k*14+13,none⟩=some (.slice r.pc.a r.pc.n r.pc.c):=by rw [show off+k*14+13=off+(k*14+13) by omega];exact hat 13 _ rfl
   have HR:=Lib.hid hr
   have hokr:okP r.s r.ix:=HOK.out r (List.mem_of_getElem? hr)
   have HOr:=Lib.hid hokr
   have HSN:Hid (rea dev (rs.take (k+1))=reaS dev (rea dev (rs.take k)) r):=by show _=_;rw [take_snoc hr,rea_snoc]
   have hlen:=rea_take_len dev rs k (by rw [HXN.out];omega)
   obtain ⟨acc,hacc⟩:∃acc,acc=rea dev (rs.take k):=⟨_,rfl⟩
   rw [←hacc] at HM HO HSN hlen
   have HACC:=Lib.hid hacc
   have HKm:Hid (m < maxLen):=by show _ < _;unfold maxLen;omega
   have HL1:Hid ((acc.length+1)*24≤140737488355328):=by show _≤_;omega
   have HL2:Hid (acc.length+1≤maxLen):=by show _≤_;unfold maxLen;omega
   clear hat hr hokr hacc
   go_upto_region 6 with fail
   generalize hW:wr.alloc _=W1
   have HG1:Hid (W1.heap[wr.heap.size]? =some (.cells (fR r).toArray 35 (0,0))):=by show _=_;rw [←hW];exact heap_alloc_new wr _
   have HBa:Hid (Below wr.heap.size wr W1):=by show Below ..;rw [←hW];exact (Below.refl _ _).alloc (Nat.le_refl _) _
   have HB1:Hid (Below w.heap.size w W1):=HBw.out.trans (HBa.out.mono HBw.out.size)
   have HM1:Hid (MapP W1 w.heap.size m acc):=HM.out.block (HBa.out.block _ HM.out.lt)
   have HO1:Hid (OwnN fP 2 31 W1 (w.heap.size+1) u6 acc):=HO.out.on HBa.out
   have HGN:Hid (w.heap.size < wr.heap.size):=HM.out.lt
   have f0:=cell_of_row W1 wr.heap.size 0 _ _ _ HG1.out
   have f2:=cell_of_row W1 wr.heap.size 2 _ _ _ HG1.out
   have f3:=cell_of_row W1 wr.heap.size 3 _ _ _ HG1.out
   simp [fR] at f0 f2 f3
   clear hW hx0 hx1 hx2 hx3 hx4 hx5 hx6 hx7 hx8 hx9 hx10 hx11 hx12 hx13
   have hlook:=HM1.out.look r.s r.ix HOr.out
   unfold pP at hlook
   cases hcb:dev.contains r.hd
   ·have HCB:=Lib.hid hcb
    have HRE:Hid (rea dev (rs.take (k+1))=acc):=by show _=_;rw [HSN.out,reaS,hcb];rfl
    clear hcb hlook
    go_wp2_with (first
     |(go_at_call 41;(with_reducible refine (HY.out _ _ HB1.out).mono ?_);rintro e w1 ⟨rfl,hw1⟩;subst hw1;rw [HCB.out]))
    refine ⟨?rel,?measure⟩
    case rel=>exact ⟨k+1,m,by rw [HXN.out];omega,by omega,by go_num,by show MapP ..;rw [HRE.out];exact HM1.out,by show OwnN ..;rw [HRE.out];exact HO1.out,HB1⟩
    case measure=>simp [intOf];omega
   ·have HCB:=Lib.hid hcb
    cases hpb:pinB acc (r.s,r.ix)
    ·have HRE:Hid (rea dev (rs.take (k+1))=acc++[(r.s,r.ix)]):=by show _=_;rw [HSN.out,reaS,hcb,hpb];rfl
     rw [hpb] at hlook
     obtain ⟨W2,r1,hm2,hg2⟩:=HM1.out.store HKm.out r.s r.ix HOr.out
     unfold pP at r1
     have HM2:=Lib.hid hm2
     have HG2:=Lib.hid hg2
     have HBb:Hid (Below w.heap.size w W2):=HB1.out.trans (grown_below hg2 (fun j hj=>by injection hj with hj;omega) HB1.out.size)
     have HO2:Hid (OwnN fP 2 31 W2 (w.heap.size+1) u6 acc):=HO1.out.kept hg2 (.inr (fun e=>by
      have:=(World.ownsRow.lt HO1.out _ e).1
      omega))
     have HR2:Hid (W2.heap[wr.heap.size]? =some (.cells (fR r).toArray 35 (0,0))):=(hg2.block _ (lt_of_block HG1.out) (fun e=>by injection e with e;have:=HGN.out;omega)).trans HG1.out
     have g2:=cell_of_row W2 wr.heap.size 2 _ _ _ HR2.out
     have g3:=cell_of_row W2 wr.heap.size 3 _ _ _ HR2.out
     simp [fR] at g2 g3
     have HSz:Hid (w.heap.size+1≤W2.heap.size):=hm2.lt
     clear hcb hpb hm2 hg2
     go_upto_region 9 with (first
      |(go_at_call 41;(with_reducible refine (HY.out _ _ HB1.out).mono ?_);rintro e w1 ⟨rfl,hw1⟩;subst hw1;rw [HCB.out])
      |(at_builtin;(refine wpList_appN1 fP_len (by omega) (o:=⟨some 34,_,_,_,_,_⟩) rfl (.tmp 30) (.tmp 33) 87 rfl 31 i0 _ 24 Tryz.underlying87 HI.out HZ0.out HZ1.out HZ2.out (by rfl) _ acc (w.heap.size+1) (by rfl) HO2.out (r.s,r.ix) 1 (by rfl) fP_one HL1.out HL2.out HSz.out ?_);intro v3 w3 HO3 HG3 HV3))
     clear hlook r1
     go_wp2
     refine ⟨?rel,?measure⟩
     case rel=>
      have hne:some w.heap.size≠u6.ownBlock:=fun e=>by
       have:=(World.ownsRow.lt HO2.out _ e.symm).1
       omega
      exact ⟨k+1,m+1,by rw [HXN.out];omega,by omega,by go_num,by show MapP ..;rw [HRE.out];exact HM2.out.kept HG3.out hne,by show OwnN ..;rw [HRE.out];exact HO3.out,HBb.out.trans (grown_below HG3.out (fun j hj=>Nat.le_trans (Nat.le_succ _) (World.ownsRow.lt HO2.out j hj).1) HBb.out.size)⟩
     case measure=>simp [intOf];omega
    ·have HRE:Hid (rea dev (rs.take (k+1))=acc):=by show _=_;rw [HSN.out,reaS,hcb,hpb];rfl
     rw [hpb] at hlook
     clear hcb hpb
     go_wp2_with (first
      |(go_at_call 41;(with_reducible refine (HY.out _ _ HB1.out).mono ?_);rintro e w1 ⟨rfl,hw1⟩;subst hw1;rw [HCB.out]))
     refine ⟨?rel,?measure⟩
     case rel=>exact ⟨k+1,m,by rw [HXN.out];omega,by omega,by go_num,by show MapP ..;rw [HRE.out];exact HM1.out,by show OwnN ..;rw [HRE.out];exact HO1.out,HB1⟩
     case measure=>simp [intOf];omega
  ·obtain rfl:k=n:=by omega
   go_wp2
   go_ret
   obtain ⟨A1,c1,hv,_,hs,_⟩:=HO.out.shape fP_len
   rw [List.take_of_length_le (by rw [HXN.out];exact Nat.le_refl _)] at hv hs
   exact ⟨A1,_,c1,by rw [←hv];rfl,hs,HBw.out⟩
