import Derived.Test.YtpdledjgbgalcaaGreatDoorPh
import Derived.Test.YtpdledjgbgalcaaGreatDoorN3
namespace Go.Proofs.YtpdledjgbgalcaaGreatDoor
set_option maxRecDepth 100000
set_option maxHeartbeats 16000000
open Go.RowKit Go.Proofs.Tryz
set_option linter.unusedVariables false
set_option linter.unusedSimpArgs false
structure Rcp where
 hd:Int
 vt:Int
 s:ByteArray
 ix:Int
 sz:Int
 dy:Int
 sr:Int
 ct:Int
 pl:Int
 rt:ByteArray
 pa:Hd
 si:Int
 pb:Hd
 pc:Hd
def fR (r:Rcp):List Value:=[.int .i64 r.hd,.int .i64 r.vt,.string r.s,.int .i64 r.ix,.int .i64 r.sz,.int .i64 r.dy,.int .i64 r.sr,.int .i64 r.ct,.int .i64 r.pl,.string r.rt,.slice r.pa.a r.pa.n r.pa.c,.int .i64 r.si,.slice r.pb.a r.pb.n r.pb.c,.slice r.pc.a r.pc.n r.pc.c]
theorem fR_len (r:Rcp):(fR r).length=14:=rfl
def fP (p:ByteArray × Int):List Value:=[.string p.1,.int .i64 p.2]
theorem fP_len (p:ByteArray × Int):(fP p).length=2:=rfl
theorem fP_one (p:ByteArray × Int):∀u∈fP p,u.oneCell'=true:=fun u hu=>by
 simp only [fP,List.mem_cons,List.not_mem_nil,or_false] at hu;rcases hu with rfl |rfl<;>rfl
noncomputable def reaS (dev:List Int) (acc:List (ByteArray × Int)) (r:Rcp):List (ByteArray × Int):=
 if (dev.contains r.hd&& !pinB acc (r.s,r.ix))=true then acc++[(r.s,r.ix)] else acc
noncomputable def rea (dev:List Int) (rs:List Rcp):List (ByteArray × Int):=rs.foldl (reaS dev) []
theorem rea_snoc (dev:List Int) (rs:List Rcp) (r:Rcp):rea dev (rs++[r])=reaS dev (rea dev rs) r:=by simp [rea]
theorem reaS_len (dev:List Int) (acc:List (ByteArray × Int)) (r:Rcp):(reaS dev acc r).length<=acc.length+1:=by
 unfold reaS
 split
 ·simp
 ·omega
theorem ydT (G:List Int) (rs:List Rcp):∀k,k<=rs.length->(rea G (rs.take k)).length<=k
 |0,_=>by simp [rea]
 |k+1,h=>by
  obtain ⟨r,hr⟩:=ybM (xs:=rs) (k:=k) om;rw [ybq hr,rea_snoc];have:=reaS_len G (rea G (rs.take k)) r;have:=ydT G rs k om;omega
def IdxP (h:Int) (xs:List Int) (w:World) (i:Value) (wr:World):Prop:=∃k:Nat,k<=xs.length/\i= .int .i64 k/\Hid (h∉xs.take k)/\w=wr
theorem ydF {h x:Int} {xs:List Int} {k:Nat} (hx:xs[k]? =some x) (h1:h∉xs.take k) (h2:h≠x):h∉xs.take (k+1):=by
 rw [ybq hx];simp [h1,h2]
theorem indexI_any (A:Option Addr) (n c B:Nat) (xs:List Int) (h:Int) (w:World) (J:Sl I w B A n xs) (hl:n<=1000000):
 Calls prog 86 #[.slice A n c,.int .i64 h] w fun e T=>∃z:Int,e= .returned (.int .i64 z)/\(decide (0<=z)=xs.contains h)/\w=T:=by
 have O:=lh J;have HXN:Hid (xs.length=n):=J.1;clear J;go_enter func86,ntmps86;go_wp2
 go_loopw [8] (fun i wr=>IdxP h xs w i wr) (fun i _=>n - (intOf i).toNat)
 case atStart=>exact ⟨0,by omega,rfl,by show h∉xs.take 0;simp,rfl⟩
 case round=>
  obtain ⟨k,W,rfl,M,rfl⟩:=hrel;rw [HXN.out] at W
  by_cases hlt:k < n
  ·obtain ⟨b,Z,x,rfl,_,G,K⟩:=O.out.2.at_ (k:=k) ya3;have Y:(k:Int) < (n:Int):=by omega
   by_cases H:h=x
   ·subst H
    have L:Hid (xs.contains h=true):=by
     show _=_;simp only [List.contains_iff_mem];exact List.mem_of_getElem? G
    clear G;go_wp2;go_ret;exact ⟨_,rfl,by rw [L.out];simp,rfl⟩
   ·have U:=lh G;have N:=lh H;clear G;go_wp2;refine ⟨?rel,?measure⟩;case rel=>exact ⟨k+1,by rw [HXN.out];omega,by go_num,ydF U.out M.out N.out,rfl⟩
    case measure=>simp [intOf];omega
  ·obtain rfl:k=n:=by omega
   go_wp2;go_ret;refine ⟨-1,rfl,?_,rfl⟩;have h1:=M.out;rw [List.take_of_length_le yaX] at h1
   have h2:xs.contains h=false:=by
    cases K:xs.contains h
    ·rfl
    ·rw [List.contains_iff_mem] at K;exact absurd K h1
   rw [h2];rfl
theorem containsI_any (A:Option Addr) (n c B:Nat) (xs:List Int) (h:Int) (w:World) (H:Sl I w B A n xs) (hl:n<=1000000):
 Calls prog 41 #[.slice A n c,.int .i64 h] w fun e K=>e= .returned (.bool (xs.contains h))/\w=K:=by
 have HC:=lh (indexI_any A n c B xs h w H hl);clear H;go_enter func41,ntmps41
 go_wp2_with (first
  |(go_at_call 86;(with_reducible refine HC.out.mono ?_);rintro e w1 ⟨z,rfl,G,rfl⟩;(have J:=lh G);clear G))
 go_ret;exact ⟨ybg J.out,rfl⟩
def ReaP (dev:List Int) (rs:List Rcp) (w:World) (v i:Value) (wr:World):Prop:=
 ∃k n:Nat,k<=rs.length/\n<=k/\i= .int .i64 k/\Hid (MapP wr w.heap.size n (rea dev (rs.take k)))/\Hid (OwnN fP 2 31 wr (w.heap.size+1) v (rea dev (rs.take k)))/\Hid (Below w.heap.size w wr)
theorem Tryz.infoP:(prog.info? 31).map (fun i=>(i.zero,i.size,i.bytes))=some (some (.agg #[.string ⟨#[]⟩,.int .i64 0]),2,24):=by kernel_rfl
theorem reassign_any (A A':Option Addr) (n c n' c' B:Nat) (rs:List Rcp) (J:List Int) (w:World) (hx:SlN fR 14 w B A n rs) (hy:Sl I w B A' n' J) (hB:B<=w.heap.size) (hl:n<=1000) (aE:n'<=1000000) (ao:∀r∈rs,okP r.s r.ix):
 Calls prog 36 #[.slice A n c,.slice A' n' c'] w fun e w'=>∃A1 n1 c1,e= .returned (.slice A1 n1 c1)/\SlN fP 2 w' w'.heap.size A1 n1 (rea J rs)/\Below w.heap.size w w':=by
 obtain ⟨i0,hi,au,aq,ar⟩:=info_parts Tryz.infoP;have HI:=lh hi;have aI:=lh au;have aK:=lh aq;have aL:=lh ar;have HX:=lh hx;have HXN:Hid (rs.length=n):=hx.1;have aB:=lh ao;have HB:=lh hB;have HY:Hid (∀W h,Below w.heap.size w W->Calls prog 41 #[.slice A' n' c',.int .i64 h] W fun e w'=>e= .returned (.bool (J.contains h))/\W=w'):=fun W h hb=>containsI_any A' n' c' B J h W (hy.up hb hB) aE;clear hi au aq ar hx hy ao hB;go_enter func36,ntmps36;have aS:= @run_makeMap prog;go_wp2;clear aS
 go_loopw [6,12] (fun v i wr=>ReaP J rs w v i wr) (fun _ i _=>n - (intOf i).toNat)
 case atStart=>exact ⟨0,0,by omega,by omega,rfl,MapP.made w,OwnN.nil,bl⟩
 case round=>
  obtain ⟨k,m,hk,hm,rfl,HM,HO,ah⟩:=hrel;rw [HXN.out] at hk
  by_cases hlt:k < n
  ·obtain ⟨b,G,r,rfl,a2,hr,H⟩:=(HX.out.up ah.out HB.out).at_ hlt;have a1:(k:Int) < (n:Int):=by omega
   have aR:wr.cell? ⟨b,G+k*14,none⟩=some (.int .i64 r.hd):=by rw [show G+k*14=G+(k*14+0) by omega];exact H 0 _ rfl
   have aU:wr.cell? ⟨b,G+k*14+1,none⟩=some (.int .i64 r.vt):=by rw [show G+k*14+1=G+(k*14+1) by omega];exact H 1 _ rfl
   have aW:wr.cell? ⟨b,G+k*14+2,none⟩=some (.string r.s):=by rw [show G+k*14+2=G+(k*14+2) by omega];exact H 2 _ rfl
   have aV:wr.cell? ⟨b,G+k*14+3,none⟩=some (.int .i64 r.ix):=by rw [show G+k*14+3=G+(k*14+3) by omega];exact H 3 _ rfl
   have aP:wr.cell? ⟨b,G+k*14+4,none⟩=some (.int .i64 r.sz):=by rw [show G+k*14+4=G+(k*14+4) by omega];exact H 4 _ rfl
   have aD:wr.cell? ⟨b,G+k*14+5,none⟩=some (.int .i64 r.dy):=by rw [show G+k*14+5=G+(k*14+5) by omega];exact H 5 _ rfl
   have aG:wr.cell? ⟨b,G+k*14+6,none⟩=some (.int .i64 r.sr):=by rw [show G+k*14+6=G+(k*14+6) by omega];exact H 6 _ rfl
   have aF:wr.cell? ⟨b,G+k*14+7,none⟩=some (.int .i64 r.ct):=by rw [show G+k*14+7=G+(k*14+7) by omega];exact H 7 _ rfl
   have aJ:wr.cell? ⟨b,G+k*14+8,none⟩=some (.int .i64 r.pl):=by rw [show G+k*14+8=G+(k*14+8) by omega];exact H 8 _ rfl
   have aH:wr.cell? ⟨b,G+k*14+9,none⟩=some (.string r.rt):=by rw [show G+k*14+9=G+(k*14+9) by omega];exact H 9 _ rfl
   have ay:wr.cell? ⟨b,G+k*14+10,none⟩=some (.slice r.pa.a r.pa.n r.pa.c):=by rw [show G+k*14+10=G+(k*14+10) by omega];exact H 10 _ rfl
   have aA:wr.cell? ⟨b,G+k*14+11,none⟩=some (.int .i64 r.si):=by rw [show G+k*14+11=G+(k*14+11) by omega];exact H 11 _ rfl
   have ax:wr.cell? ⟨b,G+k*14+12,none⟩=some (.slice r.pb.a r.pb.n r.pb.c):=by rw [show G+k*14+12=G+(k*14+12) by omega];exact H 12 _ rfl
   have aw:wr.cell? ⟨b,G+k*14+13,none⟩=some (.slice r.pc.a r.pc.n r.pc.c):=by rw [show G+k*14+13=G+(k*14+13) by omega];exact H 13 _ rfl
   have HR:=lh hr;have ai:okP r.s r.ix:=aB.out r (List.mem_of_getElem? hr);have am:=lh ai;have aa:Hid (rea J (rs.take (k+1))=reaS J (rea J (rs.take k)) r):=by show _=_;rw [ybq hr,rea_snoc]
   have az:=ydT J rs k (by rw [HXN.out];omega);obtain ⟨K,Z⟩:∃K,K=rea J (rs.take k):=⟨_,rfl⟩
   rw [<-Z] at HM HO aa az;have aZ:=lh Z;have aT:Hid (m < maxLen):=by show _ < _;unfold maxLen;omega
   have aM:Hid ((K.length+1)*24<=140737488355328):=by show _<=_;omega
   have aQ:Hid (K.length+1<=maxLen):=by show _<=_;unfold maxLen;omega
   clear H hr ai Z;go_upto_region 6 with fail
   generalize hW:wr.alloc _=W1;have U:Hid (W1.heap[wr.heap.size]? =some (.cells (fR r).toArray 35 (0,0))):=by show _=_;rw [<-hW];exact zy wr _
   have ag:Hid (Below wr.heap.size wr W1):=by show Below ..;rw [<-hW];exact bl
   have HB1:Hid (Below w.heap.size w W1):=bt ah.out ag.out;have ac:Hid (MapP W1 w.heap.size m K):=HM.out.block (ag.out.block _ HM.out.lt);have z:Hid (OwnN fP 2 31 W1 (w.heap.size+1) u6 K):=HO.out.on ag.out;have aO:Hid (w.heap.size < wr.heap.size):=HM.out.lt;have f0:=zz W1 wr.heap.size 0 _ _ _ U.out;have f2:=zz W1 wr.heap.size 2 _ _ _ U.out;have f3:=zz W1 wr.heap.size 3 _ _ _ U.out;simp [fR] at f0 f2 f3;clear hW aR aU aW aV aP aD aG aF aJ aH ay aA ax aw;have L:=ac.out.look r.s r.ix am.out;unfold pP at L
   cases M:J.contains r.hd
   ·have ae:=lh M;have N:Hid (rea J (rs.take (k+1))=K):=by show _=_;rw [aa.out,reaS,M];rfl
    clear M L
    go_wp2_with (first
     |(go_at_call 41;(with_reducible refine (HY.out _ _ HB1.out).mono ?_);rintro e w1 ⟨rfl,Y⟩;subst Y;rw [ae.out]))
    refine ⟨?rel,?measure⟩;case rel=>exact ⟨k+1,m,by rw [HXN.out];omega,by omega,by go_num,by show MapP ..;rw [N.out];exact ac.out,by show OwnN ..;rw [N.out];exact z.out,HB1⟩
    case measure=>simp [intOf];omega
   ·have ae:=lh M
    cases O:pinB K (r.s,r.ix)
    ·have N:Hid (rea J (rs.take (k+1))=K++[(r.s,r.ix)]):=by show _=_;rw [aa.out,reaS,M,O];rfl
     rw [O] at L;obtain ⟨W2,r1,af,T⟩:=ac.out.store aT.out r.s r.ix am.out;unfold pP at r1;have aY:=lh af;have a3:=lh T;have ap:Hid (Below w.heap.size w W2):=HB1.out.trans (ybe T (fun j hj=>by injection hj with hj;omega) HB1.out.size)
     have aj:Hid (OwnN fP 2 31 W2 (w.heap.size+1) u6 K):=z.out.kept T (.inr (fun e=>by
      have:=(ol z.out _ e).1
      omega))
     have ak:Hid (W2.heap[wr.heap.size]? =some (.cells (fR r).toArray 35 (0,0))):=(T.block _ (lb U.out) (fun e=>by injection e with e;have:=aO.out;omega)).trans U.out;have g2:=zz W2 wr.heap.size 2 _ _ _ ak.out;have g3:=zz W2 wr.heap.size 3 _ _ _ ak.out;simp [fR] at g2 g3;have aC:Hid (w.heap.size+1<=W2.heap.size):=af.lt;clear M O af T
     go_upto_region 9 with (first
      |(go_at_call 41;(with_reducible refine (HY.out _ _ HB1.out).mono ?_);rintro e w1 ⟨rfl,Y⟩;subst Y;rw [ae.out])
      |(at_builtin;(refine ycb fP_len om (o:=⟨some 34,_,_,_,_,_⟩) rfl (.tmp 30) (.tmp 33) 87 rfl 31 i0 _ 24 underlying87 HI.out aI.out aK.out aL.out (by rfl) _ K (w.heap.size+1) (by rfl) aj.out (r.s,r.ix) 1 (by rfl) fP_one aM.out aQ.out aC.out ?_);intro v3 w3 aX HG3 a0))
     clear L r1;go_wp2;refine ⟨?rel,?measure⟩
     case rel=>
      have aN:some w.heap.size≠u6.ownBlock:=fun e=>by
       have:=(ol aj.out _ e.symm).1;omega
      exact ⟨k+1,m+1,by rw [HXN.out];omega,by omega,by go_num,by show MapP ..;rw [N.out];exact aY.out.kept HG3.out aN,by show OwnN ..;rw [N.out];exact aX.out,ap.out.trans (ybe HG3.out (fun j hj=>lT (Nat.le_succ _) (ol aj.out j hj).1) ap.out.size)⟩
     case measure=>simp [intOf];omega
    ·have N:Hid (rea J (rs.take (k+1))=K):=by show _=_;rw [aa.out,reaS,M,O];rfl
     rw [O] at L;clear M O
     go_wp2_with (first
      |(go_at_call 41;(with_reducible refine (HY.out _ _ HB1.out).mono ?_);rintro e w1 ⟨rfl,Y⟩;subst Y;rw [ae.out]))
     refine ⟨?rel,?measure⟩;case rel=>exact ⟨k+1,m,by rw [HXN.out];omega,by omega,by go_num,by show MapP ..;rw [N.out];exact ac.out,by show OwnN ..;rw [N.out];exact z.out,HB1⟩
     case measure=>simp [intOf];omega
  ·obtain rfl:k=n:=by omega
   go_wp2;go_ret;obtain ⟨A1,c1,hv,_,hs,_⟩:=HO.out.shape fP_len;rw [List.take_of_length_le yaX] at hv hs;exact ⟨A1,_,c1,by rw [<-hv];rfl,hs,ah.out⟩
open Go.RowKit Go.Lib
def rgB (x a b:Int):Bool:=decide (a<=x/\x<=b)
def arB (ys:List ByteArray) (m:Nat):Bool:=decide (ys.length<=m)&&sumsB ys
def pvB (vt:Int) (s:ByteArray) (ix sz:Int):Bool:=rgB vt 0 11&&(decide (s.size=32)&&(rgB ix 0 15&&rgB sz 1 65536))
def vaB (r:Rcp) (ps qs rs:List ByteArray):Bool:=rgB r.hd 0 11&&(pvB r.vt r.s r.ix r.sz&&(rgB r.dy 0 999999&&(rgB r.sr 0 1099511627776&&(rgB r.ct 1 256&&(rgB r.pl 0 (r.ct - 1)&&(decide (r.rt.size=32)&&(arB ps 8&&(arB rs 8&&(arB qs 300&&rgB r.si 0 255)))))))))
def RcIn (w:World) (B:Nat) (r:Rcp) (ps qs rs:List ByteArray):Prop:=Sl fT w B r.pa.a r.pa.n ps/\Sl fT w B r.pb.a r.pb.n qs/\Sl fT w B r.pc.a r.pc.n rs
theorem RcIn.up {w w':World} {B B':Nat} {r:Rcp} {ps qs rs:List ByteArray} (h:RcIn w B r ps qs rs) (hb:Below B' w w') (hB:B<=B'):RcIn w' B r ps qs rs:=⟨h.1.up hb hB,h.2.1.up hb hB,h.2.2.up hb hB⟩
theorem RcIn.more {w:World} {B B':Nat} {r:Rcp} {ps qs rs:List ByteArray} (h:RcIn w B r ps qs rs) (hB:B<=B'):RcIn w B' r ps qs rs:=⟨h.1.more' hB,h.2.1.more' hB,h.2.2.more' hB⟩
theorem size32 (s:ByteArray) (h:decide (s.size=32)=false):(((s.size:Nat):Int)==32)=false:=by have:=of_decide_eq_false h;simp;omega
theorem ydG (s:ByteArray) (h:decide (s.size=32)=false):(((s.size:Nat):Int) != 32)=true:=by have:=of_decide_eq_false h;simp;omega
def tkB (s:ByteArray) (ix:Int) (no an:ByteArray):Bool:=idB s ix&&(decide (no.size=32)&&decide (an.size=32))
theorem ybK (x a b:Int) (w:World):Calls prog 144 #[.int .i64 x,.int .i64 a,.int .i64 b] w fun e G=>e= .returned (.bool (rgB x a b))/\w=G:=by
 by_cases h1:a<=x
 ·by_cases h2:x<=b
  ·skip
   go_enter func144,ntmps144;go_wp2;go_ret;exact ⟨ybg yaK,rfl⟩
  ·skip
   go_enter func144,ntmps144;go_wp2;go_ret;exact ⟨ybg yaK,rfl⟩
 ·skip
  go_enter func144,ntmps144;go_wp2;go_ret;exact ⟨ybg yaK,rfl⟩
theorem ybL (x a b:Int) (w:World):Calls prog 92 #[.int .i64 x,.int .i64 a,.int .i64 b] w fun e G=>e= .returned (.bool (rgB x a b))/\w=G:=by
 by_cases h1:a<=x
 ·by_cases h2:x<=b
  ·skip
   go_enter func92,ntmps92;go_wp2;go_ret;exact ⟨ybg yaK,rfl⟩
  ·skip
   go_enter func92,ntmps92;go_wp2;go_ret;exact ⟨ybg yaK,rfl⟩
 ·skip
  go_enter func92,ntmps92;go_wp2;go_ret;exact ⟨ybg yaK,rfl⟩
theorem areSums1_any (s:ByteArray) (w:World):Calls prog 197 #[.string s] w fun e H=>e= .returned (.bool (!decide (s.size=32)))/\w=H:=by
 by_cases hs:s.size=32
 ·have G:(((s.size:Nat):Int) != 32)=false:=by simp;omega
  rw [decide_eq_true hs];clear hs;go_enter func197,ntmps197;go_wp2;go_ret;exact ⟨rfl,rfl⟩
 ·have G:(((s.size:Nat):Int) != 32)=true:=by simp;omega
  rw [decide_eq_false hs];clear hs;go_enter func197,ntmps197;go_wp2;go_ret;exact ⟨rfl,rfl⟩
theorem indexF_are (A:Option Addr) (n c B:Nat) (ys:List ByteArray) (w:World) (J:Sl fT w B A n ys) (hn:n<=1000000) (hf:∀s,Calls prog 197 #[.string s] w fun e K=>e= .returned (.bool (!decide (s.size=32)))/\w=K):
 Calls prog 165 #[.slice A n c,.func (.func 197) #[] #[]] w fun e K=>∃z:Int,e= .returned (.int .i64 z)/\decide (0<=z)= !sumsB ys/\w=K:=by
 have N:=lh J;have HXN:Hid (ys.length=n):=J.1;have HC:=lh hf;clear J hf;go_enter func165,ntmps165;go_wp2
 go_loopw [8] (fun i wr=>∃k:Nat,k<=n/\i= .int .i64 k/\Hid (∀s∈ys.take k,s.size=32)/\w=wr) (fun i _=>n - (intOf i).toNat)
 case atStart=>exact ⟨0,by omega,rfl,fun s h=>by simp at h,rfl⟩
 case round=>
  obtain ⟨k,Y,rfl,L,rfl⟩:=hrel
  by_cases hlt:k < n
  ·obtain ⟨b,U,x,rfl,_,H,W⟩:=N.out.2.at_ (k:=k) ya3;have T:(k:Int) < (n:Int):=by omega
   have G:=lh (HC.out x)
   by_cases hs:x.size=32
   ·have O:Hid (∀s∈ys.take (k+1),s.size=32):=fun s h=>by
     rw [ybq H,List.mem_append,List.mem_singleton] at h;rcases h with h |rfl
     ·exact L.out s h
     ·exact hs
    have hd:decide (x.size=32)=true:=decide_eq_true hs;rw [hd] at G;clear hs hd H
    go_wp2_with (first
     |(go_at_call 197;(with_reducible refine G.out.mono ?_);rintro e w1 ⟨rfl,rfl⟩))
    refine ⟨?rel,?measure⟩;case rel=>exact ⟨k+1,by omega,by go_num,O,by trivial⟩
    case measure=>simp [intOf];omega
   ·have M:Hid (sumsB ys=false):=ycr (List.mem_of_getElem? H) hs;have hd:decide (x.size=32)=false:=decide_eq_false hs;rw [hd] at G;clear hs hd H
    go_wp2_with (first
     |(go_at_call 197;(with_reducible refine G.out.mono ?_);rintro e w1 ⟨rfl,rfl⟩))
    go_ret;exact ⟨_,rfl,by rw [M.out];simp,rfl⟩
  ·obtain rfl:k=n:=by omega
   go_wp2;go_ret;have h1:=L.out;rw [List.take_of_length_le yaX] at h1;exact ⟨-1,rfl,by rw [ycc.2 h1];rfl,rfl⟩
theorem containsF_are (A:Option Addr) (n c B:Nat) (ys:List ByteArray) (w:World) (J:Sl fT w B A n ys) (hn:n<=1000000) (hf:∀s,Calls prog 197 #[.string s] w fun e G=>e= .returned (.bool (!decide (s.size=32)))/\w=G):
 Calls prog 99 #[.slice A n c,.func (.func 197) #[] #[]] w fun e G=>e= .returned (.bool (!sumsB ys))/\w=G:=by
 have HC:=lh (indexF_are A n c B ys w J hn hf);clear J hf;go_enter func99,ntmps99
 go_wp2_with (first
  |(go_at_call 165;(with_reducible refine HC.out.mono ?_);rintro e w1 ⟨z,rfl,H,rfl⟩;(have K:=lh H);clear H))
 go_ret;exact ⟨ybg K.out,rfl⟩
theorem ydb (A:Option Addr) (n c B m:Nat) (ys:List ByteArray) (w:World) (G:Sl fT w B A n ys) (M:m<=1000):Calls prog 146 #[.slice A n c,.int .i64 m] w fun e H=>e= .returned (.bool (arB ys m))/\w=H:=by
 have J:Hid (ys.length=n):=G.1;have HC:Hid (n<=m->Calls prog 99 #[.slice A n c,.func (.func 197) #[] #[]] w fun e H=>e= .returned (.bool (!sumsB ys))/\w=H):=fun h=>containsF_are A n c B ys w G om (fun s=>areSums1_any s w);clear G;unfold arB;rw [J.out]
 by_cases h:n<=m
 ·have K:=lh (HC.out h);have L:(n:Int)<=(m:Int):=by omega
  rw [decide_eq_true h];clear h HC;go_enter func146,ntmps146
  go_wp2_with (first
   |(go_at_call 99;(with_reducible refine K.out.mono ?_);rintro e w1 ⟨rfl,rfl⟩))
  go_ret;exact ⟨ybg sI,rfl⟩
 ·have L:¬(n:Int)<=(m:Int):=by omega
  rw [decide_eq_false h];clear h HC;go_enter func146,ntmps146;go_wp2;go_ret;exact ⟨rfl,rfl⟩
theorem ydH (A:Option Addr) (n c B m:Nat) (ys:List ByteArray) (w:World) (J:Sl fT w B A n ys) (hn:n<=1000000):Calls prog 94 #[.slice A n c,.int .i64 m] w fun e N=>e= .returned (.bool (arB ys m))/\w=N:=by
 have M:=lh J;have HXN:Hid (ys.length=n):=J.1;clear J;unfold arB;rw [HXN.out];go_enter func94,ntmps94;go_wp2
 go_loopw [5] (fun i wr=>∃k:Nat,k<=n/\i= .int .i64 k/\Hid (∀s∈ys.take k,s.size=32)/\w=wr) (fun i _=>n - (intOf i).toNat)
 case atStart=>exact ⟨0,by omega,rfl,fun s h=>by simp at h,rfl⟩
 case round=>
  obtain ⟨k,Z,rfl,L,rfl⟩:=hrel
  by_cases hlt:k < n
  ·obtain ⟨b,U,x,rfl,_,H,Y⟩:=M.out.2.at_ (k:=k) ya3;have T:(k:Int) < (n:Int):=by omega
   by_cases hs:x.size=32
   ·have O:Hid (∀s∈ys.take (k+1),s.size=32):=fun s h=>by
     rw [ybq H,List.mem_append,List.mem_singleton] at h;rcases h with h |rfl
     ·exact L.out s h
     ·exact hs
    have hd:(((x.size:Nat):Int) != 32)=false:=by simp;omega
    clear hs H;go_wp2;refine ⟨?rel,?measure⟩;case rel=>exact ⟨k+1,by omega,by go_num,O,by trivial⟩
    case measure=>simp [intOf];omega
   ·have G:Hid (sumsB ys=false):=ycr (List.mem_of_getElem? H) hs;have hd:(((x.size:Nat):Int) != 32)=true:=by simp;omega
    clear hs H;go_wp2;go_ret;exact ⟨ybg (by rw [G.out];simp),rfl⟩
  ·obtain rfl:k=n:=by omega
   have G:Hid (sumsB ys=true):=ycc.2 (by
    have h1:=L.out
    rwa [List.take_of_length_le yaX] at h1)
   by_cases W:k<=m
   ·have K:(k:Int)<=(m:Int):=by omega
    go_wp2;go_ret;exact ⟨by first |rfl |exact ybg (by rw [G.out];simp;omega),rfl⟩
   ·have K:¬(k:Int)<=(m:Int):=by omega
    go_wp2;go_ret;exact ⟨by first |rfl |exact ybg (by rw [G.out];simp;omega),rfl⟩
theorem pvalid_any (vt:Int) (s:ByteArray) (ix sz:Int) (w:World):Calls prog 145 #[.agg #[.int .i64 vt,.string s,.int .i64 ix,.int .i64 sz]] w fun e L=>e= .returned (.bool (pvB vt s ix sz))/\w.alloc (.cells #[.int .i64 vt,.string s,.int .i64 ix,.int .i64 sz] 223)=L:=by
 have G:=lh (fun W=>ybK vt 0 11 W);have H:=lh (fun W=>ybK ix 0 15 W);have J:=lh (fun W=>ybK sz 1 65536 W);unfold pvB
 revert G H J
 cases rgB vt 0 11
 rotate_left
 cases h1:decide (s.size=32)
 rotate_left
 cases rgB ix 0 15
 rotate_left
 cases rgB sz 1 65536
 rotate_left
 all_goals
  intro G H J
  try (have K:(((s).size:Nat):Int)=32:=(by have:=of_decide_eq_true h1;omega))
  try (have K:=size32 s h1)
  try (have M:=ydG s h1)
  try clear h1
  go_enter func145,ntmps145
  go_wp2_with (first
   |(go_at_call 144;(with_reducible refine (G.out _).mono ?_);rintro e w1 ⟨rfl,rfl⟩)
   |(go_at_call 144;(with_reducible refine (H.out _).mono ?_);rintro e w1 ⟨rfl,rfl⟩)
   |(go_at_call 144;(with_reducible refine (J.out _).mono ?_);rintro e w1 ⟨rfl,rfl⟩))
  go_ret;exact ⟨ybg yaJ,rfl⟩
theorem good_any (vt:Int) (s:ByteArray) (ix sz:Int) (w:World):Calls prog 93 #[.agg #[.int .i64 vt,.string s,.int .i64 ix,.int .i64 sz]] w fun e L=>e= .returned (.bool (pvB vt s ix sz))/\w.alloc (.cells #[.int .i64 vt,.string s,.int .i64 ix,.int .i64 sz] 158)=L:=by
 have G:=lh (fun W=>ybL vt 0 11 W);have H:=lh (fun W=>ybL ix 0 15 W);have J:=lh (fun W=>ybL sz 1 65536 W);unfold pvB
 revert G H J
 cases rgB vt 0 11
 rotate_left
 cases h1:decide (s.size=32)
 rotate_left
 cases rgB ix 0 15
 rotate_left
 cases rgB sz 1 65536
 rotate_left
 all_goals
  intro G H J
  try (have K:(((s).size:Nat):Int)=32:=(by have:=of_decide_eq_true h1;omega))
  try (have K:=size32 s h1)
  try (have M:=ydG s h1)
  try clear h1
  go_enter func93,ntmps93
  go_wp2_with (first
   |(go_at_call 92;(with_reducible refine (G.out _).mono ?_);rintro e w1 ⟨rfl,rfl⟩)
   |(go_at_call 92;(with_reducible refine (H.out _).mono ?_);rintro e w1 ⟨rfl,rfl⟩)
   |(go_at_call 92;(with_reducible refine (J.out _).mono ?_);rintro e w1 ⟨rfl,rfl⟩))
  go_ret;exact ⟨ybg yaJ,rfl⟩
theorem valid_any (r:Rcp) (ps qs rs:List ByteArray) (B:Nat) (w:World) (hx:RcIn w B r ps qs rs) (hB:B<=w.heap.size):Calls prog 87 #[.agg #[.int .i64 r.hd,.int .i64 r.vt,.string r.s,.int .i64 r.ix,.int .i64 r.sz,.int .i64 r.dy,.int .i64 r.sr,.int .i64 r.ct,.int .i64 r.pl,.string r.rt,.slice r.pa.a r.pa.n r.pa.c,.int .i64 r.si,.slice r.pb.a r.pb.n r.pb.c,.slice r.pc.a r.pc.n r.pc.c]] w fun e H=>e= .returned (.bool (vaB r ps qs rs))/\Below w.heap.size w H:=by
 have U:Hid (∀V,Below w.heap.size w V->RcIn V B r ps qs rs):=fun V G=>hx.up G hB;have Z:=lh (fun W=>ybK r.hd 0 11 W);have N:=lh (fun W=>pvalid_any r.vt r.s r.ix r.sz W);have z:=lh (fun W=>ybK r.dy 0 999999 W);have O:=lh (fun W=>ybK r.sr 0 1099511627776 W);have Y:=lh (fun W=>ybK r.ct 1 256 W);have T:=lh (fun W=>ybK r.pl 0 (r.ct - 1) W);have K:=lh (fun W=>ybK r.si 0 255 W);have H7:Hid (∀V,Below w.heap.size w V->Calls prog 146 #[.slice r.pa.a r.pa.n r.pa.c,.int .i64 8] V fun e H=>e= .returned (.bool (arB ps 8))/\V=H):=fun V G=>ydb _ _ _ B 8 ps V (U.out V G).1 de;have H8:Hid (∀V,Below w.heap.size w V->Calls prog 146 #[.slice r.pc.a r.pc.n r.pc.c,.int .i64 8] V fun e H=>e= .returned (.bool (arB rs 8))/\V=H):=fun V G=>ydb _ _ _ B 8 rs V (U.out V G).2.2 de;have M:Hid (∀V,Below w.heap.size w V->Calls prog 146 #[.slice r.pb.a r.pb.n r.pb.c,.int .i64 300] V fun e H=>e= .returned (.bool (arB qs 300))/\V=H):=fun V G=>ydb _ _ _ B 300 qs V (U.out V G).2.1 de;have J:Hid (Below w.heap.size w ((w.alloc (.cells #[.int .i64 r.hd,.int .i64 r.vt,.string r.s,.int .i64 r.ix,.int .i64 r.sz,.int .i64 r.dy,.int .i64 r.sr,.int .i64 r.ct,.int .i64 r.pl,.string r.rt,.slice r.pa.a r.pa.n r.pa.c,.int .i64 r.si,.slice r.pb.a r.pb.n r.pb.c,.slice r.pc.a r.pc.n r.pc.c] 35)).alloc (.cells #[.int .i64 r.vt,.string r.s,.int .i64 r.ix,.int .i64 r.sz] 223))):=bl.alloc sI _;have HB1:Hid (Below w.heap.size w (w.alloc (.cells #[.int .i64 r.hd,.int .i64 r.vt,.string r.s,.int .i64 r.ix,.int .i64 r.sz,.int .i64 r.dy,.int .i64 r.sr,.int .i64 r.ct,.int .i64 r.pl,.string r.rt,.slice r.pa.a r.pa.n r.pa.c,.int .i64 r.si,.slice r.pb.a r.pb.n r.pb.c,.slice r.pc.a r.pc.n r.pc.c] 35))):=bl;unfold vaB;clear hx hB
 revert Z N z O Y T K H7 H8 M
 cases rgB r.hd 0 11
 rotate_left
 cases pvB r.vt r.s r.ix r.sz
 rotate_left
 cases rgB r.dy 0 999999
 rotate_left
 cases rgB r.sr 0 1099511627776
 rotate_left
 cases h4:rgB r.ct 1 256
 rotate_left
 cases rgB r.pl 0 (r.ct - 1)
 rotate_left
 cases L:decide (r.rt.size=32)
 rotate_left
 cases arB ps 8
 rotate_left
 cases arB rs 8
 rotate_left
 cases arB qs 300
 rotate_left
 cases rgB r.si 0 255
 rotate_left
 all_goals
  intro Z N z O Y T K H7 H8 M
  try (have ac:=of_decide_eq_true h4;clear h4)
  try (have aa:(((r.rt).size:Nat):Int)=32:=(by have:=of_decide_eq_true L;omega))
  try (have aa:=size32 r.rt L)
  try (have ae:=ydG r.rt L)
  try clear L
  go_enter func87,ntmps87
  go_wp2_with (first
   |(go_at_call 144;(with_reducible refine (Z.out _).mono ?_);rintro e w1 ⟨rfl,rfl⟩)
   |(go_at_call 144;(with_reducible refine (z.out _).mono ?_);rintro e w1 ⟨rfl,rfl⟩)
   |(go_at_call 144;(with_reducible refine (O.out _).mono ?_);rintro e w1 ⟨rfl,rfl⟩)
   |(go_at_call 144;(with_reducible refine (Y.out _).mono ?_);rintro e w1 ⟨rfl,rfl⟩)
   |(go_at_call 144;(with_reducible refine (T.out _).mono ?_);rintro e w1 ⟨rfl,rfl⟩)
   |(go_at_call 144;(with_reducible refine (K.out _).mono ?_);rintro e w1 ⟨rfl,rfl⟩)
   |(go_at_call 145;(with_reducible refine (N.out _).mono ?_);rintro e w1 ⟨rfl,rfl⟩)
   |(go_at_call 146;(with_reducible refine (H7.out _ J.out).mono ?_);rintro e w1 ⟨rfl,rfl⟩)
   |(go_at_call 146;(with_reducible refine (H8.out _ J.out).mono ?_);rintro e w1 ⟨rfl,rfl⟩)
   |(go_at_call 146;(with_reducible refine (M.out _ J.out).mono ?_);rintro e w1 ⟨rfl,rfl⟩))
  go_ret;exact ⟨ybg yaJ,by first |exact J.out |exact HB1.out⟩
def bsF (β:Nat):Int:=if β=1 then 2 else if β=2 then 4 else 16
theorem ycl (b:Int) (β:Nat) (G:BitN b β) (w:World):Calls prog 250 #[.agg (cPm b)] w fun e H=>e= .returned (.int .i64 (bsF β))/\Below w.heap.size w H:=by
 have HB:Hid (Below w.heap.size w (w.alloc (.cells (cPm b) 233))):=bl;rcases G with ⟨rfl,rfl⟩ |⟨rfl,rfl⟩ |⟨rfl,rfl⟩
 all_goals
  go_enter func250,ntmps250;go_wp2;go_ret;exact ⟨rfl,HB.out⟩
theorem ycm (b:Int) (β:Nat) (G:BitN b β) (w:World):Calls prog 247 #[.agg (cPm b)] w fun e H=>e= .returned (.int .i64 (mNI β))/\Below w.heap.size w H:=by
 have HB:Hid (Below w.heap.size w (w.alloc (.cells (cPm b) 233))):=bl;rcases G with ⟨rfl,rfl⟩ |⟨rfl,rfl⟩ |⟨rfl,rfl⟩
 all_goals
  go_enter func247,ntmps247;go_wp2;go_ret;exact ⟨rfl,HB.out⟩
theorem rcheck_1 (w:World):Calls prog 248 #[.agg (cPm 1)] w fun e K=>e= .returned (.int .i64 9)/\Below w.heap.size w K:=by
 have HB:Hid (Below w.heap.size w (w.alloc (.cells (cPm 1) 233))):=bl;obtain ⟨H,J⟩:∃H:World,H=w.alloc (.cells (cPm 1) 233):=⟨_,rfl⟩
 have Y:H.heap.size=w.heap.size+1:=by rw [J];simp
 have Z:H.heap[w.heap.size]? =some (.cells (cPm 1) 233 (0,0)):=by rw [J];exact zy w _
 have HC:Hid (∀V,Below (w.heap.size+1) H V->V.cell? ⟨w.heap.size,0,none⟩=some (.int .i64 1)/\V.cell? ⟨w.heap.size,1,none⟩=some (.int .i64 32)):=fun V hv=>by
  have q:=(hv.block w.heap.size (Nat.lt_succ_self _)).trans Z;refine ⟨?_,?_⟩<;>(rw [cell_of_row V _ _ _ _ _ q];rfl)
 rw [<-J] at HB;have L:=lh Y;have HWE:=lh J;have HBc:Hid (Below (w.heap.size+1) H H):=Below.refl _ _;clear Z Y J;have hb:BitN 1 1:=by unfold BitN;omega
 have M:=lh (fun W=>ycl 1 1 hb W);have HM:=lh (fun W=>ycm 1 1 hb W);rw [show mNI 1=256 from rfl] at HM;rw [show bsF 1=2 from rfl] at M;obtain ⟨c0,c1⟩:=HC.out H bR;go_enter func248,ntmps248;go_upto_region 1 with fail
 rw [<-HWE.out];go_upto_region 2 with (go_at_call 250;(with_reducible refine (M.out _).mono ?_);rintro e w1 ⟨rfl,U⟩;(have HBc:Hid (Below (w.heap.size+1) H w1):=L.out▸U);clear U)
 go_loopw [3,4] (fun n p wr=>(∃j q:Nat,j<=8/\n= .int .i64 ((j:Int)+1)/\p= .int .i64 (q:Int)/\Hid (2 ^ (j+1)=q))/\Hid (Below (w.heap.size+1) H wr)) (fun n _ _=>16 - (intOf n).toNat)
 case atStart=>exact ⟨⟨0,2,by omega,rfl,rfl,rfl⟩,HBc⟩
 case round=>
  clear HBc;obtain ⟨⟨j,q,hj,rfl,rfl,HQ⟩,HBr⟩:=hrel;obtain ⟨c0,c1⟩:=HC.out wr HBr.out;have HBc:=HBr;have O:IntKind.i64.wrap 1=1:=by decide
  have z:IntKind.i64.wrap 256=256:=by decide
  have aa:Hid (2 ^ (j+1+1)=q*2):=by show _=_;rw [Nat.pow_succ,HQ.out]
  by_cases ag:j < 8
  ·have hq:q<=256:=by
    rw [<-HQ.out];exact lT (Nat.pow_le_pow_right de (show j+1<=8 by omega)) de
   have ac:(q:Int)<=256:=by omega
   have N:(q:Int)*2=((q*2:Nat):Int):=by omega
   go_wp2_with fail
   go_region_held3 (fun K=>K.cell? ⟨w.heap.size,0,none⟩=some (.int .i64 1)/\K.cell? ⟨w.heap.size,1,none⟩=some (.int .i64 32)) (first |exact HC.out _ HBc.out |go_keep) (first
    |(go_at_call 250;(with_reducible (refine (M.out _).mono ?_));rintro e w4 ⟨rfl,G⟩;(have HBc:=lh (HBc.out.trans (Below.mono (Below.trans yaN G) (L.out▸HBc.out.size))));clear G)
    |(go_at_call 247;(with_reducible (refine (HM.out _).mono ?_));rintro e w4 ⟨rfl,G⟩;(have HBc:=lh (HBc.out.trans (Below.mono (Below.trans yaN G) (L.out▸HBc.out.size))));clear G))
   obtain ⟨c0,c1⟩:=HC.out w4 HBc.out;have HBq:=HBc;have af:=lh N;clear O z N;go_wp2_with (go_at_call 250;(with_reducible refine (M.out _).mono ?_);rintro e w5 ⟨rfl,T⟩;(have ae:Hid (Below (w.heap.size+1) H w5):=HBq.out.trans (T.mono (L.out▸HBq.out.size)));clear T);refine ⟨?rel,?measure⟩;case rel=>exact ⟨⟨j+1,q*2,by omega,by go_num,by rw [af.out],aa⟩,ae⟩
   case measure=>(simp [intOf]<;>omega)
  ·obtain rfl:j=8:=by omega
   have hq:256 < q:=by rw [<-HQ.out];decide
   have ac:¬(q:Int)<=256:=by omega
   go_wp2_with fail
   go_region_held3 (fun K=>K.cell? ⟨w.heap.size,0,none⟩=some (.int .i64 1)/\K.cell? ⟨w.heap.size,1,none⟩=some (.int .i64 32)) (first |exact HC.out _ HBc.out |go_keep) (first
    |(go_at_call 250;(with_reducible (refine (M.out _).mono ?_));rintro e w4 ⟨rfl,G⟩;(have HBc:=lh (HBc.out.trans (Below.mono (Below.trans yaN G) (L.out▸HBc.out.size))));clear G)
    |(go_at_call 247;(with_reducible (refine (HM.out _).mono ?_));rintro e w4 ⟨rfl,G⟩;(have HBc:=lh (HBc.out.trans (Below.mono (Below.trans yaN G) (L.out▸HBc.out.size))));clear G))
   clear O z;go_wp2;go_ret;exact ⟨rfl,HB.out.trans (HBc.out.mono (Nat.le_succ _))⟩
theorem rcheck_2 (w:World):Calls prog 248 #[.agg (cPm 2)] w fun e K=>e= .returned (.int .i64 5)/\Below w.heap.size w K:=by
 have HB:Hid (Below w.heap.size w (w.alloc (.cells (cPm 2) 233))):=bl;obtain ⟨H,J⟩:∃H:World,H=w.alloc (.cells (cPm 2) 233):=⟨_,rfl⟩
 have Y:H.heap.size=w.heap.size+1:=by rw [J];simp
 have Z:H.heap[w.heap.size]? =some (.cells (cPm 2) 233 (0,0)):=by rw [J];exact zy w _
 have HC:Hid (∀V,Below (w.heap.size+1) H V->V.cell? ⟨w.heap.size,0,none⟩=some (.int .i64 2)/\V.cell? ⟨w.heap.size,1,none⟩=some (.int .i64 32)):=fun V hv=>by
  have q:=(hv.block w.heap.size (Nat.lt_succ_self _)).trans Z;refine ⟨?_,?_⟩<;>(rw [cell_of_row V _ _ _ _ _ q];rfl)
 rw [<-J] at HB;have L:=lh Y;have HWE:=lh J;have HBc:Hid (Below (w.heap.size+1) H H):=Below.refl _ _;clear Z Y J;have hb:BitN 2 2:=by unfold BitN;omega
 have M:=lh (fun W=>ycl 2 2 hb W);have HM:=lh (fun W=>ycm 2 2 hb W);rw [show mNI 2=128 from rfl] at HM;rw [show bsF 2=4 from rfl] at M;obtain ⟨c0,c1⟩:=HC.out H bR;go_enter func248,ntmps248;go_upto_region 1 with fail
 rw [<-HWE.out];go_upto_region 2 with (go_at_call 250;(with_reducible refine (M.out _).mono ?_);rintro e w1 ⟨rfl,U⟩;(have HBc:Hid (Below (w.heap.size+1) H w1):=L.out▸U);clear U)
 go_loopw [3,4] (fun n p wr=>(∃j q:Nat,j<=4/\n= .int .i64 ((j:Int)+1)/\p= .int .i64 (q:Int)/\Hid (4 ^ (j+1)=q))/\Hid (Below (w.heap.size+1) H wr)) (fun n _ _=>16 - (intOf n).toNat)
 case atStart=>exact ⟨⟨0,4,by omega,rfl,rfl,rfl⟩,HBc⟩
 case round=>
  clear HBc;obtain ⟨⟨j,q,hj,rfl,rfl,HQ⟩,HBr⟩:=hrel;obtain ⟨c0,c1⟩:=HC.out wr HBr.out;have HBc:=HBr;have O:IntKind.i64.wrap 3=3:=by decide
  have z:IntKind.i64.wrap 384=384:=by decide
  have aa:Hid (4 ^ (j+1+1)=q*4):=by show _=_;rw [Nat.pow_succ,HQ.out]
  by_cases ag:j < 4
  ·have hq:q<=384:=by
    rw [<-HQ.out];exact lT (Nat.pow_le_pow_right de (show j+1<=4 by omega)) de
   have ac:(q:Int)<=384:=by omega
   have N:(q:Int)*4=((q*4:Nat):Int):=by omega
   go_wp2_with fail
   go_region_held3 (fun K=>K.cell? ⟨w.heap.size,0,none⟩=some (.int .i64 2)/\K.cell? ⟨w.heap.size,1,none⟩=some (.int .i64 32)) (first |exact HC.out _ HBc.out |go_keep) (first
    |(go_at_call 250;(with_reducible (refine (M.out _).mono ?_));rintro e w4 ⟨rfl,G⟩;(have HBc:=lh (HBc.out.trans (Below.mono (Below.trans yaN G) (L.out▸HBc.out.size))));clear G)
    |(go_at_call 247;(with_reducible (refine (HM.out _).mono ?_));rintro e w4 ⟨rfl,G⟩;(have HBc:=lh (HBc.out.trans (Below.mono (Below.trans yaN G) (L.out▸HBc.out.size))));clear G))
   obtain ⟨c0,c1⟩:=HC.out w4 HBc.out;have HBq:=HBc;have af:=lh N;clear O z N;go_wp2_with (go_at_call 250;(with_reducible refine (M.out _).mono ?_);rintro e w5 ⟨rfl,T⟩;(have ae:Hid (Below (w.heap.size+1) H w5):=HBq.out.trans (T.mono (L.out▸HBq.out.size)));clear T);refine ⟨?rel,?measure⟩;case rel=>exact ⟨⟨j+1,q*4,by omega,by go_num,by rw [af.out],aa⟩,ae⟩
   case measure=>(simp [intOf]<;>omega)
  ·obtain rfl:j=4:=by omega
   have hq:384 < q:=by rw [<-HQ.out];decide
   have ac:¬(q:Int)<=384:=by omega
   go_wp2_with fail
   go_region_held3 (fun K=>K.cell? ⟨w.heap.size,0,none⟩=some (.int .i64 2)/\K.cell? ⟨w.heap.size,1,none⟩=some (.int .i64 32)) (first |exact HC.out _ HBc.out |go_keep) (first
    |(go_at_call 250;(with_reducible (refine (M.out _).mono ?_));rintro e w4 ⟨rfl,G⟩;(have HBc:=lh (HBc.out.trans (Below.mono (Below.trans yaN G) (L.out▸HBc.out.size))));clear G)
    |(go_at_call 247;(with_reducible (refine (HM.out _).mono ?_));rintro e w4 ⟨rfl,G⟩;(have HBc:=lh (HBc.out.trans (Below.mono (Below.trans yaN G) (L.out▸HBc.out.size))));clear G))
   clear O z;go_wp2;go_ret;exact ⟨rfl,HB.out.trans (HBc.out.mono (Nat.le_succ _))⟩
theorem rcheck_4 (w:World):Calls prog 248 #[.agg (cPm 4)] w fun e K=>e= .returned (.int .i64 3)/\Below w.heap.size w K:=by
 have HB:Hid (Below w.heap.size w (w.alloc (.cells (cPm 4) 233))):=bl;obtain ⟨H,J⟩:∃H:World,H=w.alloc (.cells (cPm 4) 233):=⟨_,rfl⟩
 have Y:H.heap.size=w.heap.size+1:=by rw [J];simp
 have Z:H.heap[w.heap.size]? =some (.cells (cPm 4) 233 (0,0)):=by rw [J];exact zy w _
 have HC:Hid (∀V,Below (w.heap.size+1) H V->V.cell? ⟨w.heap.size,0,none⟩=some (.int .i64 4)/\V.cell? ⟨w.heap.size,1,none⟩=some (.int .i64 32)):=fun V hv=>by
  have q:=(hv.block w.heap.size (Nat.lt_succ_self _)).trans Z;refine ⟨?_,?_⟩<;>(rw [cell_of_row V _ _ _ _ _ q];rfl)
 rw [<-J] at HB;have L:=lh Y;have HWE:=lh J;have HBc:Hid (Below (w.heap.size+1) H H):=Below.refl _ _;clear Z Y J;have hb:BitN 4 4:=by unfold BitN;omega
 have M:=lh (fun W=>ycl 4 4 hb W);have HM:=lh (fun W=>ycm 4 4 hb W);rw [show mNI 4=64 from rfl] at HM;rw [show bsF 4=16 from rfl] at M;obtain ⟨c0,c1⟩:=HC.out H bR;go_enter func248,ntmps248;go_upto_region 1 with fail
 rw [<-HWE.out];go_upto_region 2 with (go_at_call 250;(with_reducible refine (M.out _).mono ?_);rintro e w1 ⟨rfl,U⟩;(have HBc:Hid (Below (w.heap.size+1) H w1):=L.out▸U);clear U)
 go_loopw [3,4] (fun n p wr=>(∃j q:Nat,j<=2/\n= .int .i64 ((j:Int)+1)/\p= .int .i64 (q:Int)/\Hid (16 ^ (j+1)=q))/\Hid (Below (w.heap.size+1) H wr)) (fun n _ _=>16 - (intOf n).toNat)
 case atStart=>exact ⟨⟨0,16,by omega,rfl,rfl,rfl⟩,HBc⟩
 case round=>
  clear HBc;obtain ⟨⟨j,q,hj,rfl,rfl,HQ⟩,HBr⟩:=hrel;obtain ⟨c0,c1⟩:=HC.out wr HBr.out;have HBc:=HBr;have O:IntKind.i64.wrap 15=15:=by decide
  have z:IntKind.i64.wrap 960=960:=by decide
  have aa:Hid (16 ^ (j+1+1)=q*16):=by show _=_;rw [Nat.pow_succ,HQ.out]
  by_cases ag:j < 2
  ·have hq:q<=960:=by
    rw [<-HQ.out];exact lT (Nat.pow_le_pow_right de (show j+1<=2 by omega)) de
   have ac:(q:Int)<=960:=by omega
   have N:(q:Int)*16=((q*16:Nat):Int):=by omega
   go_wp2_with fail
   go_region_held3 (fun K=>K.cell? ⟨w.heap.size,0,none⟩=some (.int .i64 4)/\K.cell? ⟨w.heap.size,1,none⟩=some (.int .i64 32)) (first |exact HC.out _ HBc.out |go_keep) (first
    |(go_at_call 250;(with_reducible (refine (M.out _).mono ?_));rintro e w4 ⟨rfl,G⟩;(have HBc:=lh (HBc.out.trans (Below.mono (Below.trans yaN G) (L.out▸HBc.out.size))));clear G)
    |(go_at_call 247;(with_reducible (refine (HM.out _).mono ?_));rintro e w4 ⟨rfl,G⟩;(have HBc:=lh (HBc.out.trans (Below.mono (Below.trans yaN G) (L.out▸HBc.out.size))));clear G))
   obtain ⟨c0,c1⟩:=HC.out w4 HBc.out;have HBq:=HBc;have af:=lh N;clear O z N;go_wp2_with (go_at_call 250;(with_reducible refine (M.out _).mono ?_);rintro e w5 ⟨rfl,T⟩;(have ae:Hid (Below (w.heap.size+1) H w5):=HBq.out.trans (T.mono (L.out▸HBq.out.size)));clear T);refine ⟨?rel,?measure⟩;case rel=>exact ⟨⟨j+1,q*16,by omega,by go_num,by rw [af.out],aa⟩,ae⟩
   case measure=>(simp [intOf]<;>omega)
  ·obtain rfl:j=2:=by omega
   have hq:960 < q:=by rw [<-HQ.out];decide
   have ac:¬(q:Int)<=960:=by omega
   go_wp2_with fail
   go_region_held3 (fun K=>K.cell? ⟨w.heap.size,0,none⟩=some (.int .i64 4)/\K.cell? ⟨w.heap.size,1,none⟩=some (.int .i64 32)) (first |exact HC.out _ HBc.out |go_keep) (first
    |(go_at_call 250;(with_reducible (refine (M.out _).mono ?_));rintro e w4 ⟨rfl,G⟩;(have HBc:=lh (HBc.out.trans (Below.mono (Below.trans yaN G) (L.out▸HBc.out.size))));clear G)
    |(go_at_call 247;(with_reducible (refine (HM.out _).mono ?_));rintro e w4 ⟨rfl,G⟩;(have HBc:=lh (HBc.out.trans (Below.mono (Below.trans yaN G) (L.out▸HBc.out.size))));clear G))
   clear O z;go_wp2;go_ret;exact ⟨rfl,HB.out.trans (HBc.out.mono (Nat.le_succ _))⟩
