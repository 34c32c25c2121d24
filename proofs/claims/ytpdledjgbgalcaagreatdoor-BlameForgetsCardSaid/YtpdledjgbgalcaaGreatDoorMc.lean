/- A block of bytes taken: what it is, plainly. wire.Reader: what readValue defers, at string. wire.Reader: take, block; readValue for Text and for Sum. wire.Reader: Text, Sum, Count, Left; and behind an error. wire.Reader: what it reads, in terms of its state. wire.Reader: Bytes. Reading, plainly: only encodings are read; what was written is read. -/
import Derived.Test.YtpdledjgbgalcaaGreatDoorMa
import Derived.Test.YtpdledjgbgalcaaGreatDoorMb
import Derived.Defers
import Derived.Laws.ResultCell
import Derived.Deep.Onto
namespace Go.Proofs.YtpdledjgbgalcaaGreatDoor
set_option maxRecDepth 20000
set_option maxHeartbeats 1000000
open Go.RowKit Go.Lib
set_option linter.unusedVariables false
set_option linter.unusedSimpArgs false
def tkL (bs:List Int) (n p:Nat):List Int × Int × Nat:=if bs.length < p+n then ([],3,p) else ((bs.drop p).take n,0,p+n)
def tkF (bs:List Int) (n p:Nat):ByteArray × Int × Nat:=(baOf (tkL bs n p).1,(tkL bs n p).2)
def blkL (bs:List Int) (m p:Nat):List Int × Int × Nat:=
 if (limF m (numF bs 10 0 0 p)).2.1=0 then tkL bs (limF m (numF bs 10 0 0 p)).1.toNat (limF m (numF bs 10 0 0 p)).2.2 else ([],(limF m (numF bs 10 0 0 p)).2.1,(limF m (numF bs 10 0 0 p)).2.2)
theorem tkF_eq (bs:List Int) (n p:Nat):tkF bs n p=if bs.length < p+n then (baNo,3,p) else (baOf ((bs.drop p).take n),0,p+n):=by
 unfold tkF tkL
 split<;>rfl
abbrev RS:=Nat × Int
def rV {α:Type} (s:RS) (z:α) (N:α × Int × Nat):α × RS:=if s.2=0 then (if N.2.1=0 then (N.1,N.2.2,0) else (z,s.1,N.2.1)) else (z,s)
def rU (bs:List Int) (s:RS):Int × RS:=rV s 0 (numF bs 10 0 0 s.1)
def rC (bs:List Int) (m:Nat) (s:RS):Int × RS:=rV s 0 (limF m (numF bs 10 0 0 s.1))
def rS (bs:List Int) (s:RS):ByteArray × RS:=rV s baNo (tkF bs 32 s.1)
theorem rV_ok {α:Type} {s:RS} {z:α} {N:α × Int × Nat} (h:(rV s z N).2.2=0):s.2=0∧N.2.1=0∧rV s z N=(N.1,N.2.2,0):=by
 unfold rV at h ⊢
 by_cases h1:s.2=0
 ·by_cases h2:N.2.1=0
  ·exact ⟨h1,h2,by rw [if_pos h1,if_pos h2]⟩
  ·rw [if_pos h1,if_neg h2] at h;exact absurd h h2
 ·rw [if_neg h1] at h;exact absurd h h1
theorem rV_go {α:Type} {p:Nat} {z:α} {N:α × Int × Nat} {v:α} {q:Nat} (h:N=(v,0,q)):rV (p,0) z N=(v,q,0):=by unfold rV;rw [h];rfl
theorem rV_le {α:Type} {s:RS} {z:α} {N:α × Int × Nat} {n:Nat} (h:s.1≤n) (hN:N.2.2≤n):(rV s z N).2.1≤n:=by
 unfold rV
 split
 ·split
  ·exact hN
  ·exact h
 ·exact h
open Go.RowKit
theorem closed_S (s rb rs g:Nat) (A:Option Addr) (n c p:Nat) (st:Nat) (pv er:Int) (v:ByteArray) (w:World) (hs:w.heap[s]? =some (.cells #[.int .i64 st] 3 (0,0))) (hrb:w.heap[rb]? =some (.cells #[.pointer (some ⟨g,0,none⟩)] 144 (0,0))) (hrs:w.heap[rs]? =some (.cells #[.string v] 9 (0,0))) (hr:Rd w g A n c p pv er) (h1:g < rb) (h2:rb < rs) (h3:rs < s):
 CallsD Tryz.prog 253 #[.pointer (some ⟨s,0,none⟩),.pointer (some ⟨rb,0,none⟩),.pointer (some ⟨rs,0,none⟩)] .returning w fun e u' w'=>u'= .returning∧(e= .returned (.tuple #[])∧Hid (Rd w' g A n c (if er=0 then p else st) st er)∧Hid (w'.heap[rs]? =some (.cells #[.string (if er=0 then v else baNo)] 9 (0,0)))∧Hid (But (fun k=>k=g∨k=rs) w w')):=by
 have HR:=lh hr;have HS:=lh hs;have HRB:=lh hrb;have HRS:=lh hrs;have c1:=cell_of_row w g 1 _ _ _ hr;have c2:=cell_of_row w g 2 _ _ _ hr;have c3:=cell_of_row w g 3 _ _ _ hr;have cs:=cell_of_row w s 0 _ _ _ hs;have cb:=cell_of_row w rb 0 _ _ _ hrb;have cr:=cell_of_row w rs 0 _ _ _ hrs;have f1:=frozen_of_row w g 1 _ _ hr;have f2:=frozen_of_row w g 2 _ _ hr;have fr:=frozen_of_row w rs 0 _ _ hrs;simp at c1 c2 c3 cs cb cr;have n1:¬g=rb:=by omega
 have n2:¬g=rs:=by omega
 have n3:¬g=s:=by omega
 have n4:¬rb=rs:=by omega
 have n5:¬rs=s:=by omega
 have n6:¬rb=s:=by omega
 have HG2:Hid (Rd (w.setCell ⟨g,2,none⟩ (.int .i64 st)) g A n c p st er):=heap_setCell_same w _ 2 _ _ (.int .i64 st) hr;have HG21:Hid (Rd ((w.setCell ⟨g,2,none⟩ (.int .i64 st)).setCell ⟨g,1,none⟩ (.int .i64 st)) g A n c st st er):=heap_setCell_same _ _ 1 _ _ (.int .i64 st) HG2.out;have HN2:Hid ((w.setCell ⟨g,2,none⟩ (.int .i64 st)).heap[rs]? =some (.cells #[.string v] 9 (0,0))):=(heap_setCell_other w _ _ _ (fun e=>n2 e.symm)).trans hrs;have HN21:Hid (((w.setCell ⟨g,2,none⟩ (.int .i64 st)).setCell ⟨g,1,none⟩ (.int .i64 st)).heap[rs]? =some (.cells #[.string v] 9 (0,0))):=(heap_setCell_other _ _ _ _ (fun e=>n2 e.symm)).trans HN2.out;have HRR:Hid (Rd (((w.setCell ⟨g,2,none⟩ (.int .i64 st)).setCell ⟨g,1,none⟩ (.int .i64 st)).setCell ⟨rs,0,none⟩ (.string baNo)) g A n c st st er):=(heap_setCell_other _ _ _ _ n2).trans HG21.out;have HRV:Hid ((((w.setCell ⟨g,2,none⟩ (.int .i64 st)).setCell ⟨g,1,none⟩ (.int .i64 st)).setCell ⟨rs,0,none⟩ (.string baNo)).heap[rs]? =some (.cells #[.string baNo] 9 (0,0))):=heap_setCell_same _ _ 0 _ _ (.string baNo) HN21.out;have HB:Hid (But (fun k=>k=g∨k=rs) w (w.setCell ⟨g,2,none⟩ (.int .i64 st))):=(But.refl _ _).setCell (.inl (.inl rfl)) _;have HB3:Hid (But (fun k=>k=g∨k=rs) w (((w.setCell ⟨g,2,none⟩ (.int .i64 st)).setCell ⟨g,1,none⟩ (.int .i64 st)).setCell ⟨rs,0,none⟩ (.string baNo))):=(HB.out.setCell (.inl (.inl rfl)) _).setCell (.inl (.inr rfl)) _;clear hs hrb hrs hr h1 h2 h3
 by_cases he:er=0
 ·have heb:(er != 0)=false:=by simp [he]
  have H1:Hid ((if er=0 then p else st)=p):=if_pos he;have H2:Hid ((if er=0 then v else baNo)=v):=if_pos he;rw [H1.out,H2.out];clear he
  go_enter_d Tryz.func253,Tryz.ntmps253
  go_wp2
  go_end0
  exact ⟨rfl,HG2,HN2,HB⟩
 ·have heb:(er != 0)=true:=by simp [he]
  have H1:Hid ((if er=0 then p else st)=st):=if_neg he;have H2:Hid ((if er=0 then v else baNo)=baNo):=if_neg he;rw [H1.out,H2.out];clear he
  go_enter_d Tryz.func253,Tryz.ntmps253
  go_wp2
  go_end0
  exact ⟨rfl,HRR,HRV,HB3⟩
theorem numF_le (bs:List Int):∀(k acc i p:Nat),p≤bs.length→(numF bs k acc i p).2.2≤bs.length
 |0,_,_,_,h=>h
 |k+1,acc,i,p,h=>by
  rw [numF]
  cases hx:bs[p]? with
  |none=>exact h
  |some b=>
   have hp:=(List.getElem?_eq_some_iff.1 hx).1;simp only []
   split
   ·exact numF_le bs k _ _ _ hp
   ·split
    ·exact hp
    ·exact hp
theorem ydh (m:Nat) (N:Int × Int × Nat):(limF m N).2.2=N.2.2:=by
 unfold limF
 split
 ·split<;>rfl
 ·rfl
theorem run_slice_lh {P:Program} (t e:Nat) (i:TypeInfo) (ht:P.underlying t=some (.slice e)) (hi:P.info? e=some i) (hs:i.size=1) (A:Option Addr) (n c:Nat) (l h:Nat) (h1:l≤h) (h2:h≤c) (w:World):
 (Instr.slice t (.slice A n c) (some (.int .i64 (l:Int))) (some (.int .i64 (h:Int))) none).run P w= .ok (.slice (if c=l then A else A.map (·.add l)) (h - l) (c - l)) w:=by
 simp [Instr.slice,run_underlying ht,Instr.sliceBounds,run_sliceBound w .i64 (h:Int) c _ om om,run_sliceBound w .i64 (l:Int) h _ om om,sizeOf,typeInfo,hi,hs]
theorem Sl.butg {f:Int→Value} {w w':World} {g n:Nat} {A:Option Addr} {xs:List Int} (h:Sl f w g A n xs) (hb:But (fun k=>k=g) w w') (hg:g≤w.heap.size):Sl f w' g A n xs:=⟨h.1,fun hn=>by
 obtain ⟨b,off,e,hlt,hc⟩:=h.2 hn
 exact ⟨b,off,e,hlt,hc.keep (hb.block b om om)⟩⟩
theorem Sl.part {f:Int→Value} {w:World} {B n c:Nat} {A:Option Addr} {xs:List Int} (h:Sl f w B A n xs) (l k:Nat) (hl:l+k≤n) (hc:n≤c):Sl f w B (if c=l then A else A.map (·.add l)) k ((xs.drop l).take k):=by
 have h1:=h.1;refine ⟨by rw [List.length_take,List.length_drop];omega,?_⟩;exact ((h.2.cut (n:=l) (cap:=c) om).take_ k)
theorem take_any (g:Nat) (A:Option Addr) (n c p k:Nat) (pv er0:Int) (bs:List Int) (w:World) (hr:Rd w g A n c p pv er0) (hx:Sl fB w g A n bs) (hp:p≤n) (hn:n≤1000000) (hk:k≤1000000) (hnc:n≤c):
 Calls Tryz.prog 216 #[.pointer (some ⟨g,0,none⟩),.int .i64 k] w fun e w'=>∃A' m c',e= .returned (.tuple #[.slice A' m c',.int .i64 (tkL bs k p).2.1])∧Sl fB w' g A' m (tkL bs k p).1∧Rd w' g A n c (tkL bs k p).2.2 pv er0∧But (fun k=>k=g) w w':=by
 have c0:=cell_of_row w g 0 _ _ _ hr;have c1:=cell_of_row w g 1 _ _ _ hr;have f1:=frozen_of_row w g 1 _ _ hr;simp at c0 c1;have HR:=lh hr;have HX:=lh hx;have hlen:=hx.1;clear hr hx
 by_cases hlt:bs.length < p+k
 ·have HT:Hid (tkL bs k p=([],3,p)):=by show _=_;unfold tkL;rw [if_pos hlt]
  have hd:decide ((n:Int) - (p:Int) < (k:Int))=true:=by simp;omega
  have hd':(n:Int) - (p:Int) < (k:Int):=by omega
  rw [HT.out];clear hlt;go_enter Tryz.func216,Tryz.ntmps216;go_wp2
  go_quiet (fail)
  go_wp2;go_ret2;exact ⟨none,0,0,rfl,⟨rfl,SL.nil⟩,HR.out,(But.refl _ _).drewN _⟩
 ·have HT:Hid (tkL bs k p=((bs.drop p).take k,0,p+k)):=by show _=_;unfold tkL;rw [if_neg hlt]
  have hd:decide ((n:Int) - (p:Int) < (k:Int))=false:=by simp;omega
  have hd':¬(n:Int) - (p:Int) < (k:Int):=by omega
  obtain ⟨i0,hi,_,hz1,_⟩:=info_parts Tryz.infoB;have hsl:=run_slice_lh (P:=Tryz.prog) 40 5 i0 Tryz.underlying40 hi hz1 A n c p (p+k) om om;rw [show ((p+k:Nat):Int)=(p:Int)+(k:Int) by omega,show p+k - p=k by omega] at hsl;obtain ⟨A',hA'⟩:∃A',(if c=p then A else A.map (·.add p))=A':=⟨_,rfl⟩
  have HP:Hid (Sl fB w g A' k ((bs.drop p).take k)):=hA'▸HX.out.part p k om hnc
  have HRn:Hid (∀q,Rd ((w.drewN q).setCell ⟨g,1,none⟩ (.int .i64 ((p:Int)+(k:Int)))) g A n c (p+k) pv er0):=fun q=>by
   show _=_
   rw [show ((p+k:Nat):Int)=(p:Int)+k by omega];exact heap_setCell_same (w.drewN q) _ _ _ _ _ HR.out
  have HBu:Hid (∀q,But (fun k=>k=g) w ((w.drewN q).setCell ⟨g,1,none⟩ (.int .i64 ((p:Int)+(k:Int))))):=fun q=>But.setCell (p:=fun k=>k=g) (x:=⟨g,1,none⟩) ((But.refl _ _).drewN q) (.inl rfl) _
  have HGL:Hid (g≤w.heap.size):=Nat.le_of_lt (lt_of_block HR.out);rw [hA'] at hsl;rw [HT.out];clear hlt hA';go_enter Tryz.func216,Tryz.ntmps216;go_wp2
  go_quiet (fail)
  go_wp2
  go_quiet (fail)
  go_wp2;go_ret2;exact ⟨A',k,c - p,rfl,HP.out.butg (HBu.out _) HGL.out,HRn.out _,HBu.out _⟩
theorem block_any (g:Nat) (A:Option Addr) (n c p m:Nat) (pv er0:Int) (bs:List Int) (w:World) (hr:Rd w g A n c p pv er0) (hx:Sl fB w g A n bs) (hb:∀b∈bs,0≤b∧b < 256) (hp:p≤n) (hn:n≤1000000) (hm:m≤1000000) (hnc:n≤c):
 Calls Tryz.prog 213 #[.pointer (some ⟨g,0,none⟩),.int .i64 m] w fun e w'=>∃A' k c',e= .returned (.tuple #[.slice A' k c',.int .i64 (blkL bs m p).2.1])∧Sl fB w' g A' k (blkL bs m p).1∧Rd w' g A n c (blkL bs m p).2.2 pv er0∧But (fun k=>k=g) w w':=by
 have HC:=lh (limited_any g A n c p m pv er0 bs w hr hx hb hp hn hm);have HX:=lh hx;have HGL:Hid (g≤w.heap.size):=Nat.le_of_lt (lt_of_block hr);have hv0:=ybJ bs 10 0 0 p;have hlen:=hx.1;have hle:(numF bs 10 0 0 p).2.2≤n:=by rw [←hlen];exact numF_le bs 10 0 0 p om
 have hpl:=ydh m (numF bs 10 0 0 p)
 have hlv:(limF m (numF bs 10 0 0 p)).2.1=0→0≤(limF m (numF bs 10 0 0 p)).1∧(limF m (numF bs 10 0 0 p)).1≤m:=by
  intro h;unfold limF at h ⊢
  split
  ·next h1=>
   split
   ·next h2=>exact ⟨Int.le_refl _,Int.natCast_nonneg _⟩
   ·next h2=>exact ⟨hv0,by omega⟩
  ·exact ⟨Int.le_refl _,Int.natCast_nonneg _⟩
 have HB:Hid (blkL bs m p=if (limF m (numF bs 10 0 0 p)).2.1=0 then tkL bs (limF m (numF bs 10 0 0 p)).1.toNat (limF m (numF bs 10 0 0 p)).2.2 else ([],(limF m (numF bs 10 0 0 p)).2.1,(limF m (numF bs 10 0 0 p)).2.2)):=rfl;rw [←hpl] at hle;obtain ⟨v,er,p',hN⟩:∃v er p',limF m (numF bs 10 0 0 p)=(v,er,p'):=⟨_,_,_,rfl⟩
 rw [hN] at HC HB hle hlv;simp only at hle hlv;rw [HB.out];clear hr hx hb hN hpl hv0 HB
 by_cases he:er=0
 ·subst he
  obtain ⟨hv0,hvm⟩:=hlv rfl;obtain ⟨k,rfl⟩:∃k:Nat,v=k:=⟨v.toNat,by omega⟩
  simp only [if_true,Int.toNat_natCast];go_enter Tryz.func213,Tryz.ntmps213
  go_wp2_with fail
  refine HC.out.mono ?_;rintro e w1 ⟨rfl,h1,h2⟩;have HK:=lh (take_any g A n c p' k pv er0 bs w1 h1 (HX.out.butg h2 HGL.out) hle hn om hnc);have H2:=lh h2;clear h1 h2
  go_wp2_with fail
  refine HK.out.mono ?_;rintro e w2 ⟨A',j,c',rfl,k1,k2,k3⟩;have K1:=lh k1;have K2:=lh k2;have K3:=lh k3;clear k1 k2 k3
  go_wp2_with fail
  go_ret2;exact ⟨A',j,c',rfl,K1.out,K2.out,H2.out.trans K3.out (fun i hi=> .inl hi)⟩
 ·have heb:(er != 0)=true:=by simp [he]
  simp only [he,if_false];go_enter Tryz.func213,Tryz.ntmps213
  go_wp2_with fail
  refine HC.out.mono ?_;rintro e w1 ⟨rfl,h1,h2⟩;have H1:=lh h1;have H2:=lh h2;clear h1 h2
  go_wp2_with fail
  go_ret2;exact ⟨none,0,0,rfl,⟨rfl,SL.nil⟩,H1.out,H2.out⟩
theorem sumc_any (a g:Nat) (A:Option Addr) (n c p:Nat) (pv er0:Int) (bs:List Int) (w:World) (ha:w.heap[a]? =some (.cells #[.pointer (some ⟨g,0,none⟩)] 144 (0,0))) (hr:Rd w g A n c p pv er0) (hx:Sl fB w g A n bs) (hb:∀b∈bs,0≤b∧b < 256) (hp:p≤n) (hn:n≤1000000) (hnc:n≤c):
 Calls Tryz.prog 215 #[.pointer (some ⟨a,0,none⟩)] w fun e w'=>e= .returned (.tuple #[.string (tkF bs 32 p).1,.int .i64 (tkF bs 32 p).2.1])∧Rd w' g A n c (tkF bs 32 p).2.2 pv er0∧But (fun k=>k=g) w w':=by
 have HC:=lh (take_any g A n c p 32 pv er0 bs w hr hx hp hn de hnc);have HB:Hid (tkF bs 32 p=(baOf (tkL bs 32 p).1,(tkL bs 32 p).2)):=rfl;have ca:=cell_of_row w a 0 _ _ _ ha;simp at ca;rw [HB.out];obtain ⟨xs,er,p',hN⟩:∃v er p',tkL bs 32 p=(v,er,p'):=⟨_,_,_,rfl⟩
 rw [hN] at HC ⊢;clear hr hx hb hN ha HB;go_enter Tryz.func215,Tryz.ntmps215
 go_wp2_with fail
 refine HC.out.mono ?_;rintro e w1 ⟨A',k,c',rfl,h0,h1,h2⟩;obtain ⟨z0,hz0⟩:∃s,s=baOf xs:=⟨_,rfl⟩
 have HZ0:=lh hz0
 have hcv:(convert 40 9 (.slice A' k c')).run Tryz.prog w1= .ok (.string z0) w1:=by
  rw [hz0];exact ybG (P:=Tryz.prog) 40 5 9 Tryz.underlying40 Tryz.underlying5 Tryz.underlying9 w1 _ A' k c' _ h0
 have H1:=lh h1;have H2:=lh h2;clear h0 h1 h2 hz0
 go_wp2_with fail
 go_ret2;rw [←HZ0.out];exact ⟨rfl,H1.out,H2.out⟩
def RPs (g:Nat) (A:Option Addr) (n c p:Nat) (v:ByteArray) (er:Int) (p':Nat) (w:World) (e:Ending) (w':World):Prop:=
 e= .returned (.string (if er=0 then v else baNo))∧Rd w' g A n c (if er=0 then p' else p) p er∧But (fun k=>k=g) w w'
theorem readSm (a g:Nat) (A:Option Addr) (n c p:Nat) (pv:Int) (bs:List Int) (w:World) (ha:w.heap[a]? =some (.cells #[.pointer (some ⟨g,0,none⟩)] 144 (0,0))) (hr:Rd w g A n c p pv 0) (hx:Sl fB w g A n bs) (hb:∀b∈bs,0≤b∧b < 256) (hp:p≤n) (hn:n≤1000000) (hnc:n≤c):
 Calls Tryz.prog 214 #[.pointer (some ⟨g,0,none⟩),.func (.func 215) #[] #[.pointer (some ⟨a,0,none⟩)]] w (RPs g A n c p (tkF bs 32 p).1 (tkF bs 32 p).2.1 (tkF bs 32 p).2.2 w):=by
 have HR:=lh hr;have hgw:g < w.heap.size:=lt_of_block hr;have hmf:∀(fn:Fn) (first cap:Array Value) (w:World),(Instr.makeFunc fn first cap).run Tryz.prog w= .ok (.func fn first cap) w:=fun _ _ _ _=>rfl
 have c1:=cell_of_row w g 1 _ _ _ hr;have c3:=cell_of_row w g 3 _ _ _ hr;have f3:=frozen_of_row w g 3 _ _ hr;simp at c1 c3;obtain ⟨v,er,p',hN⟩:∃v er p',tkF bs 32 p=(v,er,p'):=⟨_,_,_,rfl⟩
 have cN:Hid (∀W,Rd W g A n c p pv 0→Sl fB W g A n bs→W.heap[a]? =some (.cells #[.pointer (some ⟨g,0,none⟩)] 144 (0,0))→Calls Tryz.prog 215 #[.pointer (some ⟨a,0,none⟩)] W fun e w'=>e= .returned (.tuple #[.string v,.int .i64 er])∧Rd w' g A n c p' pv 0∧But (fun k=>k=g) W w'):=fun W h1 h2 h3=>by
  have:=sumc_any a g A n c p pv 0 bs W h3 h1 h2 hb hp hn hnc
  rw [hN] at this;exact this
 rw [hN];have HX:=lh hx;have HAA:=lh ha;clear hr hx hb hN ha
 go_enter_defers Tryz.func214,Tryz.ntmps214
 go_wp2;obtain ⟨W3,hW3⟩:∃W3:World,W3=((w.alloc (.cells #[.pointer (some ⟨g,0,none⟩)] 144)).alloc (.cells #[.string ⟨#[]⟩] 9)).alloc (.cells #[.int .i64 p] 3):=⟨_,rfl⟩
 rw [←hW3];have HB3:Hid (Below w.heap.size w W3):=by rw [hW3];exact (bl.alloc sI _).alloc yaW _
 have hs3:W3.heap.size=w.heap.size+1+1+1:=by rw [hW3];simp
 have HA3:Hid (W3.heap[w.heap.size]? =some (.cells #[.pointer (some ⟨g,0,none⟩)] 144 (0,0))):=by
  show _=_
  rw [hW3,Below.heap_alloc _ _ _ yaW,Below.heap_alloc _ _ _ sI];exact heap_alloc_new w _
 have HC3:Hid (W3.heap[w.heap.size+1]? =some (.cells #[.string ⟨#[]⟩] 9 (0,0))):=by
  show _=_
  rw [hW3,Below.heap_alloc _ _ _ sI]
  have:=heap_alloc_new (w.alloc (.cells #[.pointer (some ⟨g,0,none⟩)] 144)) (.cells #[.string ⟨#[]⟩] 9)
  simpa using this
 have HD3:Hid (W3.heap[w.heap.size+1+1]? =some (.cells #[.int .i64 p] 3 (0,0))):=by
  show _=_
  rw [hW3]
  have:=heap_alloc_new ((w.alloc (.cells #[.pointer (some ⟨g,0,none⟩)] 144)).alloc (.cells #[.string ⟨#[]⟩] 9)) (.cells #[.int .i64 p] 3)
  simpa using this
 have HR3:Hid (Rd W3 g A n c p pv 0):=(HB3.out.block g hgw).trans HR.out;have HX3:Hid (Sl fB W3 g A n bs):=HX.out.up HB3.out (Nat.le_of_lt hgw);have HAA3:Hid (W3.heap[a]? =some (.cells #[.pointer (some ⟨g,0,none⟩)] 144 (0,0))):=(HB3.out.block a (lt_of_block HAA.out)).trans HAA.out;have cA:=cell_of_row W3 w.heap.size 0 _ _ _ HA3.out;simp at cA;clear hW3 c1 c3 f3;have hne1:¬g=w.heap.size:=by omega
 have hne2:¬w.heap.size=g:=by omega
 have hne3:¬g=w.heap.size+1:=by omega
 have hne4:¬w.heap.size+1=g:=by omega
 go_region_held3 (fun w'=>w'.cell? ⟨w.heap.size,0,none⟩=some (.pointer (some ⟨g,0,none⟩))) (first |go_keep |exact cA5) (first |(go_at_call 215;(refine (cN.out W3.drew HR3.out HX3.out HAA3.out).mono ?_);(rintro e w5 ⟨rfl,hR5,hb5⟩);(have HR5:=lh hR5);(have HB5:Hid (But (fun k=>k=g) W3 w5):=⟨hb5.os,hb5.tape,hb5.output,hb5.size,hb5.block⟩);(have HA5:Hid (w5.heap[w.heap.size]? =some (.cells #[.pointer (some ⟨g,0,none⟩)] 144 (0,0))):=(hb5.block w.heap.size yaO om).trans HA3.out);(have HC5:Hid (w5.heap[w.heap.size+1]? =some (.cells #[.string ⟨#[]⟩] 9 (0,0))):=(hb5.block (w.heap.size+1) yaO om).trans HC3.out);(have cA5:=cell_of_row w5 w.heap.size 0 _ _ _ HA5.out);(simp at cA5);(have cC5:=cell_of_row w5 (w.heap.size+1) 0 _ _ _ HC5.out);(have cG5:=cell_of_row w5 g 3 _ _ _ hR5);(simp at cC5 cG5);(have f5r:=frozen_of_row w5 (w.heap.size+1) 0 _ _ HC5.out);(have f5g:=frozen_of_row w5 g 3 _ _ hR5);(clear hb5 hR5)))
 go_wp2;have HD5:Hid (w5.heap[w.heap.size+1+1]? =some (.cells #[.int .i64 p] 3 (0,0))):=(HB5.out.block (w.heap.size+1+1) om om).trans HD3.out;obtain ⟨WD,hWD⟩:∃WD:World,WD=((w5.setCell ⟨w.heap.size+1,0,none⟩ (.string v)).setCell ⟨g,3,none⟩ (.int .i64 er)).setCell ⟨w.heap.size+1,0,none⟩ (.string v):=⟨_,rfl⟩
 rw [←hWD]
 have o1:∀k,k≠w.heap.size+1→k≠g→WD.heap[k]? =w5.heap[k]? :=fun k h1 h2=>by
  rw [hWD];exact (heap_setCell_other _ _ _ _ h1).trans ((heap_setCell_other _ _ _ _ h2).trans (heap_setCell_other _ _ _ _ h1))
 have HAD:WD.heap[w.heap.size]? =some (.cells #[.pointer (some ⟨g,0,none⟩)] 144 (0,0)):=(o1 _ om om).trans HA5.out;have HDD:WD.heap[w.heap.size+1+1]? =some (.cells #[.int .i64 p] 3 (0,0)):=(o1 _ om om).trans HD5.out;have hR6:Rd (w5.setCell ⟨w.heap.size+1,0,none⟩ (.string v)) g A n c p' pv 0:=(heap_setCell_other _ _ _ _ hne3).trans HR5.out;have hR7:Rd ((w5.setCell ⟨w.heap.size+1,0,none⟩ (.string v)).setCell ⟨g,3,none⟩ (.int .i64 er)) g A n c p' pv er:=heap_setCell_same _ _ 3 _ _ (.int .i64 er) hR6;have hR8:Rd WD g A n c p' pv er:=by rw [hWD];exact (heap_setCell_other _ _ _ _ hne3).trans hR7
 have hC6:(w5.setCell ⟨w.heap.size+1,0,none⟩ (.string v)).heap[w.heap.size+1]? =some (.cells #[.string v] 9 (0,0)):=heap_setCell_same _ _ 0 _ _ (.string v) HC5.out
 have hC8:WD.heap[w.heap.size+1]? =some (.cells #[.string v] 9 (0,0)):=by
  rw [hWD];exact heap_setCell_same _ _ 0 _ _ (.string v) ((heap_setCell_other _ _ _ _ hne4).trans hC6)
 have HBD:Hid (But (fun k=>k=g) w WD):=by
  have h1:But (fun k=>k=g) w w5:=(But.of_below (p:=fun k=>k=g) HB3.out).trans (q:=fun k=>k=g) HB5.out (fun i hi=> .inl hi);rw [hWD];exact ((h1.setCell (.inr yaP) _).setCell (.inl rfl) _).setCell (.inr yaP) _
 clear hWD;refine leaves_cons (f:=253) (args:=#[.pointer (some ⟨w.heap.size+1+1,0,none⟩),.pointer (some ⟨w.heap.size,0,none⟩),.pointer (some ⟨w.heap.size+1,0,none⟩)]) sI (by simp [go_sem]) ?_;refine (closed_S _ _ _ g A n c p' p pv er v _ HDD HAD hC8 hR8 hgw om om).mono ?_;rintro e u' w9 ⟨rfl,rfl,hR9,hC9,hB9⟩;have hC9':=cell_of_row w9 (w.heap.size+1) 0 _ _ _ hC9.out;have hfin:RPs g A n c p v er p' w (.returned (.string (if er=0 then v else baNo))) w9:=⟨rfl,hR9.out,HBD.out.trans hB9.out (fun i hi=>by rcases hi with rfl |rfl;exact .inl rfl;exact .inr om)⟩;refine ⟨.string (if er=0 then v else baNo),?_,hfin⟩;obtain ⟨z,hz⟩:∃z:ByteArray,(if er=0 then v else baNo)=z:=⟨_,rfl⟩
 rw [hz] at hC9' ⊢;simp at hC9';simp [results,go_sem,hC9']
 done
theorem readI_err (fv:Value) (g:Nat) (A:Option Addr) (n c p:Nat) (pv er:Int) (w:World) (hr:Rd w g A n c p pv er) (he:er≠0):
 Calls Tryz.prog 192 #[.pointer (some ⟨g,0,none⟩),fv] w fun e w'=>e= .returned (.int .i64 0)∧Rd w' g A n c p pv er∧Below w.heap.size w w':=by
 have heb:(er != 0)=true:=by simp [he]
 have c3:=cell_of_row w g 3 _ _ _ hr;simp at c3;have HR:=lh hr;have hgw:g < w.heap.size:=lt_of_block hr;clear hr he
 go_enter_defers Tryz.func192,Tryz.ntmps192
 go_wp2;obtain ⟨W2,hW2⟩:∃W2:World,W2=(w.alloc (.cells #[.pointer (some ⟨g,0,none⟩)] 144)).alloc (.cells #[.int .i64 0] 3):=⟨_,rfl⟩
 have hb2:Below w.heap.size w W2:=by rw [hW2];exact bl.alloc sI _
 have hc2:W2.heap[w.heap.size+1]? =some (.cells #[.int .i64 0] 3 (0,0)):=by
  rw [hW2]
  have:=heap_alloc_new (w.alloc (.cells #[.pointer (some ⟨g,0,none⟩)] 144)) (.cells #[.int .i64 0] 3)
  simpa using this
 rw [←hW2];have hd9:=cell_of_row _ (w.heap.size+1) 0 _ _ _ hc2;simp at hd9;refine ⟨.int .i64 0,?_,rfl,(hb2.block g hgw).trans HR.out,hb2⟩;simp [results,go_sem,hd9]
theorem readS_err (fv:Value) (g:Nat) (A:Option Addr) (n c p:Nat) (pv er:Int) (w:World) (hr:Rd w g A n c p pv er) (he:er≠0):
 Calls Tryz.prog 214 #[.pointer (some ⟨g,0,none⟩),fv] w fun e w'=>e= .returned (.string ⟨#[]⟩)∧Rd w' g A n c p pv er∧Below w.heap.size w w':=by
 have heb:(er != 0)=true:=by simp [he]
 have c3:=cell_of_row w g 3 _ _ _ hr;simp at c3;have HR:=lh hr;have hgw:g < w.heap.size:=lt_of_block hr;clear hr he
 go_enter_defers Tryz.func214,Tryz.ntmps214
 go_wp2;obtain ⟨W2,hW2⟩:∃W2:World,W2=(w.alloc (.cells #[.pointer (some ⟨g,0,none⟩)] 144)).alloc (.cells #[.string ⟨#[]⟩] 9):=⟨_,rfl⟩
 have hb2:Below w.heap.size w W2:=by rw [hW2];exact bl.alloc sI _
 have hc2:W2.heap[w.heap.size+1]? =some (.cells #[.string ⟨#[]⟩] 9 (0,0)):=by
  rw [hW2]
  have:=heap_alloc_new (w.alloc (.cells #[.pointer (some ⟨g,0,none⟩)] 144)) (.cells #[.string ⟨#[]⟩] 9)
  simpa using this
 rw [←hW2];have hd9:=cell_of_row _ (w.heap.size+1) 0 _ _ _ hc2;simp at hd9;refine ⟨.string ⟨#[]⟩,?_,rfl,(hb2.block g hgw).trans HR.out,hb2⟩;simp [results,go_sem,hd9]
theorem rsum_ok (g:Nat) (A:Option Addr) (n c p:Nat) (pv:Int) (bs:List Int) (w:World) (hr:Rd w g A n c p pv 0) (hx:Sl fB w g A n bs) (hb:∀b∈bs,0≤b∧b < 256) (hp:p≤n) (hn:n≤1000000) (hnc:n≤c):
 Calls Tryz.prog 172 #[.pointer (some ⟨g,0,none⟩)] w (RPs g A n c p (tkF bs 32 p).1 (tkF bs 32 p).2.1 (tkF bs 32 p).2.2 w):=by
 have hmf:∀(fn:Fn) (first cap:Array Value) (w:World),(Instr.makeFunc fn first cap).run Tryz.prog w= .ok (.func fn first cap) w:=fun _ _ _ _=>rfl
 obtain ⟨W2,hW2⟩:∃W2:World,W2=w.alloc (.cells #[.pointer (some ⟨g,0,none⟩)] 144):=⟨_,rfl⟩
 have hgw:g < w.heap.size:=lt_of_block hr;have hb2:Below w.heap.size w W2:=by rw [hW2];exact bl
 have hA2:W2.heap[w.heap.size]? =some (.cells #[.pointer (some ⟨g,0,none⟩)] 144 (0,0)):=by
  rw [hW2];exact heap_alloc_new w _
 have HC:=lh (readSm w.heap.size g A n c p pv bs W2 hA2 ((hb2.block g hgw).trans hr) (hx.up hb2 (Nat.le_of_lt hgw)) hb hp hn hnc);have HB2:=lh hb2;rw [hW2] at HC HB2;obtain ⟨v,er,p',hN⟩:∃v er p',tkF bs 32 p=(v,er,p'):=⟨_,_,_,rfl⟩
 rw [hN] at HC ⊢;clear hr hx hb hN hA2 hb2 hW2;go_enter Tryz.func172,Tryz.ntmps172
 go_wp2_with (go_at_call 214;refine HC.out.mono ?_;rintro e w1 ⟨he,h1,h2⟩;have H1:=lh h1;have H2:=lh h2;obtain ⟨z,hz⟩:∃z,(if er=0 then v else baNo)=z:=⟨_,rfl⟩;rw [hz] at he;have HZ:=lh hz;clear hz h1 h2;subst he)
 go_ret;exact ⟨by rw [HZ.out];rfl,H1.out,(But.of_below (p:=fun k=>k=g) HB2.out).trans (q:=fun k=>k=g) H2.out (fun i hi=> .inl hi)⟩
theorem rcount_err (g:Nat) (A:Option Addr) (n c p m:Nat) (pv er:Int) (w:World) (hr:Rd w g A n c p pv er) (he:er≠0):
 Calls Tryz.prog 141 #[.pointer (some ⟨g,0,none⟩),.int .i64 m] w fun e w'=>e= .returned (.int .i64 0)∧Rd w' g A n c p pv er∧Below w.heap.size w w':=by
 have hmf:∀(fn:Fn) (first cap:Array Value) (w:World),(Instr.makeFunc fn first cap).run Tryz.prog w= .ok (.func fn first cap) w:=fun _ _ _ _=>rfl
 obtain ⟨W2,hW2⟩:∃W2:World,W2=(w.alloc (.cells #[.pointer (some ⟨g,0,none⟩)] 144)).alloc (.cells #[.int .i64 m] 3):=⟨_,rfl⟩
 have hgw:g < w.heap.size:=lt_of_block hr;have hb2:Below w.heap.size w W2:=by rw [hW2];exact bl.alloc sI _
 have HC:=lh (fun fv=>readI_err fv g A n c p pv er W2 ((hb2.block g hgw).trans hr) he);have HB2:=lh hb2;have HW2:=lh hW2;clear hr he hb2 hW2;go_enter Tryz.func141,Tryz.ntmps141
 go_wp2_with fail
 rw [←HW2.out];refine (HC.out _).mono ?_;rintro e w1 ⟨rfl,h1,h2⟩;have H1:=lh h1;have H2:=lh h2;clear h1 h2
 go_wp2_with fail
 go_ret;exact ⟨rfl,H1.out,HB2.out.trans (H2.out.mono HB2.out.size)⟩
theorem rsum_err (g:Nat) (A:Option Addr) (n c p:Nat) (pv er:Int) (w:World) (hr:Rd w g A n c p pv er) (he:er≠0):
 Calls Tryz.prog 172 #[.pointer (some ⟨g,0,none⟩)] w fun e w'=>e= .returned (.string ⟨#[]⟩)∧Rd w' g A n c p pv er∧Below w.heap.size w w':=by
 have hmf:∀(fn:Fn) (first cap:Array Value) (w:World),(Instr.makeFunc fn first cap).run Tryz.prog w= .ok (.func fn first cap) w:=fun _ _ _ _=>rfl
 obtain ⟨W2,hW2⟩:∃W2:World,W2=w.alloc (.cells #[.pointer (some ⟨g,0,none⟩)] 144):=⟨_,rfl⟩
 have hgw:g < w.heap.size:=lt_of_block hr;have hb2:Below w.heap.size w W2:=by rw [hW2];exact bl
 have HC:=lh (fun fv=>readS_err fv g A n c p pv er W2 ((hb2.block g hgw).trans hr) he);have HB2:=lh hb2;have HW2:=lh hW2;clear hr he hb2 hW2;go_enter Tryz.func172,Tryz.ntmps172
 go_wp2_with fail
 rw [←HW2.out];refine (HC.out _).mono ?_;rintro e w1 ⟨rfl,h1,h2⟩;have H1:=lh h1;have H2:=lh h2;clear h1 h2
 go_wp2_with fail
 go_ret;exact ⟨rfl,H1.out,HB2.out.trans (H2.out.mono HB2.out.size)⟩
theorem left_any (g:Nat) (A:Option Addr) (n c p:Nat) (pv er:Int) (w:World) (hr:Rd w g A n c p pv er) (hp:p≤n) (hn:n≤1000000):
 Calls Tryz.prog 83 #[.pointer (some ⟨g,0,none⟩)] w fun e w'=>e= .returned (.int .i64 ((n - p:Nat):Int))∧Below w.heap.size w w':=by
 have c0:=cell_of_row w g 0 _ _ _ hr;have c1:=cell_of_row w g 1 _ _ _ hr;simp at c0 c1;have he:((n - p:Nat):Int)=(n:Int) - (p:Int):=by omega
 rw [he];clear hr he;go_enter Tryz.func83,Tryz.ntmps83;go_wp2
 go_quiet (fail)
 go_wp2;go_ret;exact ⟨rfl,below_drewN br _⟩
def RK (bs:List Int) (n c:Nat):Prop:=(∀b∈bs,0≤b∧b < 256)∧n≤1000000∧n≤c
def RdS (g:Nat) (A:Option Addr) (n c:Nat) (bs:List Int) (s:RS) (w:World):Prop:=(∃pv,Rd w g A n c s.1 pv s.2)∧Sl fB w g A n bs
def RPost (g:Nat) (A:Option Addr) (n c:Nat) (bs:List Int) (v:Value) (s:RS) (w:World) (e:Ending) (w':World):Prop:=e= .returned v∧RdS g A n c bs s w'∧But (fun k=>k=g) w w'
theorem RdS.len {g:Nat} {A:Option Addr} {n c:Nat} {bs:List Int} {s:RS} {w:World} (h:RdS g A n c bs s w):bs.length=n:=h.2.1
theorem RdS.lt {g:Nat} {A:Option Addr} {n c:Nat} {bs:List Int} {s:RS} {w:World} (h:RdS g A n c bs s w):g < w.heap.size:=by
 obtain ⟨⟨pv,h1⟩,_⟩:=h;exact lt_of_block h1
theorem RdS.on {g:Nat} {A:Option Addr} {n c:Nat} {bs:List Int} {s:RS} {w w':World} (h:RdS g A n c bs s w) (hb:Below w.heap.size w w'):RdS g A n c bs s w':=by
 have hl:=h.lt;obtain ⟨⟨pv,h1⟩,h2⟩:=h;exact ⟨⟨pv,(hb.block g hl).trans h1⟩,h2.up hb (Nat.le_of_lt hl)⟩
theorem RdS.but {g:Nat} {A:Option Addr} {n c:Nat} {bs:List Int} {s:RS} {w w':World} {p:Nat→Prop} (h:RdS g A n c bs s w) (hb:But p w w') (hp:∀k,k≤g→¬p k):RdS g A n c bs s w':=by
 have hl:=h.lt;obtain ⟨⟨pv,h1⟩,h2⟩:=h;refine ⟨⟨pv,(hb.block g hl (hp g nl)).trans h1⟩,h2.1,fun hn=>?_⟩;obtain ⟨b,off,e,hlt,hc⟩:=h2.2 hn;exact ⟨b,off,e,hlt,hc.keep (hb.block b (Nat.lt_trans hlt hl) (hp b (Nat.le_of_lt hlt)))⟩
theorem rU_le {bs:List Int} {s:RS} {n:Nat} (hl:bs.length=n) (h:s.1≤n):(rU bs s).2.1≤n:=rV_le h (by rw [←hl];exact numF_le bs 10 0 0 s.1 om)
theorem rC_le {bs:List Int} {s:RS} {m n:Nat} (hl:bs.length=n) (h:s.1≤n):(rC bs m s).2.1≤n:=rV_le h (by rw [ydh,←hl];exact numF_le bs 10 0 0 s.1 om)
theorem tkF_le {bs:List Int} {k p n:Nat} (hl:bs.length=n) (h:p≤n):(tkF bs k p).2.2≤n:=by
 rw [tkF_eq]
 split
 ·exact h
 ·next h1=>show p+k≤n;omega
theorem rS_le {bs:List Int} {s:RS} {n:Nat} (hl:bs.length=n) (h:s.1≤n):(rS bs s).2.1≤n:=rV_le h (tkF_le hl h)
theorem ru_any (g:Nat) (A:Option Addr) (n c:Nat) (bs:List Int) (s:RS) (w:World) (hr:RdS g A n c bs s w) (hk:RK bs n c) (hp:s.1≤n):
 Calls Tryz.prog 82 #[.pointer (some ⟨g,0,none⟩)] w (RPost g A n c bs (.int .u64 (rU bs s).1) (rU bs s).2 w):=by
 obtain ⟨⟨pv,h1⟩,h2⟩:=hr;obtain ⟨p,er⟩:=s;have hgl:=Nat.le_of_lt (lt_of_block h1)
 by_cases h0:er=0
 ·subst h0
  refine (ydE g A n c p pv bs w h1 h2 hk.1 hp hk.2.1).mono ?_;rintro e w' ⟨rfl,k1,k2⟩;have hx:=h2.butg k2 hgl;unfold rU;simp only [rV,if_true] at k1 ⊢
  split
  ·next hz=>
   rw [if_pos hz] at k1;rw [hz] at k1
   skip
   exact ⟨rfl,⟨⟨_,k1⟩,hx⟩,k2⟩
  ·next hz=>
   rw [if_neg hz] at k1;exact ⟨rfl,⟨⟨_,k1⟩,hx⟩,k2⟩
 ·refine (ruint_err g A n c p pv er w h1 h0).mono ?_
  rintro e w' ⟨rfl,k1,k2⟩;unfold rU;simp only [rV,h0,if_false];exact ⟨rfl,⟨⟨pv,k1⟩,h2.butg (But.of_below k2) hgl⟩,But.of_below k2⟩
theorem rc_any (g:Nat) (A:Option Addr) (n c:Nat) (bs:List Int) (s:RS) (m:Nat) (hm:m≤1000000) (w:World) (hr:RdS g A n c bs s w) (hk:RK bs n c) (hp:s.1≤n):
 Calls Tryz.prog 141 #[.pointer (some ⟨g,0,none⟩),.int .i64 m] w (RPost g A n c bs (.int .i64 (rC bs m s).1) (rC bs m s).2 w):=by
 obtain ⟨⟨pv,h1⟩,h2⟩:=hr;obtain ⟨p,er⟩:=s;have hgl:=Nat.le_of_lt (lt_of_block h1)
 by_cases h0:er=0
 ·subst h0
  refine (rcount_ok g A n c p m pv bs w h1 h2 hk.1 hp hk.2.1 hm).mono ?_;rintro e w' ⟨rfl,k1,k2⟩;have hx:=h2.butg k2 hgl;unfold rC;simp only [rV,if_true] at k1 ⊢
  split
  ·next hz=>
   rw [if_pos hz] at k1;rw [hz] at k1
   skip
   exact ⟨rfl,⟨⟨_,k1⟩,hx⟩,k2⟩
  ·next hz=>
   rw [if_neg hz] at k1;exact ⟨rfl,⟨⟨_,k1⟩,hx⟩,k2⟩
 ·refine (rcount_err g A n c p m pv er w h1 h0).mono ?_
  rintro e w' ⟨rfl,k1,k2⟩;unfold rC;simp only [rV,h0,if_false];exact ⟨rfl,⟨⟨pv,k1⟩,h2.butg (But.of_below k2) hgl⟩,But.of_below k2⟩
theorem rs_any (g:Nat) (A:Option Addr) (n c:Nat) (bs:List Int) (s:RS) (w:World) (hr:RdS g A n c bs s w) (hk:RK bs n c) (hp:s.1≤n):
 Calls Tryz.prog 172 #[.pointer (some ⟨g,0,none⟩)] w (RPost g A n c bs (.string (rS bs s).1) (rS bs s).2 w):=by
 obtain ⟨⟨pv,h1⟩,h2⟩:=hr;obtain ⟨p,er⟩:=s;have hgl:=Nat.le_of_lt (lt_of_block h1)
 by_cases h0:er=0
 ·subst h0
  refine (rsum_ok g A n c p pv bs w h1 h2 hk.1 hp hk.2.1 hk.2.2).mono ?_;rintro e w' ⟨rfl,k1,k2⟩;have hx:=h2.butg k2 hgl;unfold rS;simp only [rV,if_true] at k1 ⊢
  split
  ·next hz=>
   rw [if_pos hz] at k1;rw [hz] at k1
   skip
   exact ⟨rfl,⟨⟨_,k1⟩,hx⟩,k2⟩
  ·next hz=>
   rw [if_neg hz] at k1;exact ⟨rfl,⟨⟨_,k1⟩,hx⟩,k2⟩
 ·refine (rsum_err g A n c p pv er w h1 h0).mono ?_
  rintro e w' ⟨rfl,k1,k2⟩;unfold rS;simp only [rV,h0,if_false];exact ⟨rfl,⟨⟨pv,k1⟩,h2.butg (But.of_below k2) hgl⟩,But.of_below k2⟩
theorem Own.low {w:World} {base base':Nat} {e:TypeId} {v:Value} {bs:List Int} (h:Own fB e w base v bs) (hb:base'≤base):Own fB e w base' v bs:=World.ownsRow.mono h hb
theorem closed_Y (s rb rs g:Nat) (A:Option Addr) (n c p:Nat) (st:Nat) (pv er:Int) (v:Value) (w:World) (hs:w.heap[s]? =some (.cells #[.int .i64 st] 3 (0,0))) (hrb:w.heap[rb]? =some (.cells #[.pointer (some ⟨g,0,none⟩)] 144 (0,0))) (hrs:w.heap[rs]? =some (.cells #[v] 40 (0,0))) (hr:Rd w g A n c p pv er) (h1:g < rb) (h2:rb < rs) (h3:rs < s):
 CallsD Tryz.prog 252 #[.pointer (some ⟨s,0,none⟩),.pointer (some ⟨rb,0,none⟩),.pointer (some ⟨rs,0,none⟩)] .returning w fun e u' w'=>u'= .returning∧(e= .returned (.tuple #[])∧Hid (Rd w' g A n c (if er=0 then p else st) st er)∧Hid (w'.heap[rs]? =some (.cells #[(if er=0 then v else .slice none 0 0)] 40 (0,0)))∧Hid (But (fun k=>k=g∨k=rs) w w')):=by
 have HR:=lh hr;have HS:=lh hs;have HRB:=lh hrb;have HRS:=lh hrs;have c1:=cell_of_row w g 1 _ _ _ hr;have c2:=cell_of_row w g 2 _ _ _ hr;have c3:=cell_of_row w g 3 _ _ _ hr;have cs:=cell_of_row w s 0 _ _ _ hs;have cb:=cell_of_row w rb 0 _ _ _ hrb;have cr:=cell_of_row w rs 0 _ _ _ hrs;have f1:=frozen_of_row w g 1 _ _ hr;have f2:=frozen_of_row w g 2 _ _ hr;have fr:=frozen_of_row w rs 0 _ _ hrs;simp at c1 c2 c3 cs cb cr;have n1:¬g=rb:=by omega
 have n2:¬g=rs:=by omega
 have n3:¬g=s:=by omega
 have n4:¬rb=rs:=by omega
 have n5:¬rs=s:=by omega
 have n6:¬rb=s:=by omega
 have HG2:Hid (Rd (w.setCell ⟨g,2,none⟩ (.int .i64 st)) g A n c p st er):=heap_setCell_same w _ 2 _ _ (.int .i64 st) hr;have HG21:Hid (Rd ((w.setCell ⟨g,2,none⟩ (.int .i64 st)).setCell ⟨g,1,none⟩ (.int .i64 st)) g A n c st st er):=heap_setCell_same _ _ 1 _ _ (.int .i64 st) HG2.out;have HN2:Hid ((w.setCell ⟨g,2,none⟩ (.int .i64 st)).heap[rs]? =some (.cells #[v] 40 (0,0))):=(heap_setCell_other w _ _ _ (fun e=>n2 e.symm)).trans hrs;have HN21:Hid (((w.setCell ⟨g,2,none⟩ (.int .i64 st)).setCell ⟨g,1,none⟩ (.int .i64 st)).heap[rs]? =some (.cells #[v] 40 (0,0))):=(heap_setCell_other _ _ _ _ (fun e=>n2 e.symm)).trans HN2.out;have HRR:Hid (Rd (((w.setCell ⟨g,2,none⟩ (.int .i64 st)).setCell ⟨g,1,none⟩ (.int .i64 st)).setCell ⟨rs,0,none⟩ (.slice none 0 0)) g A n c st st er):=(heap_setCell_other _ _ _ _ n2).trans HG21.out;have HRV:Hid ((((w.setCell ⟨g,2,none⟩ (.int .i64 st)).setCell ⟨g,1,none⟩ (.int .i64 st)).setCell ⟨rs,0,none⟩ (.slice none 0 0)).heap[rs]? =some (.cells #[.slice none 0 0] 40 (0,0))):=heap_setCell_same _ _ 0 _ _ (.slice none 0 0) HN21.out;have HB:Hid (But (fun k=>k=g∨k=rs) w (w.setCell ⟨g,2,none⟩ (.int .i64 st))):=(But.refl _ _).setCell (.inl (.inl rfl)) _;have HB3:Hid (But (fun k=>k=g∨k=rs) w (((w.setCell ⟨g,2,none⟩ (.int .i64 st)).setCell ⟨g,1,none⟩ (.int .i64 st)).setCell ⟨rs,0,none⟩ (.slice none 0 0))):=(HB.out.setCell (.inl (.inl rfl)) _).setCell (.inl (.inr rfl)) _;clear hs hrb hrs hr h1 h2 h3
 by_cases he:er=0
 ·have heb:(er != 0)=false:=by simp [he]
  have H1:Hid ((if er=0 then p else st)=p):=if_pos he;have H2:Hid ((if er=0 then v else Value.slice none 0 0)=v):=if_pos he;rw [H1.out,H2.out];clear he
  go_enter_d Tryz.func252,Tryz.ntmps252
  go_wp2
  go_end0
  exact ⟨rfl,HG2,HN2,HB⟩
 ·have heb:(er != 0)=true:=by simp [he]
  have H1:Hid ((if er=0 then p else st)=st):=if_neg he;have H2:Hid ((if er=0 then v else Value.slice none 0 0)=Value.slice none 0 0):=if_neg he;rw [H1.out,H2.out];clear he
  go_enter_d Tryz.func252,Tryz.ntmps252
  go_wp2
  go_end0
  exact ⟨rfl,HRR,HRV,HB3⟩
theorem bytesc_any (a b g:Nat) (A:Option Addr) (n c p m:Nat) (pv er0:Int) (bs:List Int) (w:World) (ha:w.heap[a]? =some (.cells #[.pointer (some ⟨g,0,none⟩)] 144 (0,0))) (hbk:w.heap[b]? =some (.cells #[.int .i64 m] 3 (0,0))) (hr:Rd w g A n c p pv er0) (hx:Sl fB w g A n bs) (hb:∀b∈bs,0≤b∧b < 256) (hp:p≤n) (hn:n≤1000000) (hm:m≤1000000) (hnc:n≤c):
 Calls Tryz.prog 212 #[.pointer (some ⟨a,0,none⟩),.pointer (some ⟨b,0,none⟩)] w fun e w'=>∃A5 k5 c5,e= .returned (.tuple #[.slice A5 k5 c5,.int .i64 (blkL bs m p).2.1])∧Own fB 5 w' w.heap.size (.slice A5 k5 c5) (blkL bs m p).1∧Rd w' g A n c (blkL bs m p).2.2 pv er0∧But (fun k=>k=g) w w':=by
 obtain ⟨i0,hi,hz0,hz1,hz2⟩:=info_parts Tryz.infoB;have HI:=lh hi;have HZ0:=lh hz0;have HZ1:=lh hz1;have HZ2:=lh hz2;have HC:=lh (block_any g A n c p m pv er0 bs w hr hx hb hp hn hm hnc);have hgw:Hid (g < w.heap.size):=lt_of_block hr;have ca:=cell_of_row w a 0 _ _ _ ha;have cb:=cell_of_row w b 0 _ _ _ hbk;simp at ca cb
 have hbl:(blkL bs m p).1.length≤1000000:=by
  have hlen:=hx.1
  have htk:∀k q,(tkL bs k q).1.length≤1000000:=fun k q=>by
   unfold tkL
   split
   ·simp
   ·simp only [List.length_take,List.length_drop];omega
  unfold blkL
  split
  ·exact htk _ _
  ·simp
 obtain ⟨xs,er,p',hN⟩:∃v er p',blkL bs m p=(v,er,p'):=⟨_,_,_,rfl⟩
 rw [hN] at HC hbl ⊢;have HBL:=lh hbl;clear hr hx hb hN ha hbk hi hz0 hz1 hz2 hbl;go_enter Tryz.func212,Tryz.ntmps212
 go_wp2_with fail
 refine HC.out.mono ?_;rintro e w1 ⟨A',k,c',rfl,h0,h1,h2⟩;have H0:Hid (Sl fB w1 w1.heap.size A' k xs):=h0.more' (Nat.le_trans (Nat.le_of_lt hgw.out) h2.size);have H1:=lh h1;have H2:=lh h2;have HON:Hid (Own fB 5 w1 w.heap.size (.slice none 0 0) []):=Own.nil;have HL1:Hid ((([]:List Int).length+xs.length)*1≤140737488355328):=by show _≤_;have:=HBL.out;simp only [List.length_nil];omega
 have HL2:Hid (([]:List Int).length+xs.length≤maxLen):=by show _≤_;have:=HBL.out;simp only [List.length_nil];unfold maxLen;omega
 have HSz:Hid (w.heap.size≤w1.heap.size):=h2.size;clear h0 h1 h2
 go_wp2_with (at_builtin;(with_reducible refine ya8 (o:=⟨some 13,_,_,_,_,_⟩) rfl (.const (.slice none 0 0)) (.tmp 12) 40 rfl 5 i0 (.int .u8 0) 1 Tryz.underlying40 HI.out HZ0.out HZ1.out HZ2.out rfl _ [] w.heap.size rfl HON.out _ _ _ w1.heap.size xs rfl H0.out fB1 HL1.out HL2.out HSz.out ?_);intro v2 w2 HO2 HG2 HV2)
 go_ret2;obtain ⟨A5,c5,hv5,_,_,_⟩:=HO2.out.shape;have HB12:But (fun k=>k=g) w1 w2:=But.of_below (yaY HG2.out (fun k hk=>by cases hk) nl);refine ⟨A5,_,c5,by rw [←hv5];rfl,?_,?_,H2.out.trans HB12 (fun i hi=> .inl hi)⟩
 ·rw [←hv5];exact HO2.out
 ·exact (HB12.block g (Nat.lt_of_lt_of_le hgw.out HSz.out) |> fun h=>by
   have h3:w2.heap[g]? =w1.heap[g]? :=HG2.out.block g (Nat.lt_of_lt_of_le hgw.out HSz.out) (fun e=>by cases e)
   exact h3.trans H1.out)
def RPy (g:Nat) (A:Option Addr) (n c p:Nat) (xs:List Int) (er:Int) (p':Nat) (w:World) (e:Ending) (w':World):Prop:=
 ∃A5 k5 c5,e= .returned (.slice A5 k5 c5)∧Own fB 5 w' w.heap.size (.slice A5 k5 c5) (if er=0 then xs else [])∧Rd w' g A n c (if er=0 then p' else p) p er∧But (fun k=>k=g) w w'
theorem readY (a b m g:Nat) (A:Option Addr) (n c p:Nat) (pv:Int) (bs:List Int) (w:World) (ha:w.heap[a]? =some (.cells #[.pointer (some ⟨g,0,none⟩)] 144 (0,0))) (hbk:w.heap[b]? =some (.cells #[.int .i64 m] 3 (0,0))) (hm:m≤1000000) (hr:Rd w g A n c p pv 0) (hx:Sl fB w g A n bs) (hb:∀b∈bs,0≤b∧b < 256) (hp:p≤n) (hn:n≤1000000) (hnc:n≤c):
 Calls Tryz.prog 211 #[.pointer (some ⟨g,0,none⟩),.func (.func 212) #[] #[.pointer (some ⟨a,0,none⟩),.pointer (some ⟨b,0,none⟩)]] w (RPy g A n c p (blkL bs m p).1 (blkL bs m p).2.1 (blkL bs m p).2.2 w):=by
 have HR:=lh hr;have hgw:g < w.heap.size:=lt_of_block hr;have hmf:∀(fn:Fn) (first cap:Array Value) (w:World),(Instr.makeFunc fn first cap).run Tryz.prog w= .ok (.func fn first cap) w:=fun _ _ _ _=>rfl
 have c1:=cell_of_row w g 1 _ _ _ hr;have c3:=cell_of_row w g 3 _ _ _ hr;have f3:=frozen_of_row w g 3 _ _ hr;simp at c1 c3;obtain ⟨xs,er,p',hN⟩:∃v er p',blkL bs m p=(v,er,p'):=⟨_,_,_,rfl⟩
 have cN:Hid (∀W,Rd W g A n c p pv 0→Sl fB W g A n bs→W.heap[a]? =some (.cells #[.pointer (some ⟨g,0,none⟩)] 144 (0,0))→W.heap[b]? =some (.cells #[.int .i64 m] 3 (0,0))→Calls Tryz.prog 212 #[.pointer (some ⟨a,0,none⟩),.pointer (some ⟨b,0,none⟩)] W fun e w'=>∃A5 k5 c5,e= .returned (.tuple #[.slice A5 k5 c5,.int .i64 er])∧Own fB 5 w' W.heap.size (.slice A5 k5 c5) xs∧Rd w' g A n c p' pv 0∧But (fun k=>k=g) W w'):=fun W h1 h2 h3 h4=>by
  have:=bytesc_any a b g A n c p m pv 0 bs W h3 h4 h1 h2 hb hp hn hm hnc
  rw [hN] at this;exact this
 rw [hN];have HX:=lh hx;have HAA:=lh ha;have HBB:=lh hbk;clear hr hx hb hN ha hbk
 go_enter_defers Tryz.func211,Tryz.ntmps211
 go_wp2;obtain ⟨W3,hW3⟩:∃W3:World,W3=((w.alloc (.cells #[.pointer (some ⟨g,0,none⟩)] 144)).alloc (.cells #[.slice none 0 0] 40)).alloc (.cells #[.int .i64 p] 3):=⟨_,rfl⟩
 rw [←hW3];have HB3:Hid (Below w.heap.size w W3):=by rw [hW3];exact (bl.alloc sI _).alloc yaW _
 have hs3:W3.heap.size=w.heap.size+1+1+1:=by rw [hW3];simp
 have HA3:Hid (W3.heap[w.heap.size]? =some (.cells #[.pointer (some ⟨g,0,none⟩)] 144 (0,0))):=by
  show _=_
  rw [hW3,Below.heap_alloc _ _ _ yaW,Below.heap_alloc _ _ _ sI];exact heap_alloc_new w _
 have HC3:Hid (W3.heap[w.heap.size+1]? =some (.cells #[.slice none 0 0] 40 (0,0))):=by
  show _=_
  rw [hW3,Below.heap_alloc _ _ _ sI]
  have:=heap_alloc_new (w.alloc (.cells #[.pointer (some ⟨g,0,none⟩)] 144)) (.cells #[.slice none 0 0] 40)
  simpa using this
 have HD3:Hid (W3.heap[w.heap.size+1+1]? =some (.cells #[.int .i64 p] 3 (0,0))):=by
  show _=_
  rw [hW3]
  have:=heap_alloc_new ((w.alloc (.cells #[.pointer (some ⟨g,0,none⟩)] 144)).alloc (.cells #[.slice none 0 0] 40)) (.cells #[.int .i64 p] 3)
  simpa using this
 have HR3:Hid (Rd W3 g A n c p pv 0):=(HB3.out.block g hgw).trans HR.out;have HX3:Hid (Sl fB W3 g A n bs):=HX.out.up HB3.out (Nat.le_of_lt hgw);have HAA3:Hid (W3.heap[a]? =some (.cells #[.pointer (some ⟨g,0,none⟩)] 144 (0,0))):=(HB3.out.block a (lt_of_block HAA.out)).trans HAA.out;have HBB3:Hid (W3.heap[b]? =some (.cells #[.int .i64 m] 3 (0,0))):=(HB3.out.block b (lt_of_block HBB.out)).trans HBB.out;have cA:=cell_of_row W3 w.heap.size 0 _ _ _ HA3.out;simp at cA;clear hW3 c1 c3 f3;have hne1:¬g=w.heap.size:=by omega
 have hne2:¬w.heap.size=g:=by omega
 have hne3:¬g=w.heap.size+1:=by omega
 have hne4:¬w.heap.size+1=g:=by omega
 go_region_held3 (fun w'=>w'.cell? ⟨w.heap.size,0,none⟩=some (.pointer (some ⟨g,0,none⟩))) (first |go_keep |exact cA5) (first |(go_at_call 212;(refine (cN.out W3.drew HR3.out HX3.out HAA3.out HBB3.out).mono ?_);(rintro e w5 ⟨A5,k5,c5,rfl,hO5,hR5,hb5⟩);(have HO5:=lh hO5);(have HR5:=lh hR5);(have HB5:Hid (But (fun k=>k=g) W3 w5):=⟨hb5.os,hb5.tape,hb5.output,hb5.size,hb5.block⟩);(have HA5:Hid (w5.heap[w.heap.size]? =some (.cells #[.pointer (some ⟨g,0,none⟩)] 144 (0,0))):=(hb5.block w.heap.size yaO om).trans HA3.out);(have HC5:Hid (w5.heap[w.heap.size+1]? =some (.cells #[.slice none 0 0] 40 (0,0))):=(hb5.block (w.heap.size+1) yaO om).trans HC3.out);(have cA5:=cell_of_row w5 w.heap.size 0 _ _ _ HA5.out);(simp at cA5);(have cC5:=cell_of_row w5 (w.heap.size+1) 0 _ _ _ HC5.out);(have cG5:=cell_of_row w5 g 3 _ _ _ hR5);(simp at cC5 cG5);(have f5r:=frozen_of_row w5 (w.heap.size+1) 0 _ _ HC5.out);(have f5g:=frozen_of_row w5 g 3 _ _ hR5);(clear hb5 hR5 hO5)))
 go_wp2;have HD5:Hid (w5.heap[w.heap.size+1+1]? =some (.cells #[.int .i64 p] 3 (0,0))):=(HB5.out.block (w.heap.size+1+1) om om).trans HD3.out;obtain ⟨WD,hWD⟩:∃WD:World,WD=((w5.setCell ⟨w.heap.size+1,0,none⟩ (.slice A5 k5 c5)).setCell ⟨g,3,none⟩ (.int .i64 er)).setCell ⟨w.heap.size+1,0,none⟩ (.slice A5 k5 c5):=⟨_,rfl⟩
 rw [←hWD]
 have o1:∀k,k≠w.heap.size+1→k≠g→WD.heap[k]? =w5.heap[k]? :=fun k h1 h2=>by
  rw [hWD];exact (heap_setCell_other _ _ _ _ h1).trans ((heap_setCell_other _ _ _ _ h2).trans (heap_setCell_other _ _ _ _ h1))
 have HAD:WD.heap[w.heap.size]? =some (.cells #[.pointer (some ⟨g,0,none⟩)] 144 (0,0)):=(o1 _ om om).trans HA5.out;have HDD:WD.heap[w.heap.size+1+1]? =some (.cells #[.int .i64 p] 3 (0,0)):=(o1 _ om om).trans HD5.out;have hR6:Rd (w5.setCell ⟨w.heap.size+1,0,none⟩ (.slice A5 k5 c5)) g A n c p' pv 0:=(heap_setCell_other _ _ _ _ hne3).trans HR5.out;have hR7:Rd ((w5.setCell ⟨w.heap.size+1,0,none⟩ (.slice A5 k5 c5)).setCell ⟨g,3,none⟩ (.int .i64 er)) g A n c p' pv er:=heap_setCell_same _ _ 3 _ _ (.int .i64 er) hR6;have hR8:Rd WD g A n c p' pv er:=by rw [hWD];exact (heap_setCell_other _ _ _ _ hne3).trans hR7
 have hC6:(w5.setCell ⟨w.heap.size+1,0,none⟩ (.slice A5 k5 c5)).heap[w.heap.size+1]? =some (.cells #[.slice A5 k5 c5] 40 (0,0)):=heap_setCell_same _ _ 0 _ _ (.slice A5 k5 c5) HC5.out
 have hC8:WD.heap[w.heap.size+1]? =some (.cells #[.slice A5 k5 c5] 40 (0,0)):=by
  rw [hWD];exact heap_setCell_same _ _ 0 _ _ (.slice A5 k5 c5) ((heap_setCell_other _ _ _ _ hne4).trans hC6)
 have HBD:Hid (But (fun k=>k=g) w WD):=by
  have h1:But (fun k=>k=g) w w5:=(But.of_below (p:=fun k=>k=g) HB3.out).trans (q:=fun k=>k=g) HB5.out (fun i hi=> .inl hi);rw [hWD];exact ((h1.setCell (.inr yaP) _).setCell (.inl rfl) _).setCell (.inr yaP) _
 have hWDk:=hWD;clear hWD;refine leaves_cons (f:=252) (args:=#[.pointer (some ⟨w.heap.size+1+1,0,none⟩),.pointer (some ⟨w.heap.size,0,none⟩),.pointer (some ⟨w.heap.size+1,0,none⟩)]) sI (by simp [go_sem]) ?_
 have HOD:Hid (Own fB 5 WD w.heap.size (.slice A5 k5 c5) xs):=by
  have hl:=HO5.out.low (base':=w.heap.size+1+1+1) (by show _≤W3.drew.heap.size;exact Nat.le_of_eq hs3.symm);have hx:=World.ownsRow.lt hl;refine Own.low (base:=w.heap.size+1+1+1) ?_ om;rw [hWDk];have b1:But (fun k=>k=g∨k=w.heap.size+1) w5 (w5.setCell ⟨w.heap.size+1,0,none⟩ (.slice A5 k5 c5)):=(But.refl _ _).setCell (.inl (.inr rfl)) _;have b2:=b1.setCell (x:=⟨g,3,none⟩) (.inl (.inl rfl)) (.int .i64 er);have b3:=b2.setCell (x:=⟨w.heap.size+1,0,none⟩) (.inl (.inr rfl)) (.slice A5 k5 c5);exact hl.but b3 (fun k hk h=>by have:=(hx k hk).1;rcases h with rfl |rfl<;>omega)
 refine (closed_Y _ _ _ g A n c p' p pv er (.slice A5 k5 c5) _ HDD HAD hC8 hR8 hgw om om).mono ?_;rintro e u' w9 ⟨rfl,rfl,hR9,hC9,hB9⟩;have hC9':=cell_of_row w9 (w.heap.size+1) 0 _ _ _ hC9.out;have hB9':But (fun k=>k=g) w w9:=HBD.out.trans hB9.out (fun i hi=>by rcases hi with rfl |rfl;exact .inl rfl;exact .inr om)
 have hO9:Own fB 5 w9 w.heap.size (.slice A5 k5 c5) xs:=by
  have hl:=HO5.out.low (base':=w.heap.size+1+1+1) (by show _≤W3.drew.heap.size;exact Nat.le_of_eq hs3.symm);have hx:=World.ownsRow.lt hl;exact HOD.out.but hB9.out (fun k hk h=>by have:=(hx k hk).1;rcases h with rfl |rfl<;>omega)
 by_cases h0:er=0
 ·rw [if_pos h0] at hC9'
  refine ⟨.slice A5 k5 c5,?_,⟨A5,k5,c5,rfl,by rw [if_pos h0];exact hO9,hR9.out,hB9'⟩⟩;simp at hC9';simp [results,go_sem,hC9']
  done
 ·rw [if_neg h0] at hC9'
  refine ⟨.slice none 0 0,?_,⟨none,0,0,rfl,by rw [if_neg h0];exact Own.nil,hR9.out,hB9'⟩⟩;simp at hC9';simp [results,go_sem,hC9']
  done
theorem readY_err (fv:Value) (g:Nat) (A:Option Addr) (n c p:Nat) (pv er:Int) (w:World) (hr:Rd w g A n c p pv er) (he:er≠0):
 Calls Tryz.prog 211 #[.pointer (some ⟨g,0,none⟩),fv] w fun e w'=>e= .returned (.slice none 0 0)∧Rd w' g A n c p pv er∧Below w.heap.size w w':=by
 have heb:(er != 0)=true:=by simp [he]
 have c3:=cell_of_row w g 3 _ _ _ hr;simp at c3;have HR:=lh hr;have hgw:g < w.heap.size:=lt_of_block hr;clear hr he
 go_enter_defers Tryz.func211,Tryz.ntmps211
 go_wp2;obtain ⟨W2,hW2⟩:∃W2:World,W2=(w.alloc (.cells #[.pointer (some ⟨g,0,none⟩)] 144)).alloc (.cells #[.slice none 0 0] 40):=⟨_,rfl⟩
 have hb2:Below w.heap.size w W2:=by rw [hW2];exact bl.alloc sI _
 have hc2:W2.heap[w.heap.size+1]? =some (.cells #[.slice none 0 0] 40 (0,0)):=by
  rw [hW2]
  have:=heap_alloc_new (w.alloc (.cells #[.pointer (some ⟨g,0,none⟩)] 144)) (.cells #[.slice none 0 0] 40)
  simpa using this
 rw [←hW2];have hd9:=cell_of_row _ (w.heap.size+1) 0 _ _ _ hc2;simp at hd9;refine ⟨.slice none 0 0,?_,rfl,(hb2.block g hgw).trans HR.out,hb2⟩;simp [results,go_sem,hd9]
theorem rbytes_ok (g:Nat) (A:Option Addr) (n c p m:Nat) (pv:Int) (bs:List Int) (w:World) (hr:Rd w g A n c p pv 0) (hx:Sl fB w g A n bs) (hb:∀b∈bs,0≤b∧b < 256) (hp:p≤n) (hn:n≤1000000) (hm:m≤1000000) (hnc:n≤c):
 Calls Tryz.prog 171 #[.pointer (some ⟨g,0,none⟩),.int .i64 m] w (RPy g A n c p (blkL bs m p).1 (blkL bs m p).2.1 (blkL bs m p).2.2 w):=by
 have hmf:∀(fn:Fn) (first cap:Array Value) (w:World),(Instr.makeFunc fn first cap).run Tryz.prog w= .ok (.func fn first cap) w:=fun _ _ _ _=>rfl
 obtain ⟨W2,hW2⟩:∃W2:World,W2=(w.alloc (.cells #[.pointer (some ⟨g,0,none⟩)] 144)).alloc (.cells #[.int .i64 m] 3):=⟨_,rfl⟩
 have hgw:g < w.heap.size:=lt_of_block hr;have hb2:Below w.heap.size w W2:=by rw [hW2];exact bl.alloc sI _
 have hA2:W2.heap[w.heap.size]? =some (.cells #[.pointer (some ⟨g,0,none⟩)] 144 (0,0)):=by
  rw [hW2,Below.heap_alloc _ _ _ sI];exact heap_alloc_new w _
 have hB2:W2.heap[w.heap.size+1]? =some (.cells #[.int .i64 m] 3 (0,0)):=by
  rw [hW2]
  have:=heap_alloc_new (w.alloc (.cells #[.pointer (some ⟨g,0,none⟩)] 144)) (.cells #[.int .i64 m] 3)
  simpa using this
 have HC:=lh (readY w.heap.size (w.heap.size+1) m g A n c p pv bs W2 hA2 hB2 hm ((hb2.block g hgw).trans hr) (hx.up hb2 (Nat.le_of_lt hgw)) hb hp hn hnc);have HB2:=lh hb2;rw [hW2] at HC HB2;obtain ⟨v,er,p',hN⟩:∃v er p',blkL bs m p=(v,er,p'):=⟨_,_,_,rfl⟩
 rw [hN] at HC ⊢;clear hr hx hb hN hA2 hB2 hb2 hW2;go_enter Tryz.func171,Tryz.ntmps171
 go_wp2_with (go_at_call 211;refine HC.out.mono ?_;rintro e w1 ⟨A5,k5,c5,rfl,h0,h1,h2⟩;have H0:=lh h0;have H1:=lh h1;have H2:=lh h2;clear h0 h1 h2)
 go_ret;exact ⟨A5,k5,c5,rfl,H0.out.low HB2.out.size,H1.out,(But.of_below (p:=fun k=>k=g) HB2.out).trans (q:=fun k=>k=g) H2.out (fun i hi=> .inl hi)⟩
theorem rbytes_err (g:Nat) (A:Option Addr) (n c p m:Nat) (pv er:Int) (w:World) (hr:Rd w g A n c p pv er) (he:er≠0):
 Calls Tryz.prog 171 #[.pointer (some ⟨g,0,none⟩),.int .i64 m] w fun e w'=>e= .returned (.slice none 0 0)∧Rd w' g A n c p pv er∧Below w.heap.size w w':=by
 have hmf:∀(fn:Fn) (first cap:Array Value) (w:World),(Instr.makeFunc fn first cap).run Tryz.prog w= .ok (.func fn first cap) w:=fun _ _ _ _=>rfl
 obtain ⟨W2,hW2⟩:∃W2:World,W2=(w.alloc (.cells #[.pointer (some ⟨g,0,none⟩)] 144)).alloc (.cells #[.int .i64 m] 3):=⟨_,rfl⟩
 have hgw:g < w.heap.size:=lt_of_block hr;have hb2:Below w.heap.size w W2:=by rw [hW2];exact bl.alloc sI _
 have HC:=lh (fun fv=>readY_err fv g A n c p pv er W2 ((hb2.block g hgw).trans hr) he);have HB2:=lh hb2;have HW2:=lh hW2;clear hr he hb2 hW2;go_enter Tryz.func171,Tryz.ntmps171
 go_wp2_with fail
 rw [←HW2.out];refine (HC.out _).mono ?_;rintro e w1 ⟨rfl,h1,h2⟩;have H1:=lh h1;have H2:=lh h2;clear h1 h2
 go_wp2_with fail
 go_ret;exact ⟨rfl,H1.out,HB2.out.trans (H2.out.mono HB2.out.size)⟩
def rY (bs:List Int) (m:Nat) (s:RS):List Int × RS:=rV s [] (blkL bs m s.1)
def RYPost (g:Nat) (A:Option Addr) (n c:Nat) (bs:List Int) (xs:List Int) (s:RS) (w:World) (e:Ending) (w':World):Prop:=
 ∃A5 k5 c5,e= .returned (.slice A5 k5 c5)∧Own fB 5 w' w.heap.size (.slice A5 k5 c5) xs∧RdS g A n c bs s w'∧But (fun k=>k=g) w w'
theorem tkL_le {bs:List Int} {k p n:Nat} (hl:bs.length=n) (h:p≤n):(tkL bs k p).2.2≤n:=tkF_le (k:=k) hl h
theorem rY_le {bs:List Int} {s:RS} {m n:Nat} (hl:bs.length=n) (h:s.1≤n):(rY bs m s).2.1≤n:=rV_le h (by
 have hq:(limF m (numF bs 10 0 0 s.1)).2.2≤n:=by rw [ydh,←hl];exact numF_le bs 10 0 0 s.1 om
 unfold blkL
 split
 ·exact tkL_le hl hq
 ·exact hq)
theorem ry_any (g:Nat) (A:Option Addr) (n c:Nat) (bs:List Int) (s:RS) (m:Nat) (hm:m≤1000000) (w:World) (hr:RdS g A n c bs s w) (hk:RK bs n c) (hp:s.1≤n):
 Calls Tryz.prog 171 #[.pointer (some ⟨g,0,none⟩),.int .i64 m] w (RYPost g A n c bs (rY bs m s).1 (rY bs m s).2 w):=by
 obtain ⟨⟨pv,h1⟩,h2⟩:=hr;obtain ⟨p,er⟩:=s;have hgl:=Nat.le_of_lt (lt_of_block h1)
 by_cases h0:er=0
 ·subst h0
  refine (rbytes_ok g A n c p m pv bs w h1 h2 hk.1 hp hk.2.1 hm hk.2.2).mono ?_;rintro e w' ⟨A5,k5,c5,rfl,k0,k1,k2⟩;have hx:=h2.butg k2 hgl;unfold rY;simp only [rV,if_true] at k0 k1 ⊢
  split
  ·next hz=>
   rw [if_pos hz] at k0 k1;rw [hz] at k1;exact ⟨A5,k5,c5,rfl,k0,⟨⟨_,k1⟩,hx⟩,k2⟩
  ·next hz=>
   rw [if_neg hz] at k0 k1;exact ⟨A5,k5,c5,rfl,k0,⟨⟨_,k1⟩,hx⟩,k2⟩
 ·refine (rbytes_err g A n c p m pv er w h1 h0).mono ?_
  rintro e w' ⟨rfl,k1,k2⟩;unfold rY;simp only [rV,h0,if_false];exact ⟨none,0,0,rfl,Own.nil,⟨⟨pv,k1⟩,h2.butg (But.of_below k2) hgl⟩,But.of_below k2⟩
def AtL (bs:List Int) (p:Nat) (xs:List Int):Prop:=∀j,j < xs.length→bs[p+j]? =xs[j]?
theorem AtL.nil {bs:List Int} {p:Nat}:AtL bs p []:=fun j hj=>absurd hj sI
theorem AtL.left {bs:List Int} {p:Nat} {xs ys:List Int} (h:AtL bs p (xs++ys)):AtL bs p xs:=fun j hj=>by
 rw [h j (by rw [List.length_append];omega),List.getElem?_append_left hj]
theorem AtL.right {bs:List Int} {p:Nat} {xs ys:List Int} (h:AtL bs p (xs++ys)):AtL bs (p+xs.length) ys:=fun j hj=>by
 have:=h (xs.length+j) (by rw [List.length_append];omega)
 rw [List.getElem?_append_right om,Nat.add_sub_cancel_left,←Nat.add_assoc] at this;exact this
theorem AtL.app {bs:List Int} {p:Nat} {xs ys:List Int} (h1:AtL bs p xs) (h2:AtL bs (p+xs.length) ys):AtL bs p (xs++ys):=fun j hj=>by
 rcases Nat.lt_or_ge j xs.length with h |h
 ·rw [List.getElem?_append_left h];exact h1 j h
 ·rw [List.getElem?_append_right h,←h2 (j - xs.length) (by rw [List.length_append] at hj;omega)]
  congr 1;omega
theorem AtL.all {bs xs:List Int} (h:AtL bs 0 xs) (hl:xs.length=bs.length):xs=bs:=by
 apply List.ext_getElem?;intro j;rcases Nat.lt_or_ge j xs.length with h1 |h1
 ·have:=h j h1;rw [Nat.zero_add] at this;exact this.symm
 ·rw [List.getElem?_eq_none h1,List.getElem?_eq_none om]
theorem AtL.self (bs:List Int):AtL bs 0 bs:=fun j _=>by rw [Nat.zero_add]
def Ok (bs:List Int) (s s':RS) (xs:List Int):Prop:=s'.1=s.1+xs.length∧AtL bs s.1 xs
theorem Ok.refl (bs:List Int) (s:RS):Ok bs s s []:=⟨rfl,AtL.nil⟩
theorem Ok.trans {bs:List Int} {s s' s'':RS} {xs ys:List Int} (h:Ok bs s s' xs) (k:Ok bs s' s'' ys):Ok bs s s'' (xs++ys):=
 ⟨by rw [k.1,h.1,List.length_append,Nat.add_assoc],h.2.app (by have:=k.2;rwa [h.1] at this)⟩
section
variable {bs:List Int} (hb:∀b∈bs,0≤b∧b < 256)
include hb
theorem num_only {p q:Nat} {v:Int} (h:numF bs 10 0 0 p=(v,0,q)):∃n:Nat,v=n∧n < 18446744073709551616∧q=p+(enc n).length∧AtL bs p (enc n):=by
 obtain ⟨n,e1,e2,e3,_,_,e6⟩:=numF_only bs hb 10 0 0 p q v rfl h;simp only [Nat.pow_zero,Nat.mul_one,Nat.zero_add] at e1 e6;exact ⟨n,e1,e6,e2,e3⟩
theorem rU_only {s:RS} (h:(rU bs s).2.2=0):s.2=0∧∃n:Nat,(rU bs s).1=n∧n < 18446744073709551616∧Ok bs s (rU bs s).2 (enc n):=by
 obtain ⟨h1,h2,h3⟩:=rV_ok h;refine ⟨h1,?_⟩;unfold rU;rw [h3];exact num_only hb (show numF bs 10 0 0 s.1=(_,0,_) by rw [←h2])
end
section
variable {bs:List Int}
theorem num_rt {p n:Nat} (h:AtL bs p (enc n)) (hn:n < 18446744073709551616):numF bs 10 0 0 p=((n:Int),0,p+(enc n).length):=by
 have:=ydG bs 10 n 0 0 p om om om h (.inl rfl) om
 simpa [enc] using this
theorem rU_rt {p n:Nat} (h:AtL bs p (enc n)) (hn:n < 18446744073709551616):rU bs (p,0)=((n:Int),p+(enc n).length,0):=rV_go (num_rt h hn)
theorem lim_rt {p n m:Nat} (h:AtL bs p (enc n)) (hn:n≤m) (hm:m≤1000000):limF m (numF bs 10 0 0 p)=((n:Int),0,p+(enc n).length):=by
 rw [num_rt h om];unfold limF;simp only [if_true];rw [if_neg om]
theorem rC_rt {p n m:Nat} (h:AtL bs p (enc n)) (hn:n≤m) (hm:m≤1000000):rC bs m (p,0)=((n:Int),p+(enc n).length,0):=rV_go (lim_rt h hn hm)
theorem ba_eq {a b:ByteArray} (h:sB a=sB b):a=b:=by
 obtain ⟨⟨x⟩⟩:=a;obtain ⟨⟨y⟩⟩:=b;unfold sB at h;simp only at h
 congr 2
 exact List.map_inj_right (f:=fun b:UInt8=>(b.toNat:Int)) (fun u v huv=>by
  have:u.toNat=v.toNat:=by omega
  exact UInt8.toNat_inj.1 this) |>.1 h
theorem AtL.cut {p:Nat} {xs:List Int} (h:AtL bs p xs):(bs.drop p).take xs.length=xs:=by
 apply List.ext_getElem?;intro j;rw [List.getElem?_take]
 split
 ·next hj=>rw [List.getElem?_drop];exact h j hj
 ·next hj=>rw [List.getElem?_eq_none om]
theorem AtL.fits {p:Nat} {xs:List Int} (h:AtL bs p xs) (h0:0 < xs.length):p+xs.length≤bs.length:=by
 rcases Nat.lt_or_ge bs.length (p+xs.length) with hlt |hlt
 ·have:=h (xs.length - 1) om
  rw [List.getElem?_eq_none om,List.getElem?_eq_getElem om] at this
  cases this
 ·exact hlt
theorem baOf_of (s:ByteArray):baOf (sB s)=s:=ba_eq (ybi (ybr s))
theorem tk_rt {p:Nat} {s:ByteArray} (h:AtL bs p (sB s)) (h0:0 < s.size):tkF bs s.size p=(s,0,p+s.size):=by
 have hl:=ya9 s;have hf:=h.fits om;rw [tkF_eq,if_neg om]
 congr 1
 have hc:=h.cut;rw [hl] at hc;rw [hc,baOf_of]
theorem rS_rt {p:Nat} {s:ByteArray} (h:AtL bs p (sB s)) (h0:s.size=32):rS bs (p,0)=(s,p+(sB s).length,0):=by
 have:=tk_rt h om
 rw [h0] at this;rw [ya9,h0];exact rV_go this
end
