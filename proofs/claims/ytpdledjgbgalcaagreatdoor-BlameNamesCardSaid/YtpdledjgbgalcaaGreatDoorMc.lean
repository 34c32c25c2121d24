import Derived.Test.YtpdledjgbgalcaaGreatDoorMb
import Derived.Deep.Onto
namespace Go.Proofs.YtpdledjgbgalcaaGreatDoor
set_option maxRecDepth 20000
set_option maxHeartbeats 1000000
open Go.RowKit Go.Lib Go.Proofs.Tryz
set_option linter.unusedVariables false
set_option linter.unusedSimpArgs false
def tkL (bs:List Int) (n p:Nat):List Int × Int × Nat:=if bs.length < p+n then ([],3,p) else ((bs.drop p).take n,0,p+n)
def tkF (bs:List Int) (n p:Nat):ByteArray × Int × Nat:=(baOf (tkL bs n p).1,(tkL bs n p).2)
def blkL (bs:List Int) (m p:Nat):List Int × Int × Nat:=
 if (limF m (numF bs 10 0 0 p)).2.1=0 then tkL bs (limF m (numF bs 10 0 0 p)).1.toNat (limF m (numF bs 10 0 0 p)).2.2 else ([],(limF m (numF bs 10 0 0 p)).2.1,(limF m (numF bs 10 0 0 p)).2.2)
def blkF (bs:List Int) (m p:Nat):ByteArray × Int × Nat:=(baOf (blkL bs m p).1,(blkL bs m p).2)
theorem tkF_eq (bs:List Int) (n p:Nat):tkF bs n p=if bs.length < p+n then (baNo,3,p) else (baOf ((bs.drop p).take n),0,p+n):=by
 unfold tkF tkL
 split<;>rfl
theorem blkF_eq (bs:List Int) (m p:Nat):blkF bs m p=if (limF m (numF bs 10 0 0 p)).2.1=0 then tkF bs (limF m (numF bs 10 0 0 p)).1.toNat (limF m (numF bs 10 0 0 p)).2.2 else (baNo,(limF m (numF bs 10 0 0 p)).2.1,(limF m (numF bs 10 0 0 p)).2.2):=by
 unfold blkF blkL
 split<;>rfl
abbrev RS:=Nat × Int
def rV {α:Type} (s:RS) (z:α) (N:α × Int × Nat):α × RS:=if s.2=0 then (if N.2.1=0 then (N.1,N.2.2,0) else (z,s.1,N.2.1)) else (z,s)
def rU (bs:List Int) (s:RS):Int × RS:=rV s 0 (numF bs 10 0 0 s.1)
def rC (bs:List Int) (m:Nat) (s:RS):Int × RS:=rV s 0 (limF m (numF bs 10 0 0 s.1))
def rT (bs:List Int) (m:Nat) (s:RS):ByteArray × RS:=rV s baNo (blkF bs m s.1)
def rS (bs:List Int) (s:RS):ByteArray × RS:=rV s baNo (tkF bs 32 s.1)
theorem rV_ok {α:Type} {s:RS} {z:α} {N:α × Int × Nat} (h:(rV s z N).2.2=0):s.2=0/\N.2.1=0/\rV s z N=(N.1,N.2.2,0):=by
 unfold rV at h ⊢
 by_cases h1:s.2=0
 ·by_cases h2:N.2.1=0
  ·exact ⟨h1,h2,by rw [if_pos h1,if_pos h2]⟩
  ·rw [if_pos h1,if_neg h2] at h;exact absurd h h2
 ·rw [if_neg h1] at h;exact absurd h h1
theorem rV_go {α:Type} {p:Nat} {z:α} {N:α × Int × Nat} {v:α} {q:Nat} (h:N=(v,0,q)):rV (p,0) z N=(v,q,0):=by unfold rV;rw [h];rfl
theorem rV_le {α:Type} {s:RS} {z:α} {N:α × Int × Nat} {n:Nat} (h:s.1<=n) (hN:N.2.2<=n):(rV s z N).2.1<=n:=by
 unfold rV
 split
 ·split
  ·exact hN
  ·exact h
 ·exact h
open Go.RowKit
theorem closed_S (s H rs g:Nat) (A:Option Addr) (n c p:Nat) (st:Nat) (pv er:Int) (v:ByteArray) (w:World) (hs:w.heap[s]? =some (.cells #[.int .i64 st] 3 (0,0))) (K:w.heap[H]? =some (.cells #[.pointer (some ⟨g,0,none⟩)] 144 (0,0))) (G:w.heap[rs]? =some (.cells #[.string v] 9 (0,0))) (hr:Rd w g A n c p pv er) (h1:g < H) (h2:H < rs) (h3:rs < s):
 CallsD prog 253 #[.pointer (some ⟨s,0,none⟩),.pointer (some ⟨H,0,none⟩),.pointer (some ⟨rs,0,none⟩)] .returning w fun e u' N=>u'= .returning/\(e= .returned (.tuple #[])/\Hid (Rd N g A n c (if er=0 then p else st) st er)/\Hid (N.heap[rs]? =some (.cells #[.string (if er=0 then v else baNo)] 9 (0,0)))/\Hid (But (fun k=>k=g∨k=rs) w N)):=by
 have HR:=lh hr;have HS:=lh hs;have ae:=lh K;have af:=lh G;have c1:=zz w g 1 _ _ _ hr;have c2:=zz w g 2 _ _ _ hr;have c3:=zz w g 3 _ _ _ hr;have cs:=zz w s 0 _ _ _ hs;have cb:=zz w H 0 _ _ _ K;have cr:=zz w rs 0 _ _ _ G;have f1:=frozen_of_row w g 1 _ _ hr;have f2:=frozen_of_row w g 2 _ _ hr;have fr:=frozen_of_row w rs 0 _ _ G;simp at c1 c2 c3 cs cb cr;have n1:¬g=H:=by omega
 have Y:¬g=rs:=by omega
 have n3:¬g=s:=by omega
 have n4:¬H=rs:=by omega
 have n5:¬rs=s:=by omega
 have n6:¬H=s:=by omega
 have M:Hid (Rd (w.setCell ⟨g,2,none⟩ (.int .i64 st)) g A n c p st er):=heap_setCell_same w _ 2 _ _ (.int .i64 st) hr;have U:Hid (Rd ((w.setCell ⟨g,2,none⟩ (.int .i64 st)).setCell ⟨g,1,none⟩ (.int .i64 st)) g A n c st st er):=heap_setCell_same _ _ 1 _ _ (.int .i64 st) M.out;have L:Hid ((w.setCell ⟨g,2,none⟩ (.int .i64 st)).heap[rs]? =some (.cells #[.string v] 9 (0,0))):=(heap_setCell_other w _ _ _ (fun e=>Y e.symm)).trans G;have W:Hid (((w.setCell ⟨g,2,none⟩ (.int .i64 st)).setCell ⟨g,1,none⟩ (.int .i64 st)).heap[rs]? =some (.cells #[.string v] 9 (0,0))):=(heap_setCell_other _ _ _ _ (fun e=>Y e.symm)).trans L.out;have aa:Hid (Rd (((w.setCell ⟨g,2,none⟩ (.int .i64 st)).setCell ⟨g,1,none⟩ (.int .i64 st)).setCell ⟨rs,0,none⟩ (.string baNo)) g A n c st st er):=(heap_setCell_other _ _ _ _ Y).trans U.out;have ac:Hid ((((w.setCell ⟨g,2,none⟩ (.int .i64 st)).setCell ⟨g,1,none⟩ (.int .i64 st)).setCell ⟨rs,0,none⟩ (.string baNo)).heap[rs]? =some (.cells #[.string baNo] 9 (0,0))):=heap_setCell_same _ _ 0 _ _ (.string baNo) W.out;have HB:Hid (But (fun k=>k=g∨k=rs) w (w.setCell ⟨g,2,none⟩ (.int .i64 st))):=(But.refl _ _).setCell (.inl (.inl rfl)) _;have z:Hid (But (fun k=>k=g∨k=rs) w (((w.setCell ⟨g,2,none⟩ (.int .i64 st)).setCell ⟨g,1,none⟩ (.int .i64 st)).setCell ⟨rs,0,none⟩ (.string baNo))):=(HB.out.setCell (.inl (.inl rfl)) _).setCell (.inl (.inr rfl)) _;clear hs K G hr h1 h2 h3
 by_cases J:er=0
 ·have Z:(er != 0)=false:=by simp [J]
  have O:Hid ((if er=0 then p else st)=p):=if_pos J;have T:Hid ((if er=0 then v else baNo)=v):=if_pos J;rw [O.out,T.out];clear J
  go_enter_d func253,ntmps253
  go_wp2
  go_end0
  exact ⟨rfl,M,L,HB⟩
 ·have Z:(er != 0)=true:=by simp [J]
  have O:Hid ((if er=0 then p else st)=st):=if_neg J;have T:Hid ((if er=0 then v else baNo)=baNo):=if_neg J;rw [O.out,T.out];clear J
  go_enter_d func253,ntmps253
  go_wp2
  go_end0
  exact ⟨rfl,aa,ac,z⟩
theorem ydj (bs:List Int):∀(k G i p:Nat),p<=bs.length->(numF bs k G i p).2.2<=bs.length
 |0,_,_,_,h=>h
 |k+1,G,i,p,h=>by
  rw [numF]
  cases H:bs[p]? with
  |none=>exact h
  |some b=>
   have hp:=(List.getElem?_eq_some_iff.1 H).1;simp only []
   split
   ·exact ydj bs k _ _ _ hp
   ·split
    ·exact hp
    ·exact hp
theorem yc8 (m:Nat) (N:Int × Int × Nat):(limF m N).2.2=N.2.2:=by
 unfold limF
 split
 ·split<;>rfl
 ·rfl
theorem ycT {P:Program} (t e:Nat) (i:TypeInfo) (ht:P.underlying t=some (.slice e)) (hi:P.info? e=some i) (hs:i.size=1) (A:Option Addr) (n c:Nat) (l h:Nat) (h1:l<=h) (h2:h<=c) (w:World):
 (Instr.slice t (.slice A n c) (some (.int .i64 (l:Int))) (some (.int .i64 (h:Int))) none).run P w= .ok (.slice (if c=l then A else A.map (·.add l)) (h - l) (c - l)) w:=by
 simp [Instr.slice,run_underlying ht,Instr.sliceBounds,run_sliceBound w .i64 (h:Int) c _ om om,run_sliceBound w .i64 (l:Int) h _ om om,sizeOf,typeInfo,hi,hs]
theorem Sl.butg {f:Int->Value} {w G:World} {g n:Nat} {A:Option Addr} {xs:List Int} (h:Sl f w g A n xs) (J:But (fun k=>k=g) w G) (L:g<=w.heap.size):Sl f G g A n xs:=⟨h.1,fun hn=>by
 obtain ⟨b,H,e,hlt,K⟩:=h.2 hn
 exact ⟨b,H,e,hlt,K.keep (J.block b om om)⟩⟩
theorem Sl.part {f:Int->Value} {w:World} {B n c:Nat} {A:Option Addr} {xs:List Int} (h:Sl f w B A n xs) (l k:Nat) (hl:l+k<=n) (G:n<=c):Sl f w B (if c=l then A else A.map (·.add l)) k ((xs.drop l).take k):=by
 have h1:=h.1;refine ⟨by rw [List.length_take,List.length_drop];omega,?_⟩;exact ((h.2.cut (n:=l) (cap:=c) om).take_ k)
theorem take_any (g:Nat) (A:Option Addr) (n c p k:Nat) (N H:Int) (bs:List Int) (w:World) (hr:Rd w g A n c p N H) (T:Sl fB w g A n bs) (hp:p<=n) (hn:n<=1000000) (hk:k<=1000000) (Y:n<=c):
 Calls prog 216 #[.pointer (some ⟨g,0,none⟩),.int .i64 k] w fun e O=>∃G m c',e= .returned (.tuple #[.slice G m c',.int .i64 (tkL bs k p).2.1])/\Sl fB O g G m (tkL bs k p).1/\Rd O g A n c (tkL bs k p).2.2 N H/\But (fun k=>k=g) w O:=by
 have c0:=zz w g 0 _ _ _ hr;have c1:=zz w g 1 _ _ _ hr;have f1:=frozen_of_row w g 1 _ _ hr;simp at c0 c1;have HR:=lh hr;have HX:=lh T;have aa:=T.1;clear hr T
 by_cases hlt:bs.length < p+k
 ·have M:Hid (tkL bs k p=([],3,p)):=by show _=_;unfold tkL;rw [if_pos hlt]
  have hd:decide ((n:Int) - (p:Int) < (k:Int))=true:=by simp;omega
  have W:(n:Int) - (p:Int) < (k:Int):=by omega
  rw [M.out];clear hlt;go_enter func216,ntmps216;go_wp2;go_quiet (fail);go_wp2;go_ret2;exact ⟨none,0,0,rfl,⟨rfl,SL.nil⟩,HR.out,(But.refl _ _).drewN _⟩
 ·have M:Hid (tkL bs k p=((bs.drop p).take k,0,p+k)):=by show _=_;unfold tkL;rw [if_neg hlt]
  have hd:decide ((n:Int) - (p:Int) < (k:Int))=false:=by simp;omega
  have W:¬(n:Int) - (p:Int) < (k:Int):=by omega
  obtain ⟨z,hi,_,Z,_⟩:=info_parts Tryz.infoB;have L:=ycT (P:=prog) 40 5 z underlying40 hi Z A n c p (p+k) om om;rw [show ((p+k:Nat):Int)=(p:Int)+(k:Int) by omega,show p+k - p=k by omega] at L;obtain ⟨G,J⟩:∃G,(if c=p then A else A.map (·.add p))=G:=⟨_,rfl⟩
  have HP:Hid (Sl fB w g G k ((bs.drop p).take k)):=J▸HX.out.part p k om Y
  have U:Hid (∀q,Rd ((w.drewN q).setCell ⟨g,1,none⟩ (.int .i64 ((p:Int)+(k:Int)))) g A n c (p+k) N H):=fun q=>by
   show _=_;rw [show ((p+k:Nat):Int)=(p:Int)+k by omega];exact heap_setCell_same (w.drewN q) _ _ _ _ _ HR.out
  have K:Hid (∀q,But (fun k=>k=g) w ((w.drewN q).setCell ⟨g,1,none⟩ (.int .i64 ((p:Int)+(k:Int))))):=fun q=>But.setCell (p:=fun k=>k=g) (x:=⟨g,1,none⟩) ((But.refl _ _).drewN q) (.inl rfl) _;have HGL:Hid (g<=w.heap.size):=Nat.le_of_lt (lb HR.out);rw [J] at L;rw [M.out];clear hlt J;go_enter func216,ntmps216;go_wp2;go_quiet (fail);go_wp2;go_quiet (fail);go_wp2;go_ret2;exact ⟨G,k,c - p,rfl,HP.out.butg (K.out _) HGL.out,U.out _,K.out _⟩
theorem block_any (g:Nat) (A:Option Addr) (n c p m:Nat) (L G:Int) (bs:List Int) (w:World) (hr:Rd w g A n c p L G) (N:Sl fB w g A n bs) (hb:∀b∈bs,0<=b/\b < 256) (hp:p<=n) (hn:n<=1000000) (hm:m<=1000000) (aa:n<=c):
 Calls prog 213 #[.pointer (some ⟨g,0,none⟩),.int .i64 m] w fun e T=>∃M k U,e= .returned (.tuple #[.slice M k U,.int .i64 (blkL bs m p).2.1])/\Sl fB T g M k (blkL bs m p).1/\Rd T g A n c (blkL bs m p).2.2 L G/\But (fun k=>k=g) w T:=by
 have HC:=lh (limited_any g A n c p m L G bs w hr N hb hp hn hm);have HX:=lh N;have HGL:Hid (g<=w.heap.size):=Nat.le_of_lt (lb hr);have J:=ybY bs 10 0 0 p;have W:=N.1;have H:(numF bs 10 0 0 p).2.2<=n:=by rw [<-W];exact ydj bs 10 0 0 p om
 have O:=yc8 m (numF bs 10 0 0 p)
 have K:(limF m (numF bs 10 0 0 p)).2.1=0->0<=(limF m (numF bs 10 0 0 p)).1/\(limF m (numF bs 10 0 0 p)).1<=m:=by
  intro h;unfold limF at h ⊢
  split
  ·next h1=>
   split
   ·next h2=>exact ⟨Int.le_refl _,Int.natCast_nonneg _⟩
   ·next h2=>exact ⟨J,by omega⟩
  ·exact ⟨Int.le_refl _,Int.natCast_nonneg _⟩
 have HB:Hid (blkL bs m p=if (limF m (numF bs 10 0 0 p)).2.1=0 then tkL bs (limF m (numF bs 10 0 0 p)).1.toNat (limF m (numF bs 10 0 0 p)).2.2 else ([],(limF m (numF bs 10 0 0 p)).2.1,(limF m (numF bs 10 0 0 p)).2.2)):=rfl;rw [<-O] at H;obtain ⟨v,er,z,hN⟩:∃v er z,limF m (numF bs 10 0 0 p)=(v,er,z):=⟨_,_,_,rfl⟩
 rw [hN] at HC HB H K;simp only at H K;rw [HB.out];clear hr N hb hN O J HB
 by_cases Z:er=0
 ·subst Z;obtain ⟨J,ac⟩:=K rfl;obtain ⟨k,rfl⟩:∃k:Nat,v=k:=⟨v.toNat,by omega⟩
  simp only [if_true,Int.toNat_natCast];go_enter func213,ntmps213;go_wp2_with fail;refine HC.out.mono ?_;rintro e w1 ⟨rfl,h1,h2⟩;have HK:=lh (take_any g A n c z k L G bs w1 h1 (HX.out.butg h2 HGL.out) H hn om aa);have Y:=lh h2;clear h1 h2;go_wp2_with fail;refine HK.out.mono ?_;rintro e w2 ⟨M,j,U,rfl,k1,k2,k3⟩;have K1:=lh k1;have K2:=lh k2;have K3:=lh k3;clear k1 k2 k3;go_wp2_with fail;go_ret2;exact ⟨M,j,U,rfl,K1.out,K2.out,Y.out.trans K3.out (fun i hi=> .inl hi)⟩
 ·have ae:(er != 0)=true:=by simp [Z]
  simp only [Z,if_false];go_enter func213,ntmps213;go_wp2_with fail;refine HC.out.mono ?_;rintro e w1 ⟨rfl,h1,h2⟩;have H1:=lh h1;have Y:=lh h2;clear h1 h2;go_wp2_with fail;go_ret2;exact ⟨none,0,0,rfl,⟨rfl,SL.nil⟩,H1.out,Y.out⟩
theorem sumc_any (a g:Nat) (A:Option Addr) (n c p:Nat) (J G:Int) (bs:List Int) (w:World) (ha:w.heap[a]? =some (.cells #[.pointer (some ⟨g,0,none⟩)] 144 (0,0))) (hr:Rd w g A n c p J G) (W:Sl fB w g A n bs) (hb:∀b∈bs,0<=b/\b < 256) (hp:p<=n) (hn:n<=1000000) (M:n<=c):
 Calls prog 215 #[.pointer (some ⟨a,0,none⟩)] w fun e K=>e= .returned (.tuple #[.string (tkF bs 32 p).1,.int .i64 (tkF bs 32 p).2.1])/\Rd K g A n c (tkF bs 32 p).2.2 J G/\But (fun k=>k=g) w K:=by
 have HC:=lh (take_any g A n c p 32 J G bs w hr W hp hn de M);have HB:Hid (tkF bs 32 p=(baOf (tkL bs 32 p).1,(tkL bs 32 p).2)):=rfl;have z:=zz w a 0 _ _ _ ha;simp at z;rw [HB.out];obtain ⟨xs,er,N,U⟩:∃v er N,tkL bs 32 p=(v,er,N):=⟨_,_,_,rfl⟩
 rw [U] at HC ⊢;clear hr W hb U ha HB;go_enter func215,ntmps215;go_wp2_with fail;refine HC.out.mono ?_;rintro e w1 ⟨L,k,O,rfl,h0,h1,h2⟩;obtain ⟨z0,H⟩:∃s,s=baOf xs:=⟨_,rfl⟩
 have T:=lh H
 have aa:(convert 40 9 (.slice L k O)).run prog w1= .ok (.string z0) w1:=by
  rw [H];exact yb1 (P:=prog) 40 5 9 underlying40 underlying5 underlying9 w1 _ L k O _ h0
 have Z:=lh h1;have Y:=lh h2;clear h0 h1 h2 H;go_wp2_with fail;go_ret2;rw [<-T.out];exact ⟨rfl,Z.out,Y.out⟩
def RPs (g:Nat) (A:Option Addr) (n c p:Nat) (v:ByteArray) (er:Int) (p':Nat) (w:World) (e:Ending) (w':World):Prop:=
 e= .returned (.string (if er=0 then v else baNo))/\Rd w' g A n c (if er=0 then p' else p) p er/\But (fun k=>k=g) w w'
theorem readSm (a g:Nat) (A:Option Addr) (n c p:Nat) (L:Int) (bs:List Int) (w:World) (ha:w.heap[a]? =some (.cells #[.pointer (some ⟨g,0,none⟩)] 144 (0,0))) (hr:Rd w g A n c p L 0) (hx:Sl fB w g A n bs) (hb:∀b∈bs,0<=b/\b < 256) (hp:p<=n) (hn:n<=1000000) (aE:n<=c):
 Calls prog 214 #[.pointer (some ⟨g,0,none⟩),.func (.func 215) #[] #[.pointer (some ⟨a,0,none⟩)]] w (RPs g A n c p (tkF bs 32 p).1 (tkF bs 32 p).2.1 (tkF bs 32 p).2.2 w):=by
 have HR:=lh hr;have Y:g < w.heap.size:=lb hr;have aN:∀(fn:Fn) (first cap:Array Value) (w:World),(Instr.makeFunc fn first cap).run prog w= .ok (.func fn first cap) w:=fun _ _ _ _=>rfl;have c1:=zz w g 1 _ _ _ hr;have c3:=zz w g 3 _ _ _ hr;have f3:=frozen_of_row w g 3 _ _ hr;simp at c1 c3;obtain ⟨v,er,N,hN⟩:∃v er N,tkF bs 32 p=(v,er,N):=⟨_,_,_,rfl⟩
 have cN:Hid (∀W,Rd W g A n c p L 0->Sl fB W g A n bs->W.heap[a]? =some (.cells #[.pointer (some ⟨g,0,none⟩)] 144 (0,0))->Calls prog 215 #[.pointer (some ⟨a,0,none⟩)] W fun e w'=>e= .returned (.tuple #[.string v,.int .i64 er])/\Rd w' g A n c N L 0/\But (fun k=>k=g) W w'):=fun W h1 h2 h3=>by
  have:=sumc_any a g A n c p L 0 bs W h3 h1 h2 hb hp hn aE;rw [hN] at this;exact this
 rw [hN];have HX:=lh hx;have ac:=lh ha;clear hr hx hb hN ha
 go_enter_defers func214,ntmps214
 go_wp2;obtain ⟨W3,J⟩:∃W3:World,W3=((w.alloc (.cells #[.pointer (some ⟨g,0,none⟩)] 144)).alloc (.cells #[.string ⟨#[]⟩] 9)).alloc (.cells #[.int .i64 p] 3):=⟨_,rfl⟩
 rw [<-J];have U:Hid (Below w.heap.size w W3):=by rw [J];exact (bl.alloc sI _).alloc ybh _
 have aM:W3.heap.size=w.heap.size+1+1+1:=by rw [J];simp
 have ae:Hid (W3.heap[w.heap.size]? =some (.cells #[.pointer (some ⟨g,0,none⟩)] 144 (0,0))):=by
  show _=_;rw [J,Below.heap_alloc _ _ _ ybh,Below.heap_alloc _ _ _ sI];exact zy w _
 have aA:Hid (W3.heap[w.heap.size+1]? =some (.cells #[.string ⟨#[]⟩] 9 (0,0))):=by
  show _=_;rw [J,Below.heap_alloc _ _ _ sI];have:=zy (w.alloc (.cells #[.pointer (some ⟨g,0,none⟩)] 144)) (.cells #[.string ⟨#[]⟩] 9);simpa using this
 have al:Hid (W3.heap[w.heap.size+1+1]? =some (.cells #[.int .i64 p] 3 (0,0))):=by
  show _=_;rw [J];have:=zy ((w.alloc (.cells #[.pointer (some ⟨g,0,none⟩)] 144)).alloc (.cells #[.string ⟨#[]⟩] 9)) (.cells #[.int .i64 p] 3);simpa using this
 have aq:Hid (Rd W3 g A n c p L 0):=(U.out.block g Y).trans HR.out;have am:Hid (Sl fB W3 g A n bs):=HX.out.up U.out (Nat.le_of_lt Y);have ai:Hid (W3.heap[a]? =some (.cells #[.pointer (some ⟨g,0,none⟩)] 144 (0,0))):=(U.out.block a (lb ac.out)).trans ac.out;have cA:=zz W3 w.heap.size 0 _ _ _ ae.out;simp at cA;clear J c1 c3 f3;have aK:¬g=w.heap.size:=by omega
 have aJ:¬w.heap.size=g:=by omega
 have aa:¬g=w.heap.size+1:=by omega
 have ak:¬w.heap.size+1=g:=by omega
 go_region_held3 (fun w'=>w'.cell? ⟨w.heap.size,0,none⟩=some (.pointer (some ⟨g,0,none⟩))) (first |go_keep |exact ah) (first |(go_at_call 215;(refine (cN.out W3.drew aq.out am.out ai.out).mono ?_);(rintro e G ⟨rfl,T,H⟩);(have ax:=lh T);(have af:Hid (But (fun k=>k=g) W3 G):=⟨H.os,H.tape,H.output,H.size,H.block⟩);(have ag:Hid (G.heap[w.heap.size]? =some (.cells #[.pointer (some ⟨g,0,none⟩)] 144 (0,0))):=(H.block w.heap.size ya5 om).trans ae.out);(have Z:Hid (G.heap[w.heap.size+1]? =some (.cells #[.string ⟨#[]⟩] 9 (0,0))):=(H.block (w.heap.size+1) ya5 om).trans aA.out);(have ah:=zz G w.heap.size 0 _ _ _ ag.out);(simp at ah);(have ao:=zz G (w.heap.size+1) 0 _ _ _ Z.out);(have az:=zz G g 3 _ _ _ T);(simp at ao az);(have aL:=frozen_of_row G (w.heap.size+1) 0 _ _ Z.out);(have aO:=frozen_of_row G g 3 _ _ T);(clear H T)))
 go_wp2;have ar:Hid (G.heap[w.heap.size+1+1]? =some (.cells #[.int .i64 p] 3 (0,0))):=(af.out.block (w.heap.size+1+1) om om).trans al.out;obtain ⟨M,K⟩:∃M:World,M=((G.setCell ⟨w.heap.size+1,0,none⟩ (.string v)).setCell ⟨g,3,none⟩ (.int .i64 er)).setCell ⟨w.heap.size+1,0,none⟩ (.string v):=⟨_,rfl⟩
 rw [<-K]
 have o1:∀k,k≠w.heap.size+1->k≠g->M.heap[k]? =G.heap[k]? :=fun k h1 h2=>by
  rw [K];exact (heap_setCell_other _ _ _ _ h1).trans ((heap_setCell_other _ _ _ _ h2).trans (heap_setCell_other _ _ _ _ h1))
 have ay:M.heap[w.heap.size]? =some (.cells #[.pointer (some ⟨g,0,none⟩)] 144 (0,0)):=(o1 _ om om).trans ag.out;have au:M.heap[w.heap.size+1+1]? =some (.cells #[.int .i64 p] 3 (0,0)):=(o1 _ om om).trans ar.out;have aw:Rd (G.setCell ⟨w.heap.size+1,0,none⟩ (.string v)) g A n c N L 0:=(heap_setCell_other _ _ _ _ aa).trans ax.out;have aH:Rd ((G.setCell ⟨w.heap.size+1,0,none⟩ (.string v)).setCell ⟨g,3,none⟩ (.int .i64 er)) g A n c N L er:=heap_setCell_same _ _ 3 _ _ (.int .i64 er) aw;have aC:Rd M g A n c N L er:=by rw [K];exact (heap_setCell_other _ _ _ _ aa).trans aH
 have aF:(G.setCell ⟨w.heap.size+1,0,none⟩ (.string v)).heap[w.heap.size+1]? =some (.cells #[.string v] 9 (0,0)):=heap_setCell_same _ _ 0 _ _ (.string v) Z.out
 have aG:M.heap[w.heap.size+1]? =some (.cells #[.string v] 9 (0,0)):=by
  rw [K];exact heap_setCell_same _ _ 0 _ _ (.string v) ((heap_setCell_other _ _ _ _ ak).trans aF)
 have ap:Hid (But (fun k=>k=g) w M):=by
  have h1:But (fun k=>k=g) w G:=(But.of_below (p:=fun k=>k=g) U.out).trans (q:=fun k=>k=g) af.out (fun i hi=> .inl hi);rw [K];exact ((h1.setCell (.inr ya8) _).setCell (.inl rfl) _).setCell (.inr ya8) _
 clear K;refine leaves_cons (f:=253) (args:=#[.pointer (some ⟨w.heap.size+1+1,0,none⟩),.pointer (some ⟨w.heap.size,0,none⟩),.pointer (some ⟨w.heap.size+1,0,none⟩)]) sI (by simp [go_sem]) ?_;refine (closed_S _ _ _ g A n c N p L er v _ au ay aG aC Y om om).mono ?_;rintro e u' w9 ⟨rfl,rfl,aB,aD,aI⟩;have O:=zz w9 (w.heap.size+1) 0 _ _ _ aD.out;have aj:RPs g A n c p v er N w (.returned (.string (if er=0 then v else baNo))) w9:=⟨rfl,aB.out,ap.out.trans aI.out (fun i hi=>by rcases hi with rfl |rfl;exact .inl rfl;exact .inr om)⟩;refine ⟨.string (if er=0 then v else baNo),?_,aj⟩;obtain ⟨z,hz⟩:∃z:ByteArray,(if er=0 then v else baNo)=z:=⟨_,rfl⟩
 rw [hz] at O ⊢;simp at O;simp [results,go_sem,O]
 done
theorem readI_err (U:Value) (g:Nat) (A:Option Addr) (n c p:Nat) (O er:Int) (w:World) (hr:Rd w g A n c p O er) (M:er≠0):
 Calls prog 192 #[.pointer (some ⟨g,0,none⟩),U] w fun e L=>e= .returned (.int .i64 0)/\Rd L g A n c p O er/\Below w.heap.size w L:=by
 have W:(er != 0)=true:=by simp [M]
 have c3:=zz w g 3 _ _ _ hr;simp at c3;have HR:=lh hr;have T:g < w.heap.size:=lb hr;clear hr M
 go_enter_defers func192,ntmps192
 go_wp2;obtain ⟨H,G⟩:∃H:World,H=(w.alloc (.cells #[.pointer (some ⟨g,0,none⟩)] 144)).alloc (.cells #[.int .i64 0] 3):=⟨_,rfl⟩
 have J:Below w.heap.size w H:=by rw [G];exact bl.alloc sI _
 have N:H.heap[w.heap.size+1]? =some (.cells #[.int .i64 0] 3 (0,0)):=by
  rw [G];have:=zy (w.alloc (.cells #[.pointer (some ⟨g,0,none⟩)] 144)) (.cells #[.int .i64 0] 3);simpa using this
 rw [<-G];have K:=zz _ (w.heap.size+1) 0 _ _ _ N;simp at K;refine ⟨.int .i64 0,?_,rfl,(J.block g T).trans HR.out,J⟩;simp [results,go_sem,K]
theorem readS_err (U:Value) (g:Nat) (A:Option Addr) (n c p:Nat) (O er:Int) (w:World) (hr:Rd w g A n c p O er) (M:er≠0):
 Calls prog 214 #[.pointer (some ⟨g,0,none⟩),U] w fun e L=>e= .returned (.string ⟨#[]⟩)/\Rd L g A n c p O er/\Below w.heap.size w L:=by
 have W:(er != 0)=true:=by simp [M]
 have c3:=zz w g 3 _ _ _ hr;simp at c3;have HR:=lh hr;have T:g < w.heap.size:=lb hr;clear hr M
 go_enter_defers func214,ntmps214
 go_wp2;obtain ⟨H,G⟩:∃H:World,H=(w.alloc (.cells #[.pointer (some ⟨g,0,none⟩)] 144)).alloc (.cells #[.string ⟨#[]⟩] 9):=⟨_,rfl⟩
 have J:Below w.heap.size w H:=by rw [G];exact bl.alloc sI _
 have N:H.heap[w.heap.size+1]? =some (.cells #[.string ⟨#[]⟩] 9 (0,0)):=by
  rw [G];have:=zy (w.alloc (.cells #[.pointer (some ⟨g,0,none⟩)] 144)) (.cells #[.string ⟨#[]⟩] 9);simpa using this
 rw [<-G];have K:=zz _ (w.heap.size+1) 0 _ _ _ N;simp at K;refine ⟨.string ⟨#[]⟩,?_,rfl,(J.block g T).trans HR.out,J⟩;simp [results,go_sem,K]
theorem rsum_ok (g:Nat) (A:Option Addr) (n c p:Nat) (pv:Int) (bs:List Int) (w:World) (hr:Rd w g A n c p pv 0) (Z:Sl fB w g A n bs) (Y:∀b∈bs,0<=b/\b < 256) (hp:p<=n) (hn:n<=1000000) (W:n<=c):
 Calls prog 172 #[.pointer (some ⟨g,0,none⟩)] w (RPs g A n c p (tkF bs 32 p).1 (tkF bs 32 p).2.1 (tkF bs 32 p).2.2 w):=by
 have aa:∀(fn:Fn) (first cap:Array Value) (w:World),(Instr.makeFunc fn first cap).run prog w= .ok (.func fn first cap) w:=fun _ _ _ _=>rfl;obtain ⟨J,G⟩:∃J:World,J=w.alloc (.cells #[.pointer (some ⟨g,0,none⟩)] 144):=⟨_,rfl⟩
 have K:g < w.heap.size:=lb hr;have H:Below w.heap.size w J:=by rw [G];exact bl
 have L:J.heap[w.heap.size]? =some (.cells #[.pointer (some ⟨g,0,none⟩)] 144 (0,0)):=by
  rw [G];exact zy w _
 have HC:=lh (readSm w.heap.size g A n c p pv bs J L ((H.block g K).trans hr) (Z.up H (Nat.le_of_lt K)) Y hp hn W);have M:=lh H;rw [G] at HC M;obtain ⟨v,er,U,O⟩:∃v er U,tkF bs 32 p=(v,er,U):=⟨_,_,_,rfl⟩
 rw [O] at HC ⊢;clear hr Z Y O L H G;go_enter func172,ntmps172;go_wp2_with (go_at_call 214;refine HC.out.mono ?_;rintro e w1 ⟨T,h1,h2⟩;have H1:=lh h1;have H2:=lh h2;obtain ⟨z,N⟩:=gX ((if er=0 then v else baNo));rw [N] at T;have HZ:=lh N;clear N h1 h2;subst T);go_ret;exact ⟨by rw [HZ.out];rfl,H1.out,(But.of_below (p:=fun k=>k=g) M.out).trans (q:=fun k=>k=g) H2.out (fun i hi=> .inl hi)⟩
theorem rcount_err (g:Nat) (A:Option Addr) (n c p m:Nat) (K er:Int) (w:World) (hr:Rd w g A n c p K er) (N:er≠0):
 Calls prog 141 #[.pointer (some ⟨g,0,none⟩),.int .i64 m] w fun e M=>e= .returned (.int .i64 0)/\Rd M g A n c p K er/\Below w.heap.size w M:=by
 have Z:∀(fn:Fn) (first cap:Array Value) (w:World),(Instr.makeFunc fn first cap).run prog w= .ok (.func fn first cap) w:=fun _ _ _ _=>rfl;obtain ⟨J,G⟩:∃J:World,J=(w.alloc (.cells #[.pointer (some ⟨g,0,none⟩)] 144)).alloc (.cells #[.int .i64 m] 3):=⟨_,rfl⟩
 have O:g < w.heap.size:=lb hr;have H:Below w.heap.size w J:=by rw [G];exact bl.alloc sI _
 have HC:=lh (fun Y=>readI_err Y g A n c p K er J ((H.block g O).trans hr) N);have T:=lh H;have L:=lh G;clear hr N H G;go_enter func141,ntmps141;go_wp2_with fail;rw [<-L.out];refine (HC.out _).mono ?_;rintro e w1 ⟨rfl,h1,h2⟩;have W:=lh h1;have U:=lh h2;clear h1 h2;go_wp2_with fail;go_ret;exact ⟨rfl,W.out,bt T.out U.out⟩
theorem rsum_err (g:Nat) (A:Option Addr) (n c p:Nat) (K er:Int) (w:World) (hr:Rd w g A n c p K er) (N:er≠0):
 Calls prog 172 #[.pointer (some ⟨g,0,none⟩)] w fun e M=>e= .returned (.string ⟨#[]⟩)/\Rd M g A n c p K er/\Below w.heap.size w M:=by
 have Z:∀(fn:Fn) (first cap:Array Value) (w:World),(Instr.makeFunc fn first cap).run prog w= .ok (.func fn first cap) w:=fun _ _ _ _=>rfl;obtain ⟨J,G⟩:∃J:World,J=w.alloc (.cells #[.pointer (some ⟨g,0,none⟩)] 144):=⟨_,rfl⟩
 have O:g < w.heap.size:=lb hr;have H:Below w.heap.size w J:=by rw [G];exact bl
 have HC:=lh (fun Y=>readS_err Y g A n c p K er J ((H.block g O).trans hr) N);have T:=lh H;have L:=lh G;clear hr N H G;go_enter func172,ntmps172;go_wp2_with fail;rw [<-L.out];refine (HC.out _).mono ?_;rintro e w1 ⟨rfl,h1,h2⟩;have W:=lh h1;have U:=lh h2;clear h1 h2;go_wp2_with fail;go_ret;exact ⟨rfl,W.out,bt T.out U.out⟩
theorem left_any (g:Nat) (A:Option Addr) (n c p:Nat) (J er:Int) (w:World) (hr:Rd w g A n c p J er) (hp:p<=n) (hn:n<=1000000):
 Calls prog 83 #[.pointer (some ⟨g,0,none⟩)] w fun e H=>e= .returned (.int .i64 ((n - p:Nat):Int))/\Below w.heap.size w H:=by
 have c0:=zz w g 0 _ _ _ hr;have c1:=zz w g 1 _ _ _ hr;simp at c0 c1;have G:((n - p:Nat):Int)=(n:Int) - (p:Int):=by omega
 rw [G];clear hr G;go_enter func83,ntmps83;go_wp2;go_quiet (fail);go_wp2;go_ret;exact ⟨rfl,below_drewN bR _⟩
def RK (bs:List Int) (n c:Nat):Prop:=(∀b∈bs,0<=b/\b < 256)/\n<=1000000/\n<=c
def RdS (g:Nat) (A:Option Addr) (n c:Nat) (bs:List Int) (s:RS) (w:World):Prop:=(∃pv,Rd w g A n c s.1 pv s.2)/\Sl fB w g A n bs
def RPost (g:Nat) (A:Option Addr) (n c:Nat) (bs:List Int) (v:Value) (s:RS) (w:World) (e:Ending) (w':World):Prop:=e= .returned v/\RdS g A n c bs s w'/\But (fun k=>k=g) w w'
theorem RdS.len {g:Nat} {A:Option Addr} {n c:Nat} {bs:List Int} {s:RS} {w:World} (h:RdS g A n c bs s w):bs.length=n:=h.2.1
theorem RdS.lt {g:Nat} {A:Option Addr} {n c:Nat} {bs:List Int} {s:RS} {w:World} (h:RdS g A n c bs s w):g < w.heap.size:=by
 obtain ⟨⟨pv,h1⟩,_⟩:=h;exact lb h1
theorem RdS.on {g:Nat} {A:Option Addr} {n c:Nat} {bs:List Int} {s:RS} {w G:World} (h:RdS g A n c bs s w) (H:Below w.heap.size w G):RdS g A n c bs s G:=by
 have hl:=h.lt;obtain ⟨⟨J,h1⟩,h2⟩:=h;exact ⟨⟨J,(H.block g hl).trans h1⟩,h2.up H (Nat.le_of_lt hl)⟩
theorem RdS.but {g:Nat} {A:Option Addr} {n c:Nat} {bs:List Int} {s:RS} {w G:World} {p:Nat->Prop} (h:RdS g A n c bs s w) (J:But p w G) (hp:∀k,k<=g->¬p k):RdS g A n c bs s G:=by
 have hl:=h.lt;obtain ⟨⟨L,h1⟩,h2⟩:=h;refine ⟨⟨L,(J.block g hl (hp g nl)).trans h1⟩,h2.1,fun hn=>?_⟩;obtain ⟨b,H,e,hlt,K⟩:=h2.2 hn;exact ⟨b,H,e,hlt,K.keep (J.block b (Nat.lt_trans hlt hl) (hp b (Nat.le_of_lt hlt)))⟩
theorem rU_le {bs:List Int} {s:RS} {n:Nat} (hl:bs.length=n) (h:s.1<=n):(rU bs s).2.1<=n:=rV_le h (by rw [<-hl];exact ydj bs 10 0 0 s.1 om)
theorem rC_le {bs:List Int} {s:RS} {m n:Nat} (hl:bs.length=n) (h:s.1<=n):(rC bs m s).2.1<=n:=rV_le h (by rw [yc8,<-hl];exact ydj bs 10 0 0 s.1 om)
theorem tkF_le {bs:List Int} {k p n:Nat} (hl:bs.length=n) (h:p<=n):(tkF bs k p).2.2<=n:=by
 rw [tkF_eq]
 split
 ·exact h
 ·next h1=>show p+k<=n;omega
theorem rS_le {bs:List Int} {s:RS} {n:Nat} (hl:bs.length=n) (h:s.1<=n):(rS bs s).2.1<=n:=rV_le h (tkF_le hl h)
theorem rT_le {bs:List Int} {s:RS} {m n:Nat} (hl:bs.length=n) (h:s.1<=n):(rT bs m s).2.1<=n:=rV_le h (by
 have G:(limF m (numF bs 10 0 0 s.1)).2.2<=n:=by rw [yc8,<-hl];exact ydj bs 10 0 0 s.1 om
 rw [blkF_eq]
 split
 ·exact tkF_le hl G
 ·exact G)
theorem ru_any (g:Nat) (A:Option Addr) (n c:Nat) (bs:List Int) (s:RS) (w:World) (hr:RdS g A n c bs s w) (L:RK bs n c) (hp:s.1<=n):
 Calls prog 82 #[.pointer (some ⟨g,0,none⟩)] w (RPost g A n c bs (.int .u64 (rU bs s).1) (rU bs s).2 w):=by
 obtain ⟨⟨K,h1⟩,h2⟩:=hr;obtain ⟨p,er⟩:=s;have J:=Nat.le_of_lt (lb h1)
 by_cases h0:er=0
 ·subst h0;refine (yeb g A n c p K bs w h1 h2 L.1 hp L.2.1).mono ?_;rintro e N ⟨rfl,G,H⟩;have M:=h2.butg H J;unfold rU;simp only [rV,if_true] at G ⊢
  split
  ·next hz=>
   rw [if_pos hz] at G;rw [hz] at G
   skip
   exact ⟨rfl,⟨⟨_,G⟩,M⟩,H⟩
  ·next hz=>
   rw [if_neg hz] at G;exact ⟨rfl,⟨⟨_,G⟩,M⟩,H⟩
 ·refine (ruint_err g A n c p K er w h1 h0).mono ?_;rintro e N ⟨rfl,G,H⟩;unfold rU;simp only [rV,h0,if_false];exact ⟨rfl,⟨⟨K,G⟩,h2.butg (But.of_below H) J⟩,But.of_below H⟩
theorem rc_any (g:Nat) (A:Option Addr) (n c:Nat) (bs:List Int) (s:RS) (m:Nat) (N:m<=1000000) (w:World) (hr:RdS g A n c bs s w) (L:RK bs n c) (hp:s.1<=n):
 Calls prog 141 #[.pointer (some ⟨g,0,none⟩),.int .i64 m] w (RPost g A n c bs (.int .i64 (rC bs m s).1) (rC bs m s).2 w):=by
 obtain ⟨⟨K,h1⟩,h2⟩:=hr;obtain ⟨p,er⟩:=s;have J:=Nat.le_of_lt (lb h1)
 by_cases h0:er=0
 ·subst h0;refine (rcount_ok g A n c p m K bs w h1 h2 L.1 hp L.2.1 N).mono ?_;rintro e O ⟨rfl,G,H⟩;have M:=h2.butg H J;unfold rC;simp only [rV,if_true] at G ⊢
  split
  ·next hz=>
   rw [if_pos hz] at G;rw [hz] at G
   skip
   exact ⟨rfl,⟨⟨_,G⟩,M⟩,H⟩
  ·next hz=>
   rw [if_neg hz] at G;exact ⟨rfl,⟨⟨_,G⟩,M⟩,H⟩
 ·refine (rcount_err g A n c p m K er w h1 h0).mono ?_;rintro e O ⟨rfl,G,H⟩;unfold rC;simp only [rV,h0,if_false];exact ⟨rfl,⟨⟨K,G⟩,h2.butg (But.of_below H) J⟩,But.of_below H⟩
theorem rs_any (g:Nat) (A:Option Addr) (n c:Nat) (bs:List Int) (s:RS) (w:World) (hr:RdS g A n c bs s w) (K:RK bs n c) (hp:s.1<=n):
 Calls prog 172 #[.pointer (some ⟨g,0,none⟩)] w (RPost g A n c bs (.string (rS bs s).1) (rS bs s).2 w):=by
 obtain ⟨⟨L,h1⟩,h2⟩:=hr;obtain ⟨p,er⟩:=s;have J:=Nat.le_of_lt (lb h1)
 by_cases h0:er=0
 ·subst h0;refine (rsum_ok g A n c p L bs w h1 h2 K.1 hp K.2.1 K.2.2).mono ?_;rintro e N ⟨rfl,G,H⟩;have M:=h2.butg H J;unfold rS;simp only [rV,if_true] at G ⊢
  split
  ·next hz=>
   rw [if_pos hz] at G;rw [hz] at G
   skip
   exact ⟨rfl,⟨⟨_,G⟩,M⟩,H⟩
  ·next hz=>
   rw [if_neg hz] at G;exact ⟨rfl,⟨⟨_,G⟩,M⟩,H⟩
 ·refine (rsum_err g A n c p L er w h1 h0).mono ?_;rintro e N ⟨rfl,G,H⟩;unfold rS;simp only [rV,h0,if_false];exact ⟨rfl,⟨⟨L,G⟩,h2.butg (But.of_below H) J⟩,But.of_below H⟩
theorem Own.low {w:World} {base base':Nat} {e:TypeId} {v:Value} {bs:List Int} (h:Own fB e w base v bs) (hb:base'<=base):Own fB e w base' v bs:=World.ownsRow.mono h hb
theorem closed_Y (s H rs g:Nat) (A:Option Addr) (n c p:Nat) (st:Nat) (pv er:Int) (v:Value) (w:World) (hs:w.heap[s]? =some (.cells #[.int .i64 st] 3 (0,0))) (K:w.heap[H]? =some (.cells #[.pointer (some ⟨g,0,none⟩)] 144 (0,0))) (G:w.heap[rs]? =some (.cells #[v] 40 (0,0))) (hr:Rd w g A n c p pv er) (h1:g < H) (h2:H < rs) (h3:rs < s):
 CallsD prog 252 #[.pointer (some ⟨s,0,none⟩),.pointer (some ⟨H,0,none⟩),.pointer (some ⟨rs,0,none⟩)] .returning w fun e u' N=>u'= .returning/\(e= .returned (.tuple #[])/\Hid (Rd N g A n c (if er=0 then p else st) st er)/\Hid (N.heap[rs]? =some (.cells #[(if er=0 then v else .slice none 0 0)] 40 (0,0)))/\Hid (But (fun k=>k=g∨k=rs) w N)):=by
 have HR:=lh hr;have HS:=lh hs;have ae:=lh K;have af:=lh G;have c1:=zz w g 1 _ _ _ hr;have c2:=zz w g 2 _ _ _ hr;have c3:=zz w g 3 _ _ _ hr;have cs:=zz w s 0 _ _ _ hs;have cb:=zz w H 0 _ _ _ K;have cr:=zz w rs 0 _ _ _ G;have f1:=frozen_of_row w g 1 _ _ hr;have f2:=frozen_of_row w g 2 _ _ hr;have fr:=frozen_of_row w rs 0 _ _ G;simp at c1 c2 c3 cs cb cr;have n1:¬g=H:=by omega
 have Y:¬g=rs:=by omega
 have n3:¬g=s:=by omega
 have n4:¬H=rs:=by omega
 have n5:¬rs=s:=by omega
 have n6:¬H=s:=by omega
 have M:Hid (Rd (w.setCell ⟨g,2,none⟩ (.int .i64 st)) g A n c p st er):=heap_setCell_same w _ 2 _ _ (.int .i64 st) hr;have U:Hid (Rd ((w.setCell ⟨g,2,none⟩ (.int .i64 st)).setCell ⟨g,1,none⟩ (.int .i64 st)) g A n c st st er):=heap_setCell_same _ _ 1 _ _ (.int .i64 st) M.out;have L:Hid ((w.setCell ⟨g,2,none⟩ (.int .i64 st)).heap[rs]? =some (.cells #[v] 40 (0,0))):=(heap_setCell_other w _ _ _ (fun e=>Y e.symm)).trans G;have W:Hid (((w.setCell ⟨g,2,none⟩ (.int .i64 st)).setCell ⟨g,1,none⟩ (.int .i64 st)).heap[rs]? =some (.cells #[v] 40 (0,0))):=(heap_setCell_other _ _ _ _ (fun e=>Y e.symm)).trans L.out;have aa:Hid (Rd (((w.setCell ⟨g,2,none⟩ (.int .i64 st)).setCell ⟨g,1,none⟩ (.int .i64 st)).setCell ⟨rs,0,none⟩ (.slice none 0 0)) g A n c st st er):=(heap_setCell_other _ _ _ _ Y).trans U.out;have ac:Hid ((((w.setCell ⟨g,2,none⟩ (.int .i64 st)).setCell ⟨g,1,none⟩ (.int .i64 st)).setCell ⟨rs,0,none⟩ (.slice none 0 0)).heap[rs]? =some (.cells #[.slice none 0 0] 40 (0,0))):=heap_setCell_same _ _ 0 _ _ (.slice none 0 0) W.out;have HB:Hid (But (fun k=>k=g∨k=rs) w (w.setCell ⟨g,2,none⟩ (.int .i64 st))):=(But.refl _ _).setCell (.inl (.inl rfl)) _;have z:Hid (But (fun k=>k=g∨k=rs) w (((w.setCell ⟨g,2,none⟩ (.int .i64 st)).setCell ⟨g,1,none⟩ (.int .i64 st)).setCell ⟨rs,0,none⟩ (.slice none 0 0))):=(HB.out.setCell (.inl (.inl rfl)) _).setCell (.inl (.inr rfl)) _;clear hs K G hr h1 h2 h3
 by_cases J:er=0
 ·have Z:(er != 0)=false:=by simp [J]
  have O:Hid ((if er=0 then p else st)=p):=if_pos J;have T:Hid ((if er=0 then v else Value.slice none 0 0)=v):=if_pos J;rw [O.out,T.out];clear J
  go_enter_d func252,ntmps252
  go_wp2
  go_end0
  exact ⟨rfl,M,L,HB⟩
 ·have Z:(er != 0)=true:=by simp [J]
  have O:Hid ((if er=0 then p else st)=st):=if_neg J;have T:Hid ((if er=0 then v else Value.slice none 0 0)=Value.slice none 0 0):=if_neg J;rw [O.out,T.out];clear J
  go_enter_d func252,ntmps252
  go_wp2
  go_end0
  exact ⟨rfl,aa,ac,z⟩
theorem bytesc_any (a b g:Nat) (A:Option Addr) (n c p m:Nat) (pv H:Int) (bs:List Int) (w:World) (ha:w.heap[a]? =some (.cells #[.pointer (some ⟨g,0,none⟩)] 144 (0,0))) (Z:w.heap[b]? =some (.cells #[.int .i64 m] 3 (0,0))) (hr:Rd w g A n c p pv H) (hx:Sl fB w g A n bs) (hb:∀b∈bs,0<=b/\b < 256) (hp:p<=n) (hn:n<=1000000) (hm:m<=1000000) (ag:n<=c):
 Calls prog 212 #[.pointer (some ⟨a,0,none⟩),.pointer (some ⟨b,0,none⟩)] w fun e w'=>∃L k5 M,e= .returned (.tuple #[.slice L k5 M,.int .i64 (blkL bs m p).2.1])/\Own fB 5 w' w.heap.size (.slice L k5 M) (blkL bs m p).1/\Rd w' g A n c (blkL bs m p).2.2 pv H/\But (fun k=>k=g) w w':=by
 obtain ⟨i0,hi,N,T,Y⟩:=info_parts Tryz.infoB;have HI:=lh hi;have ai:=lh N;have aj:=lh T;have ae:=lh Y;have HC:=lh (block_any g A n c p m pv H bs w hr hx hb hp hn hm ag);have J:Hid (g < w.heap.size):=lb hr;have ca:=zz w a 0 _ _ _ ha;have cb:=zz w b 0 _ _ _ Z;simp at ca cb
 have G:(blkL bs m p).1.length<=1000000:=by
  have ak:=hx.1
  have aa:∀k q,(tkL bs k q).1.length<=1000000:=fun k q=>by
   unfold tkL
   split
   ·simp
   ·simp only [List.length_take,List.length_drop];omega
  unfold blkL
  split
  ·exact aa _ _
  ·simp
 obtain ⟨xs,er,p',hN⟩:∃v er p',blkL bs m p=(v,er,p'):=⟨_,_,_,rfl⟩
 rw [hN] at HC G ⊢;have W:=lh G;clear hr hx hb hN ha Z hi N T Y G;go_enter func212,ntmps212;go_wp2_with fail;refine HC.out.mono ?_;rintro e w1 ⟨A',k,c',rfl,h0,h1,h2⟩;have H0:Hid (Sl fB w1 w1.heap.size A' k xs):=h0.more' (lT (Nat.le_of_lt J.out) h2.size);have H1:=lh h1;have H2:=lh h2;have af:Hid (Own fB 5 w1 w.heap.size (.slice none 0 0) []):=Own.nil;have ah:Hid ((([]:List Int).length+xs.length)*1<=140737488355328):=by show _<=_;have:=W.out;simp only [List.length_nil];omega
 have ac:Hid (([]:List Int).length+xs.length<=maxLen):=by show _<=_;have:=W.out;simp only [List.length_nil];unfold maxLen;omega
 have K:Hid (w.heap.size<=w1.heap.size):=h2.size;clear h0 h1 h2;go_wp2_with (at_builtin;(with_reducible refine ybE (o:=⟨some 13,_,_,_,_,_⟩) rfl (.const (.slice none 0 0)) (.tmp 12) 40 rfl 5 i0 (.int .u8 0) 1 underlying40 HI.out ai.out aj.out ae.out rfl _ [] w.heap.size rfl af.out _ _ _ w1.heap.size xs rfl H0.out fB1 ah.out ac.out K.out ?_);intro v2 w2 U O al);go_ret2;obtain ⟨L,M,z,_,_,_⟩:=U.out.shape;have HB12:But (fun k=>k=g) w1 w2:=But.of_below (ybm O.out (fun k hk=>by cases hk) nl);refine ⟨L,_,M,by rw [<-z];rfl,?_,?_,H2.out.trans HB12 (fun i hi=> .inl hi)⟩
 ·rw [<-z];exact U.out
 ·exact (HB12.block g (Nat.lt_of_lt_of_le J.out K.out) |> fun h=>by
   have h3:w2.heap[g]? =w1.heap[g]? :=O.out.block g (Nat.lt_of_lt_of_le J.out K.out) (fun e=>by cases e)
   exact h3.trans H1.out)
def RPy (g:Nat) (A:Option Addr) (n c p:Nat) (xs:List Int) (er:Int) (p':Nat) (w:World) (e:Ending) (w':World):Prop:=
 ∃A5 k5 c5,e= .returned (.slice A5 k5 c5)/\Own fB 5 w' w.heap.size (.slice A5 k5 c5) (if er=0 then xs else [])/\Rd w' g A n c (if er=0 then p' else p) p er/\But (fun k=>k=g) w w'
theorem readY (a b m g:Nat) (A:Option Addr) (n c p:Nat) (O:Int) (bs:List Int) (w:World) (ha:w.heap[a]? =some (.cells #[.pointer (some ⟨g,0,none⟩)] 144 (0,0))) (ap:w.heap[b]? =some (.cells #[.int .i64 m] 3 (0,0))) (hm:m<=1000000) (hr:Rd w g A n c p O 0) (z:Sl fB w g A n bs) (hb:∀b∈bs,0<=b/\b < 256) (hp:p<=n) (hn:n<=1000000) (aO:n<=c):
 Calls prog 211 #[.pointer (some ⟨g,0,none⟩),.func (.func 212) #[] #[.pointer (some ⟨a,0,none⟩),.pointer (some ⟨b,0,none⟩)]] w (RPy g A n c p (blkL bs m p).1 (blkL bs m p).2.1 (blkL bs m p).2.2 w):=by
 have HR:=lh hr;have ac:g < w.heap.size:=lb hr;have aX:∀(fn:Fn) (first cap:Array Value) (w:World),(Instr.makeFunc fn first cap).run prog w= .ok (.func fn first cap) w:=fun _ _ _ _=>rfl;have c1:=zz w g 1 _ _ _ hr;have c3:=zz w g 3 _ _ _ hr;have f3:=frozen_of_row w g 3 _ _ hr;simp at c1 c3;obtain ⟨xs,er,Y,hN⟩:∃v er Y,blkL bs m p=(v,er,Y):=⟨_,_,_,rfl⟩
 have cN:Hid (∀W,Rd W g A n c p O 0->Sl fB W g A n bs->W.heap[a]? =some (.cells #[.pointer (some ⟨g,0,none⟩)] 144 (0,0))->W.heap[b]? =some (.cells #[.int .i64 m] 3 (0,0))->Calls prog 212 #[.pointer (some ⟨a,0,none⟩),.pointer (some ⟨b,0,none⟩)] W fun e w'=>∃G k5 H,e= .returned (.tuple #[.slice G k5 H,.int .i64 er])/\Own fB 5 w' W.heap.size (.slice G k5 H) xs/\Rd w' g A n c Y O 0/\But (fun k=>k=g) W w'):=fun W h1 h2 h3 h4=>by
  have:=bytesc_any a b g A n c p m O 0 bs W h3 h4 h1 h2 hb hp hn hm aO;rw [hN] at this;exact this
 rw [hN];have HX:=lh z;have ag:=lh ha;have am:=lh ap;clear hr z hb hN ha ap
 go_enter_defers func211,ntmps211
 go_wp2;obtain ⟨W3,M⟩:∃W3:World,W3=((w.alloc (.cells #[.pointer (some ⟨g,0,none⟩)] 144)).alloc (.cells #[.slice none 0 0] 40)).alloc (.cells #[.int .i64 p] 3):=⟨_,rfl⟩
 rw [<-M];have U:Hid (Below w.heap.size w W3):=by rw [M];exact (bl.alloc sI _).alloc ybh _
 have ai:W3.heap.size=w.heap.size+1+1+1:=by rw [M];simp
 have ah:Hid (W3.heap[w.heap.size]? =some (.cells #[.pointer (some ⟨g,0,none⟩)] 144 (0,0))):=by
  show _=_;rw [M,Below.heap_alloc _ _ _ ybh,Below.heap_alloc _ _ _ sI];exact zy w _
 have aK:Hid (W3.heap[w.heap.size+1]? =some (.cells #[.slice none 0 0] 40 (0,0))):=by
  show _=_;rw [M,Below.heap_alloc _ _ _ sI];have:=zy (w.alloc (.cells #[.pointer (some ⟨g,0,none⟩)] 144)) (.cells #[.slice none 0 0] 40);simpa using this
 have aA:Hid (W3.heap[w.heap.size+1+1]? =some (.cells #[.int .i64 p] 3 (0,0))):=by
  show _=_;rw [M];have:=zy ((w.alloc (.cells #[.pointer (some ⟨g,0,none⟩)] 144)).alloc (.cells #[.slice none 0 0] 40)) (.cells #[.int .i64 p] 3);simpa using this
 have aE:Hid (Rd W3 g A n c p O 0):=(U.out.block g ac).trans HR.out;have aB:Hid (Sl fB W3 g A n bs):=HX.out.up U.out (Nat.le_of_lt ac);have aw:Hid (W3.heap[a]? =some (.cells #[.pointer (some ⟨g,0,none⟩)] 144 (0,0))):=(U.out.block a (lb ag.out)).trans ag.out;have az:Hid (W3.heap[b]? =some (.cells #[.int .i64 m] 3 (0,0))):=(U.out.block b (lb am.out)).trans am.out;have cA:=zz W3 w.heap.size 0 _ _ _ ah.out;simp at cA;clear M c1 c3 f3;have aV:¬g=w.heap.size:=by omega
 have aU:¬w.heap.size=g:=by omega
 have ae:¬g=w.heap.size+1:=by omega
 have ay:¬w.heap.size+1=g:=by omega
 go_region_held3 (fun w'=>w'.cell? ⟨w.heap.size,0,none⟩=some (.pointer (some ⟨g,0,none⟩))) (first |go_keep |exact aj) (first |(go_at_call 212;(refine (cN.out W3.drew aE.out aB.out aw.out az.out).mono ?_);(rintro e J ⟨G,k5,H,rfl,ak,Z,L⟩);(have au:=lh ak);(have aH:=lh Z);(have al:Hid (But (fun k=>k=g) W3 J):=⟨L.os,L.tape,L.output,L.size,L.block⟩);(have aq:Hid (J.heap[w.heap.size]? =some (.cells #[.pointer (some ⟨g,0,none⟩)] 144 (0,0))):=(L.block w.heap.size ya5 om).trans ah.out);(have af:Hid (J.heap[w.heap.size+1]? =some (.cells #[.slice none 0 0] 40 (0,0))):=(L.block (w.heap.size+1) ya5 om).trans aK.out);(have aj:=zz J w.heap.size 0 _ _ _ aq.out);(simp at aj);(have aC:=zz J (w.heap.size+1) 0 _ _ _ af.out);(have aJ:=zz J g 3 _ _ _ Z);(simp at aC aJ);(have aW:=frozen_of_row J (w.heap.size+1) 0 _ _ af.out);(have aY:=frozen_of_row J g 3 _ _ Z);(clear L Z ak)))
 go_wp2;have aT:Hid (J.heap[w.heap.size+1+1]? =some (.cells #[.int .i64 p] 3 (0,0))):=(al.out.block (w.heap.size+1+1) om om).trans aA.out;obtain ⟨T,N⟩:∃T:World,T=((J.setCell ⟨w.heap.size+1,0,none⟩ (.slice G k5 H)).setCell ⟨g,3,none⟩ (.int .i64 er)).setCell ⟨w.heap.size+1,0,none⟩ (.slice G k5 H):=⟨_,rfl⟩
 rw [<-N]
 have o1:∀k,k≠w.heap.size+1->k≠g->T.heap[k]? =J.heap[k]? :=fun k h1 h2=>by
  rw [N];exact (heap_setCell_other _ _ _ _ h1).trans ((heap_setCell_other _ _ _ _ h2).trans (heap_setCell_other _ _ _ _ h1))
 have aI:T.heap[w.heap.size]? =some (.cells #[.pointer (some ⟨g,0,none⟩)] 144 (0,0)):=(o1 _ om om).trans aq.out;have aF:T.heap[w.heap.size+1+1]? =some (.cells #[.int .i64 p] 3 (0,0)):=(o1 _ om om).trans aT.out;have aG:Rd (J.setCell ⟨w.heap.size+1,0,none⟩ (.slice G k5 H)) g A n c Y O 0:=(heap_setCell_other _ _ _ _ ae).trans aH.out;have aS:Rd ((J.setCell ⟨w.heap.size+1,0,none⟩ (.slice G k5 H)).setCell ⟨g,3,none⟩ (.int .i64 er)) g A n c Y O er:=heap_setCell_same _ _ 3 _ _ (.int .i64 er) aG;have aM:Rd T g A n c Y O er:=by rw [N];exact (heap_setCell_other _ _ _ _ ae).trans aS
 have aP:(J.setCell ⟨w.heap.size+1,0,none⟩ (.slice G k5 H)).heap[w.heap.size+1]? =some (.cells #[.slice G k5 H] 40 (0,0)):=heap_setCell_same _ _ 0 _ _ (.slice G k5 H) af.out
 have aQ:T.heap[w.heap.size+1]? =some (.cells #[.slice G k5 H] 40 (0,0)):=by
  rw [N];exact heap_setCell_same _ _ 0 _ _ (.slice G k5 H) ((heap_setCell_other _ _ _ _ ay).trans aP)
 have aD:Hid (But (fun k=>k=g) w T):=by
  have h1:But (fun k=>k=g) w J:=(But.of_below (p:=fun k=>k=g) U.out).trans (q:=fun k=>k=g) al.out (fun i hi=> .inl hi);rw [N];exact ((h1.setCell (.inr ya8) _).setCell (.inl rfl) _).setCell (.inr ya8) _
 have ax:=N;clear N;refine leaves_cons (f:=252) (args:=#[.pointer (some ⟨w.heap.size+1+1,0,none⟩),.pointer (some ⟨w.heap.size,0,none⟩),.pointer (some ⟨w.heap.size+1,0,none⟩)]) sI (by simp [go_sem]) ?_
 have aL:Hid (Own fB 5 T w.heap.size (.slice G k5 H) xs):=by
  have hl:=au.out.low (base':=w.heap.size+1+1+1) (by show _<=W3.drew.heap.size;exact Nat.le_of_eq ai.symm);have z:=ol hl;refine Own.low (base:=w.heap.size+1+1+1) ?_ om;rw [ax];have b1:But (fun k=>k=g∨k=w.heap.size+1) J (J.setCell ⟨w.heap.size+1,0,none⟩ (.slice G k5 H)):=(But.refl _ _).setCell (.inl (.inr rfl)) _;have b2:=b1.setCell (x:=⟨g,3,none⟩) (.inl (.inl rfl)) (.int .i64 er);have b3:=b2.setCell (x:=⟨w.heap.size+1,0,none⟩) (.inl (.inr rfl)) (.slice G k5 H);exact hl.but b3 (fun k hk h=>by have:=(z k hk).1;rcases h with rfl |rfl<;>omega)
 refine (closed_Y _ _ _ g A n c Y p O er (.slice G k5 H) _ aF aI aQ aM ac om om).mono ?_;rintro e u' w9 ⟨rfl,rfl,ao,aN,ar⟩;have K:=zz w9 (w.heap.size+1) 0 _ _ _ aN.out;have aa:But (fun k=>k=g) w w9:=aD.out.trans ar.out (fun i hi=>by rcases hi with rfl |rfl;exact .inl rfl;exact .inr om)
 have aR:Own fB 5 w9 w.heap.size (.slice G k5 H) xs:=by
  have hl:=au.out.low (base':=w.heap.size+1+1+1) (by show _<=W3.drew.heap.size;exact Nat.le_of_eq ai.symm);have z:=ol hl;exact aL.out.but ar.out (fun k hk h=>by have:=(z k hk).1;rcases h with rfl |rfl<;>omega)
 by_cases h0:er=0
 ·rw [if_pos h0] at K;refine ⟨.slice G k5 H,?_,⟨G,k5,H,rfl,by rw [if_pos h0];exact aR,ao.out,aa⟩⟩;simp at K;simp [results,go_sem,K]
  done
 ·rw [if_neg h0] at K;refine ⟨.slice none 0 0,?_,⟨none,0,0,rfl,by rw [if_neg h0];exact Own.nil,ao.out,aa⟩⟩;simp at K;simp [results,go_sem,K]
  done
theorem readY_err (U:Value) (g:Nat) (A:Option Addr) (n c p:Nat) (O er:Int) (w:World) (hr:Rd w g A n c p O er) (M:er≠0):
 Calls prog 211 #[.pointer (some ⟨g,0,none⟩),U] w fun e L=>e= .returned (.slice none 0 0)/\Rd L g A n c p O er/\Below w.heap.size w L:=by
 have W:(er != 0)=true:=by simp [M]
 have c3:=zz w g 3 _ _ _ hr;simp at c3;have HR:=lh hr;have T:g < w.heap.size:=lb hr;clear hr M
 go_enter_defers func211,ntmps211
 go_wp2;obtain ⟨H,G⟩:∃H:World,H=(w.alloc (.cells #[.pointer (some ⟨g,0,none⟩)] 144)).alloc (.cells #[.slice none 0 0] 40):=⟨_,rfl⟩
 have J:Below w.heap.size w H:=by rw [G];exact bl.alloc sI _
 have N:H.heap[w.heap.size+1]? =some (.cells #[.slice none 0 0] 40 (0,0)):=by
  rw [G];have:=zy (w.alloc (.cells #[.pointer (some ⟨g,0,none⟩)] 144)) (.cells #[.slice none 0 0] 40);simpa using this
 rw [<-G];have K:=zz _ (w.heap.size+1) 0 _ _ _ N;simp at K;refine ⟨.slice none 0 0,?_,rfl,(J.block g T).trans HR.out,J⟩;simp [results,go_sem,K]
theorem rbytes_ok (g:Nat) (A:Option Addr) (n c p m:Nat) (T:Int) (bs:List Int) (w:World) (hr:Rd w g A n c p T 0) (W:Sl fB w g A n bs) (O:∀b∈bs,0<=b/\b < 256) (hp:p<=n) (hn:n<=1000000) (hm:m<=1000000) (U:n<=c):
 Calls prog 171 #[.pointer (some ⟨g,0,none⟩),.int .i64 m] w (RPy g A n c p (blkL bs m p).1 (blkL bs m p).2.1 (blkL bs m p).2.2 w):=by
 have aa:∀(fn:Fn) (first cap:Array Value) (w:World),(Instr.makeFunc fn first cap).run prog w= .ok (.func fn first cap) w:=fun _ _ _ _=>rfl;obtain ⟨J,G⟩:∃J:World,J=(w.alloc (.cells #[.pointer (some ⟨g,0,none⟩)] 144)).alloc (.cells #[.int .i64 m] 3):=⟨_,rfl⟩
 have L:g < w.heap.size:=lb hr;have H:Below w.heap.size w J:=by rw [G];exact bl.alloc sI _
 have N:J.heap[w.heap.size]? =some (.cells #[.pointer (some ⟨g,0,none⟩)] 144 (0,0)):=by
  rw [G,Below.heap_alloc _ _ _ sI];exact zy w _
 have M:J.heap[w.heap.size+1]? =some (.cells #[.int .i64 m] 3 (0,0)):=by
  rw [G];have:=zy (w.alloc (.cells #[.pointer (some ⟨g,0,none⟩)] 144)) (.cells #[.int .i64 m] 3);simpa using this
 have HC:=lh (readY w.heap.size (w.heap.size+1) m g A n c p T bs J N M hm ((H.block g L).trans hr) (W.up H (Nat.le_of_lt L)) O hp hn U);have K:=lh H;rw [G] at HC K;obtain ⟨v,er,Y,Z⟩:∃v er Y,blkL bs m p=(v,er,Y):=⟨_,_,_,rfl⟩
 rw [Z] at HC ⊢;clear hr W O Z N M H G;go_enter func171,ntmps171;go_wp2_with (go_at_call 211;refine HC.out.mono ?_;rintro e w1 ⟨A5,k5,c5,rfl,h0,h1,h2⟩;have z:=lh h0;have H1:=lh h1;have H2:=lh h2;clear h0 h1 h2);go_ret;exact ⟨A5,k5,c5,rfl,z.out.low K.out.size,H1.out,(But.of_below (p:=fun k=>k=g) K.out).trans (q:=fun k=>k=g) H2.out (fun i hi=> .inl hi)⟩
theorem rbytes_err (g:Nat) (A:Option Addr) (n c p m:Nat) (K er:Int) (w:World) (hr:Rd w g A n c p K er) (N:er≠0):
 Calls prog 171 #[.pointer (some ⟨g,0,none⟩),.int .i64 m] w fun e M=>e= .returned (.slice none 0 0)/\Rd M g A n c p K er/\Below w.heap.size w M:=by
 have Z:∀(fn:Fn) (first cap:Array Value) (w:World),(Instr.makeFunc fn first cap).run prog w= .ok (.func fn first cap) w:=fun _ _ _ _=>rfl;obtain ⟨J,G⟩:∃J:World,J=(w.alloc (.cells #[.pointer (some ⟨g,0,none⟩)] 144)).alloc (.cells #[.int .i64 m] 3):=⟨_,rfl⟩
 have O:g < w.heap.size:=lb hr;have H:Below w.heap.size w J:=by rw [G];exact bl.alloc sI _
 have HC:=lh (fun Y=>readY_err Y g A n c p K er J ((H.block g O).trans hr) N);have T:=lh H;have L:=lh G;clear hr N H G;go_enter func171,ntmps171;go_wp2_with fail;rw [<-L.out];refine (HC.out _).mono ?_;rintro e w1 ⟨rfl,h1,h2⟩;have W:=lh h1;have U:=lh h2;clear h1 h2;go_wp2_with fail;go_ret;exact ⟨rfl,W.out,bt T.out U.out⟩
def rY (bs:List Int) (m:Nat) (s:RS):List Int × RS:=rV s [] (blkL bs m s.1)
def RYPost (g:Nat) (A:Option Addr) (n c:Nat) (bs:List Int) (xs:List Int) (s:RS) (w:World) (e:Ending) (w':World):Prop:=
 ∃A5 k5 c5,e= .returned (.slice A5 k5 c5)/\Own fB 5 w' w.heap.size (.slice A5 k5 c5) xs/\RdS g A n c bs s w'/\But (fun k=>k=g) w w'
theorem tkL_le {bs:List Int} {k p n:Nat} (hl:bs.length=n) (h:p<=n):(tkL bs k p).2.2<=n:=tkF_le (k:=k) hl h
theorem rY_le {bs:List Int} {s:RS} {m n:Nat} (hl:bs.length=n) (h:s.1<=n):(rY bs m s).2.1<=n:=rV_le h (by
 have G:(limF m (numF bs 10 0 0 s.1)).2.2<=n:=by rw [yc8,<-hl];exact ydj bs 10 0 0 s.1 om
 unfold blkL
 split
 ·exact tkL_le hl G
 ·exact G)
theorem ry_any (g:Nat) (A:Option Addr) (n c:Nat) (bs:List Int) (s:RS) (m:Nat) (U:m<=1000000) (w:World) (hr:RdS g A n c bs s w) (L:RK bs n c) (hp:s.1<=n):
 Calls prog 171 #[.pointer (some ⟨g,0,none⟩),.int .i64 m] w (RYPost g A n c bs (rY bs m s).1 (rY bs m s).2 w):=by
 obtain ⟨⟨M,h1⟩,h2⟩:=hr;obtain ⟨p,er⟩:=s;have K:=Nat.le_of_lt (lb h1)
 by_cases h0:er=0
 ·subst h0;refine (rbytes_ok g A n c p m M bs w h1 h2 L.1 hp L.2.1 U L.2.2).mono ?_;rintro e W ⟨O,k5,N,rfl,J,G,H⟩;have T:=h2.butg H K;unfold rY;simp only [rV,if_true] at J G ⊢
  split
  ·next hz=>
   rw [if_pos hz] at J G;rw [hz] at G;exact ⟨O,k5,N,rfl,J,⟨⟨_,G⟩,T⟩,H⟩
  ·next hz=>
   rw [if_neg hz] at J G;exact ⟨O,k5,N,rfl,J,⟨⟨_,G⟩,T⟩,H⟩
 ·refine (rbytes_err g A n c p m M er w h1 h0).mono ?_;rintro e W ⟨rfl,G,H⟩;unfold rY;simp only [rV,h0,if_false];exact ⟨none,0,0,rfl,Own.nil,⟨⟨M,G⟩,h2.butg (But.of_below H) K⟩,But.of_below H⟩
def AtL (bs:List Int) (p:Nat) (xs:List Int):Prop:=∀j,j < xs.length->bs[p+j]? =xs[j]?
theorem AtL.nil {bs:List Int} {p:Nat}:AtL bs p []:=fun j hj=>absurd hj sI
theorem AtL.left {bs:List Int} {p:Nat} {xs ys:List Int} (h:AtL bs p (xs++ys)):AtL bs p xs:=fun j hj=>by
 rw [h j (by rw [List.length_append];omega),List.getElem?_append_left hj]
theorem AtL.right {bs:List Int} {p:Nat} {xs ys:List Int} (h:AtL bs p (xs++ys)):AtL bs (p+xs.length) ys:=fun j hj=>by
 have:=h (xs.length+j) (by rw [List.length_append];omega);rw [List.getElem?_append_right om,Nat.add_sub_cancel_left,<-Nat.add_assoc] at this;exact this
theorem AtL.app {bs:List Int} {p:Nat} {xs ys:List Int} (h1:AtL bs p xs) (h2:AtL bs (p+xs.length) ys):AtL bs p (xs++ys):=fun j hj=>by
 rcases Nat.lt_or_ge j xs.length with h |h
 ·rw [List.getElem?_append_left h];exact h1 j h
 ·rw [List.getElem?_append_right h,<-h2 (j - xs.length) (by rw [List.length_append] at hj;omega)]
  congr 1;omega
theorem AtL.all {bs xs:List Int} (h:AtL bs 0 xs) (hl:xs.length=bs.length):xs=bs:=by
 apply List.ext_getElem?;intro j;rcases Nat.lt_or_ge j xs.length with h1 |h1
 ·have:=h j h1;rw [Nat.zero_add] at this;exact this.symm
 ·rw [List.getElem?_eq_none h1,List.getElem?_eq_none om]
theorem AtL.self (bs:List Int):AtL bs 0 bs:=fun j _=>by rw [Nat.zero_add]
def Ok (bs:List Int) (s s':RS) (xs:List Int):Prop:=s'.1=s.1+xs.length/\AtL bs s.1 xs
theorem Ok.refl (bs:List Int) (s:RS):Ok bs s s []:=⟨rfl,AtL.nil⟩
theorem Ok.trans {bs:List Int} {s H G:RS} {xs ys:List Int} (h:Ok bs s H xs) (k:Ok bs H G ys):Ok bs s G (xs++ys):=
 ⟨by rw [k.1,h.1,List.length_append,Nat.add_assoc],h.2.app (by have:=k.2;rwa [h.1] at this)⟩
section
variable {bs:List Int} (hb:∀b∈bs,0<=b/\b < 256)
include hb
theorem num_only {p q:Nat} {v:Int} (h:numF bs 10 0 0 p=(v,0,q)):∃n:Nat,v=n/\n < 18446744073709551616/\q=p+(enc n).length/\AtL bs p (enc n):=by
 obtain ⟨n,H,K,J,_,_,G⟩:=ycS bs hb 10 0 0 p q v rfl h;simp only [Nat.pow_zero,Nat.mul_one,Nat.zero_add] at H G;exact ⟨n,H,G,K,J⟩
theorem rU_only {s:RS} (h:(rU bs s).2.2=0):s.2=0/\∃n:Nat,(rU bs s).1=n/\n < 18446744073709551616/\Ok bs s (rU bs s).2 (enc n):=by
 obtain ⟨h1,h2,G⟩:=rV_ok h;refine ⟨h1,?_⟩;unfold rU;rw [G];exact num_only hb (show numF bs 10 0 0 s.1=(_,0,_) by rw [<-h2])
theorem lim_only {m p:Nat} (h:(limF m (numF bs 10 0 0 p)).2.1=0):∃n:Nat,(limF m (numF bs 10 0 0 p)).1=n/\n<=m/\(limF m (numF bs 10 0 0 p)).2.2=p+(enc n).length/\AtL bs p (enc n):=by
 obtain ⟨v,e,q,G⟩:∃v e q,numF bs 10 0 0 p=(v,e,q):=⟨_,_,_,rfl⟩
 rw [G] at h ⊢;unfold limF at h ⊢;simp only at h ⊢
 by_cases h1:e=0
 ·subst h1
  by_cases h2:(m:Int) < v
  ·simp [h2] at h
  ·obtain ⟨n,rfl,_,J,H⟩:=num_only hb G;simp only [h2,if_true,if_false];exact ⟨n,rfl,by omega,J,H⟩
 ·simp [h1] at h
theorem rC_only {m:Nat} {s:RS} (h:(rC bs m s).2.2=0):s.2=0/\∃n:Nat,(rC bs m s).1=n/\n<=m/\Ok bs s (rC bs m s).2 (enc n):=by
 obtain ⟨h1,h2,G⟩:=rV_ok h;refine ⟨h1,?_⟩;unfold rC;rw [G];exact lim_only hb h2
theorem tk_only {n p:Nat} (h:(tkF bs n p).2.1=0):(tkF bs n p).1.size=n/\(tkF bs n p).2.2=p+n/\AtL bs p (sB (tkF bs n p).1):=by
 rw [tkF_eq] at h ⊢
 split at h
 ·cases h
 ·next h1=>
  rw [if_neg h1];have hs:sB (baOf ((bs.drop p).take n))=(bs.drop p).take n:=ybL (fun b G=>hb b (List.mem_of_mem_drop (List.mem_of_mem_take G)));refine ⟨?_,rfl,?_⟩
  ·have:=ybS (baOf ((bs.drop p).take n));rw [hs,List.length_take,List.length_drop] at this;show (baOf ((bs.drop p).take n)).size=n;omega
  ·show AtL bs p (sB (baOf ((bs.drop p).take n)));rw [hs];intro j hj;rw [List.length_take] at hj;rw [List.getElem?_take,if_pos om,List.getElem?_drop]
theorem rS_only {s:RS} (h:(rS bs s).2.2=0):s.2=0/\(rS bs s).1.size=32/\Ok bs s (rS bs s).2 (sB (rS bs s).1):=by
 obtain ⟨h1,h2,H⟩:=rV_ok h;have G:=tk_only hb h2;refine ⟨h1,?_⟩;unfold rS;rw [H];refine ⟨G.1,?_,G.2.2⟩;show (tkF bs 32 s.1).2.2=_;rw [ybS,G.1,G.2.1]
end
section
variable {bs:List Int}
theorem num_rt {p n:Nat} (h:AtL bs p (enc n)) (hn:n < 18446744073709551616):numF bs 10 0 0 p=((n:Int),0,p+(enc n).length):=by
 have:=yed bs 10 n 0 0 p om om om h (.inl rfl) om;simpa [enc] using this
theorem rU_rt {p n:Nat} (h:AtL bs p (enc n)) (hn:n < 18446744073709551616):rU bs (p,0)=((n:Int),p+(enc n).length,0):=rV_go (num_rt h hn)
theorem lim_rt {p n m:Nat} (h:AtL bs p (enc n)) (hn:n<=m) (hm:m<=1000000):limF m (numF bs 10 0 0 p)=((n:Int),0,p+(enc n).length):=by
 rw [num_rt h om];unfold limF;simp only [if_true];rw [if_neg om]
theorem rC_rt {p n m:Nat} (h:AtL bs p (enc n)) (hn:n<=m) (hm:m<=1000000):rC bs m (p,0)=((n:Int),p+(enc n).length,0):=rV_go (lim_rt h hn hm)
theorem AtL.cut {p:Nat} {xs:List Int} (h:AtL bs p xs):(bs.drop p).take xs.length=xs:=by
 apply List.ext_getElem?;intro j;rw [List.getElem?_take]
 split
 ·next hj=>rw [List.getElem?_drop];exact h j hj
 ·next hj=>rw [List.getElem?_eq_none om]
theorem AtL.fits {p:Nat} {xs:List Int} (h:AtL bs p xs) (h0:0 < xs.length):p+xs.length<=bs.length:=by
 rcases Nat.lt_or_ge bs.length (p+xs.length) with hlt |hlt
 ·have:=h (xs.length - 1) om;rw [List.getElem?_eq_none om,List.getElem?_eq_getElem om] at this;cases this
 ·exact hlt
end
