import Derived.Test.YtpdledjgbgalcaaGreatDoorMb
import Derived.Deep.Onto
namespace Go.Proofs.YtpdledjgbgalcaaGreatDoor
set_option maxRecDepth 20000
set_option maxHeartbeats 1000000
open Go.RowKit Go.Lib Go.Proofs.Tryz
set_option linter.unusedVariables false
set_option linter.unusedSimpArgs false
def tkL (bs:List Int) (n p:Nat):List Int × Int × Nat:=if bs.length < p+n then ([],3,p) else ((bs.drop p).take n,0,p+n)
def tkF (bs:List Int) (n p:Nat):ByteArray × Int × Nat:=(baOf (tkL bs n p).1,(tkL bs n p).2)
def blkL (bs:List Int) (m p:Nat):List Int × Int × Nat:=
 if (limF m (numF bs 10 0 0 p)).2.1=0 then tkL bs (limF m (numF bs 10 0 0 p)).1.toNat (limF m (numF bs 10 0 0 p)).2.2 else ([],(limF m (numF bs 10 0 0 p)).2.1,(limF m (numF bs 10 0 0 p)).2.2)
def blkF (bs:List Int) (m p:Nat):ByteArray × Int × Nat:=(baOf (blkL bs m p).1,(blkL bs m p).2)
theorem tkF_eq (bs:List Int) (n p:Nat):tkF bs n p=if bs.length < p+n then (baNo,3,p) else (baOf ((bs.drop p).take n),0,p+n):=by
 unfold tkF tkL
 split<;>rfl
theorem blkF_eq (bs:List Int) (m p:Nat):blkF bs m p=if (limF m (numF bs 10 0 0 p)).2.1=0 then tkF bs (limF m (numF bs 10 0 0 p)).1.toNat (limF m (numF bs 10 0 0 p)).2.2 else (baNo,(limF m (numF bs 10 0 0 p)).2.1,(limF m (numF bs 10 0 0 p)).2.2):=by
 unfold blkF blkL
 split<;>rfl
abbrev RS:=Nat × Int
def rV {α:Type} (s:RS) (z:α) (N:α × Int × Nat):α × RS:=if s.2=0 then (if N.2.1=0 then (N.1,N.2.2,0) else (z,s.1,N.2.1)) else (z,s)
def rU (bs:List Int) (s:RS):Int × RS:=rV s 0 (numF bs 10 0 0 s.1)
def rC (bs:List Int) (m:Nat) (s:RS):Int × RS:=rV s 0 (limF m (numF bs 10 0 0 s.1))
def rT (bs:List Int) (m:Nat) (s:RS):ByteArray × RS:=rV s baNo (blkF bs m s.1)
def rS (bs:List Int) (s:RS):ByteArray × RS:=rV s baNo (tkF bs 32 s.1)
theorem rV_ok {α:Type} {s:RS} {z:α} {N:α × Int × Nat} (h:(rV s z N).2.2=0):s.2=0/\N.2.1=0/\rV s z N=(N.1,N.2.2,0):=by
 unfold rV at h ⊢
 by_cases h1:s.2=0
 ·by_cases h2:N.2.1=0
  ·exact ⟨h1,h2,by rw [if_pos h1,if_pos h2]⟩
  ·rw [if_pos h1,if_neg h2] at h;exact absurd h h2
 ·rw [if_neg h1] at h;exact absurd h h1
theorem rV_le {α:Type} {s:RS} {z:α} {N:α × Int × Nat} {n:Nat} (h:s.1<=n) (hN:N.2.2<=n):(rV s z N).2.1<=n:=by
 unfold rV
 split
 ·split
  ·exact hN
  ·exact h
 ·exact h
open Go.RowKit
theorem closed_S (s H rs g:Nat) (A:Option Addr) (n c p:Nat) (st:Nat) (pv er:Int) (v:ByteArray) (w:World) (hs:w.heap[s]? =some (.cells #[.int .i64 st] 3 (0,0))) (K:w.heap[H]? =some (.cells #[.pointer (some ⟨g,0,none⟩)] 144 (0,0))) (J:w.heap[rs]? =some (.cells #[.string v] 9 (0,0))) (hr:Rd w g A n c p pv er) (h1:g < H) (h2:H < rs) (h3:rs < s):
 CallsD prog 253 #[.pointer (some ⟨s,0,none⟩),.pointer (some ⟨H,0,none⟩),.pointer (some ⟨rs,0,none⟩)] .returning w fun e u' U=>u'= .returning/\(e= .returned (.tuple #[])/\Hid (Rd U g A n c (if er=0 then p else st) st er)/\Hid (U.heap[rs]? =some (.cells #[.string (if er=0 then v else baNo)] 9 (0,0)))/\Hid (But (fun k=>k=g∨k=rs) w U)):=by
 have HR:=lh hr;have HS:=lh hs;have ae:=lh K;have af:=lh J;have c1:=zz w g 1 _ _ _ hr;have c2:=zz w g 2 _ _ _ hr;have c3:=zz w g 3 _ _ _ hr;have cs:=zz w s 0 _ _ _ hs;have cb:=zz w H 0 _ _ _ K;have cr:=zz w rs 0 _ _ _ J;have f1:=frozen_of_row w g 1 _ _ hr;have f2:=frozen_of_row w g 2 _ _ hr;have fr:=frozen_of_row w rs 0 _ _ J;simp at c1 c2 c3 cs cb cr;have n1:¬g=H:=by omega
 have O:¬g=rs:=by omega
 have n3:¬g=s:=by omega
 have n4:¬H=rs:=by omega
 have n5:¬rs=s:=by omega
 have n6:¬H=s:=by omega
 have L:Hid (Rd (w.setCell ⟨g,2,none⟩ (.int .i64 st)) g A n c p st er):=heap_setCell_same w _ 2 _ _ (.int .i64 st) hr;have T:Hid (Rd ((w.setCell ⟨g,2,none⟩ (.int .i64 st)).setCell ⟨g,1,none⟩ (.int .i64 st)) g A n c st st er):=heap_setCell_same _ _ 1 _ _ (.int .i64 st) L.out;have M:Hid ((w.setCell ⟨g,2,none⟩ (.int .i64 st)).heap[rs]? =some (.cells #[.string v] 9 (0,0))):=(heap_setCell_other w _ _ _ (fun e=>O e.symm)).trans J;have Y:Hid (((w.setCell ⟨g,2,none⟩ (.int .i64 st)).setCell ⟨g,1,none⟩ (.int .i64 st)).heap[rs]? =some (.cells #[.string v] 9 (0,0))):=(heap_setCell_other _ _ _ _ (fun e=>O e.symm)).trans M.out;have z:Hid (Rd (((w.setCell ⟨g,2,none⟩ (.int .i64 st)).setCell ⟨g,1,none⟩ (.int .i64 st)).setCell ⟨rs,0,none⟩ (.string baNo)) g A n c st st er):=(heap_setCell_other _ _ _ _ O).trans T.out;have Z:Hid ((((w.setCell ⟨g,2,none⟩ (.int .i64 st)).setCell ⟨g,1,none⟩ (.int .i64 st)).setCell ⟨rs,0,none⟩ (.string baNo)).heap[rs]? =some (.cells #[.string baNo] 9 (0,0))):=heap_setCell_same _ _ 0 _ _ (.string baNo) Y.out;have HB:Hid (But (fun k=>k=g∨k=rs) w (w.setCell ⟨g,2,none⟩ (.int .i64 st))):=(But.refl _ _).setCell (.inl (.inl rfl)) _;have ac:Hid (But (fun k=>k=g∨k=rs) w (((w.setCell ⟨g,2,none⟩ (.int .i64 st)).setCell ⟨g,1,none⟩ (.int .i64 st)).setCell ⟨rs,0,none⟩ (.string baNo))):=(HB.out.setCell (.inl (.inl rfl)) _).setCell (.inl (.inr rfl)) _;clear hs K J hr h1 h2 h3
 by_cases G:er=0
 ·have aa:(er != 0)=false:=by simp [G]
  have N:Hid ((if er=0 then p else st)=p):=if_pos G;have W:Hid ((if er=0 then v else baNo)=v):=if_pos G;rw [N.out,W.out];clear G
  go_enter_d func253,ntmps253
  go_wp2
  go_end0
  exact ⟨rfl,L,M,HB⟩
 ·have aa:(er != 0)=true:=by simp [G]
  have N:Hid ((if er=0 then p else st)=st):=if_neg G;have W:Hid ((if er=0 then v else baNo)=baNo):=if_neg G;rw [N.out,W.out];clear G
  go_enter_d func253,ntmps253
  go_wp2
  go_end0
  exact ⟨rfl,z,Z,ac⟩
theorem yda (bs:List Int):∀(k G i p:Nat),p<=bs.length->(numF bs k G i p).2.2<=bs.length
 |0,_,_,_,h=>h
 |k+1,G,i,p,h=>by
  rw [numF]
  cases H:bs[p]? with
  |none=>exact h
  |some b=>
   have hp:=(List.getElem?_eq_some_iff.1 H).1;simp only []
   split
   ·exact yda bs k _ _ _ hp
   ·split
    ·exact hp
    ·exact hp
theorem yc2 (m:Nat) (N:Int × Int × Nat):(limF m N).2.2=N.2.2:=by
 unfold limF
 split
 ·split<;>rfl
 ·rfl
theorem ycS {P:Program} (t e:Nat) (i:TypeInfo) (ht:P.underlying t=some (.slice e)) (hi:P.info? e=some i) (hs:i.size=1) (A:Option Addr) (n c:Nat) (l h:Nat) (h1:l<=h) (h2:h<=c) (w:World):
 (Instr.slice t (.slice A n c) (some (.int .i64 (l:Int))) (some (.int .i64 (h:Int))) none).run P w= .ok (.slice (if c=l then A else A.map (·.add l)) (h - l) (c - l)) w:=by
 simp [Instr.slice,run_underlying ht,Instr.sliceBounds,run_sliceBound w .i64 (h:Int) c _ om om,run_sliceBound w .i64 (l:Int) h _ om om,sizeOf,typeInfo,hi,hs]
theorem Sl.butg {f:Int->Value} {w G:World} {g n:Nat} {A:Option Addr} {xs:List Int} (h:Sl f w g A n xs) (J:But (fun k=>k=g) w G) (L:g<=w.heap.size):Sl f G g A n xs:=⟨h.1,fun hn=>by
 obtain ⟨b,H,e,hlt,K⟩:=h.2 hn
 exact ⟨b,H,e,hlt,K.keep (J.block b om om)⟩⟩
theorem Sl.part {f:Int->Value} {w:World} {B n c:Nat} {A:Option Addr} {xs:List Int} (h:Sl f w B A n xs) (l k:Nat) (hl:l+k<=n) (G:n<=c):Sl f w B (if c=l then A else A.map (·.add l)) k ((xs.drop l).take k):=by
 have h1:=h.1;refine ⟨by rw [List.length_take,List.length_drop];omega,?_⟩;exact ((h.2.cut (n:=l) (cap:=c) om).take_ k)
theorem take_any (g:Nat) (A:Option Addr) (n c p k:Nat) (O H:Int) (bs:List Int) (w:World) (hr:Rd w g A n c p O H) (M:Sl fB w g A n bs) (hp:p<=n) (hn:n<=1000000) (hk:k<=1000000) (U:n<=c):
 Calls prog 216 #[.pointer (some ⟨g,0,none⟩),.int .i64 k] w fun e N=>∃G m c',e= .returned (.tuple #[.slice G m c',.int .i64 (tkL bs k p).2.1])/\Sl fB N g G m (tkL bs k p).1/\Rd N g A n c (tkL bs k p).2.2 O H/\But (fun k=>k=g) w N:=by
 have c0:=zz w g 0 _ _ _ hr;have c1:=zz w g 1 _ _ _ hr;have f1:=frozen_of_row w g 1 _ _ hr;simp at c0 c1;have HR:=lh hr;have z:=lh M;have aa:=M.1;clear hr M
 by_cases hlt:bs.length < p+k
 ·have T:Hid (tkL bs k p=([],3,p)):=by show _=_;unfold tkL;rw [if_pos hlt]
  have hd:decide ((n:Int) - (p:Int) < (k:Int))=true:=by simp;omega
  have Z:(n:Int) - (p:Int) < (k:Int):=by omega
  rw [T.out];clear hlt;go_enter func216,ntmps216;go_wp2;go_quiet (fail);go_wp2;go_ret2;exact ⟨none,0,0,rfl,⟨rfl,SL.nil⟩,HR.out,(But.refl _ _).drewN _⟩
 ·have T:Hid (tkL bs k p=((bs.drop p).take k,0,p+k)):=by show _=_;unfold tkL;rw [if_neg hlt]
  have hd:decide ((n:Int) - (p:Int) < (k:Int))=false:=by simp;omega
  have Z:¬(n:Int) - (p:Int) < (k:Int):=by omega
  obtain ⟨i0,hi,_,Y,_⟩:=info_parts Tryz.infoB;have K:=ycS (P:=prog) 40 5 i0 underlying40 hi Y A n c p (p+k) om om;rw [show ((p+k:Nat):Int)=(p:Int)+(k:Int) by omega,show p+k - p=k by omega] at K;obtain ⟨G,J⟩:∃G,(if c=p then A else A.map (·.add p))=G:=⟨_,rfl⟩
  have HP:Hid (Sl fB w g G k ((bs.drop p).take k)):=J▸z.out.part p k om U
  have W:Hid (∀q,Rd ((w.drewN q).setCell ⟨g,1,none⟩ (.int .i64 ((p:Int)+(k:Int)))) g A n c (p+k) O H):=fun q=>by
   show _=_;rw [show ((p+k:Nat):Int)=(p:Int)+k by omega];exact heap_setCell_same (w.drewN q) _ _ _ _ _ HR.out
  have L:Hid (∀q,But (fun k=>k=g) w ((w.drewN q).setCell ⟨g,1,none⟩ (.int .i64 ((p:Int)+(k:Int))))):=fun q=>But.setCell (p:=fun k=>k=g) (x:=⟨g,1,none⟩) ((But.refl _ _).drewN q) (.inl rfl) _;have HGL:Hid (g<=w.heap.size):=Nat.le_of_lt (lb HR.out);rw [J] at K;rw [T.out];clear hlt J;go_enter func216,ntmps216;go_wp2;go_quiet (fail);go_wp2;go_quiet (fail);go_wp2;go_ret2;exact ⟨G,k,c - p,rfl,HP.out.butg (L.out _) HGL.out,W.out _,L.out _⟩
theorem block_any (g:Nat) (A:Option Addr) (n c p m:Nat) (M H:Int) (bs:List Int) (w:World) (hr:Rd w g A n c p M H) (N:Sl fB w g A n bs) (hb:∀b∈bs,0<=b/\b < 256) (hp:p<=n) (hn:n<=1000000) (hm:m<=1000000) (aa:n<=c):
 Calls prog 213 #[.pointer (some ⟨g,0,none⟩),.int .i64 m] w fun e Y=>∃L k T,e= .returned (.tuple #[.slice L k T,.int .i64 (blkL bs m p).2.1])/\Sl fB Y g L k (blkL bs m p).1/\Rd Y g A n c (blkL bs m p).2.2 M H/\But (fun k=>k=g) w Y:=by
 have HC:=lh (limited_any g A n c p m M H bs w hr N hb hp hn hm);have HX:=lh N;have HGL:Hid (g<=w.heap.size):=Nat.le_of_lt (lb hr);have J:=ybQ bs 10 0 0 p;have W:=N.1;have G:(numF bs 10 0 0 p).2.2<=n:=by rw [<-W];exact yda bs 10 0 0 p om
 have O:=yc2 m (numF bs 10 0 0 p)
 have K:(limF m (numF bs 10 0 0 p)).2.1=0->0<=(limF m (numF bs 10 0 0 p)).1/\(limF m (numF bs 10 0 0 p)).1<=m:=by
  intro h;unfold limF at h ⊢
  split
  ·next h1=>
   split
   ·next h2=>exact ⟨Int.le_refl _,Int.natCast_nonneg _⟩
   ·next h2=>exact ⟨J,by omega⟩
  ·exact ⟨Int.le_refl _,Int.natCast_nonneg _⟩
 have HB:Hid (blkL bs m p=if (limF m (numF bs 10 0 0 p)).2.1=0 then tkL bs (limF m (numF bs 10 0 0 p)).1.toNat (limF m (numF bs 10 0 0 p)).2.2 else ([],(limF m (numF bs 10 0 0 p)).2.1,(limF m (numF bs 10 0 0 p)).2.2)):=rfl;rw [<-O] at G;obtain ⟨v,er,Z,hN⟩:∃v er Z,limF m (numF bs 10 0 0 p)=(v,er,Z):=⟨_,_,_,rfl⟩
 rw [hN] at HC HB G K;simp only at G K;rw [HB.out];clear hr N hb hN O J HB
 by_cases U:er=0
 ·subst U;obtain ⟨J,ae⟩:=K rfl;obtain ⟨k,rfl⟩:∃k:Nat,v=k:=⟨v.toNat,by omega⟩
  simp only [if_true,Int.toNat_natCast];go_enter func213,ntmps213;go_wp2_with fail;refine HC.out.mono ?_;rintro e w1 ⟨rfl,h1,h2⟩;have HK:=lh (take_any g A n c Z k M H bs w1 h1 (HX.out.butg h2 HGL.out) G hn om aa);have z:=lh h2;clear h1 h2;go_wp2_with fail;refine HK.out.mono ?_;rintro e w2 ⟨L,j,T,rfl,k1,k2,k3⟩;have K1:=lh k1;have K2:=lh k2;have K3:=lh k3;clear k1 k2 k3;go_wp2_with fail;go_ret2;exact ⟨L,j,T,rfl,K1.out,K2.out,z.out.trans K3.out (fun i hi=> .inl hi)⟩
 ·have ac:(er != 0)=true:=by simp [U]
  simp only [U,if_false];go_enter func213,ntmps213;go_wp2_with fail;refine HC.out.mono ?_;rintro e w1 ⟨rfl,h1,h2⟩;have H1:=lh h1;have z:=lh h2;clear h1 h2;go_wp2_with fail;go_ret2;exact ⟨none,0,0,rfl,⟨rfl,SL.nil⟩,H1.out,z.out⟩
theorem sumc_any (a g:Nat) (A:Option Addr) (n c p:Nat) (J G:Int) (bs:List Int) (w:World) (ha:w.heap[a]? =some (.cells #[.pointer (some ⟨g,0,none⟩)] 144 (0,0))) (hr:Rd w g A n c p J G) (K:Sl fB w g A n bs) (z:∀b∈bs,0<=b/\b < 256) (hp:p<=n) (hn:n<=1000000) (M:n<=c):
 Calls prog 215 #[.pointer (some ⟨a,0,none⟩)] w fun e N=>e= .returned (.tuple #[.string (tkF bs 32 p).1,.int .i64 (tkF bs 32 p).2.1])/\Rd N g A n c (tkF bs 32 p).2.2 J G/\But (fun k=>k=g) w N:=by
 have HC:=lh (take_any g A n c p 32 J G bs w hr K hp hn de M);have HB:Hid (tkF bs 32 p=(baOf (tkL bs 32 p).1,(tkL bs 32 p).2)):=rfl;have ca:=zz w a 0 _ _ _ ha;simp at ca;rw [HB.out];obtain ⟨xs,er,L,O⟩:∃v er L,tkL bs 32 p=(v,er,L):=⟨_,_,_,rfl⟩
 rw [O] at HC ⊢;clear hr K z O ha HB;go_enter func215,ntmps215;go_wp2_with fail;refine HC.out.mono ?_;rintro e w1 ⟨T,k,W,rfl,h0,h1,h2⟩;obtain ⟨Z,H⟩:∃s,s=baOf xs:=⟨_,rfl⟩
 have U:=lh H
 have aa:(convert 40 9 (.slice T k W)).run prog w1= .ok (.string Z) w1:=by
  rw [H];exact ybU (P:=prog) 40 5 9 underlying40 underlying5 underlying9 w1 _ T k W _ h0
 have Y:=lh h1;have H2:=lh h2;clear h0 h1 h2 H;go_wp2_with fail;go_ret2;rw [<-U.out];exact ⟨rfl,Y.out,H2.out⟩
def RPs (g:Nat) (A:Option Addr) (n c p:Nat) (v:ByteArray) (er:Int) (p':Nat) (w:World) (e:Ending) (w':World):Prop:=
 e= .returned (.string (if er=0 then v else baNo))/\Rd w' g A n c (if er=0 then p' else p) p er/\But (fun k=>k=g) w w'
theorem readSm (a g:Nat) (A:Option Addr) (n c p:Nat) (L:Int) (bs:List Int) (w:World) (ha:w.heap[a]? =some (.cells #[.pointer (some ⟨g,0,none⟩)] 144 (0,0))) (hr:Rd w g A n c p L 0) (hx:Sl fB w g A n bs) (hb:∀b∈bs,0<=b/\b < 256) (hp:p<=n) (hn:n<=1000000) (aG:n<=c):
 Calls prog 214 #[.pointer (some ⟨g,0,none⟩),.func (.func 215) #[] #[.pointer (some ⟨a,0,none⟩)]] w (RPs g A n c p (tkF bs 32 p).1 (tkF bs 32 p).2.1 (tkF bs 32 p).2.2 w):=by
 have HR:=lh hr;have Z:g < w.heap.size:=lb hr;have aM:∀(fn:Fn) (first cap:Array Value) (w:World),(Instr.makeFunc fn first cap).run prog w= .ok (.func fn first cap) w:=fun _ _ _ _=>rfl;have c1:=zz w g 1 _ _ _ hr;have c3:=zz w g 3 _ _ _ hr;have f3:=frozen_of_row w g 3 _ _ hr;simp at c1 c3;obtain ⟨v,er,N,hN⟩:∃v er N,tkF bs 32 p=(v,er,N):=⟨_,_,_,rfl⟩
 have cN:Hid (∀W,Rd W g A n c p L 0->Sl fB W g A n bs->W.heap[a]? =some (.cells #[.pointer (some ⟨g,0,none⟩)] 144 (0,0))->Calls prog 215 #[.pointer (some ⟨a,0,none⟩)] W fun e w'=>e= .returned (.tuple #[.string v,.int .i64 er])/\Rd w' g A n c N L 0/\But (fun k=>k=g) W w'):=fun W h1 h2 h3=>by
  have:=sumc_any a g A n c p L 0 bs W h3 h1 h2 hb hp hn aG;rw [hN] at this;exact this
 rw [hN];have HX:=lh hx;have af:=lh ha;clear hr hx hb hN ha
 go_enter_defers func214,ntmps214
 go_wp2;obtain ⟨W3,J⟩:∃W3:World,W3=((w.alloc (.cells #[.pointer (some ⟨g,0,none⟩)] 144)).alloc (.cells #[.string ⟨#[]⟩] 9)).alloc (.cells #[.int .i64 p] 3):=⟨_,rfl⟩
 rw [<-J];have T:Hid (Below w.heap.size w W3):=by rw [J];exact (bl.alloc sI _).alloc yba _
 have aN:W3.heap.size=w.heap.size+1+1+1:=by rw [J];simp
 have ag:Hid (W3.heap[w.heap.size]? =some (.cells #[.pointer (some ⟨g,0,none⟩)] 144 (0,0))):=by
  show _=_;rw [J,Below.heap_alloc _ _ _ yba,Below.heap_alloc _ _ _ sI];exact zy w _
 have aC:Hid (W3.heap[w.heap.size+1]? =some (.cells #[.string ⟨#[]⟩] 9 (0,0))):=by
  show _=_;rw [J,Below.heap_alloc _ _ _ sI];have:=zy (w.alloc (.cells #[.pointer (some ⟨g,0,none⟩)] 144)) (.cells #[.string ⟨#[]⟩] 9);simpa using this
 have aD:Hid (W3.heap[w.heap.size+1+1]? =some (.cells #[.int .i64 p] 3 (0,0))):=by
  show _=_;rw [J];have:=zy ((w.alloc (.cells #[.pointer (some ⟨g,0,none⟩)] 144)).alloc (.cells #[.string ⟨#[]⟩] 9)) (.cells #[.int .i64 p] 3);simpa using this
 have ap:Hid (Rd W3 g A n c p L 0):=(T.out.block g Z).trans HR.out;have ao:Hid (Sl fB W3 g A n bs):=HX.out.up T.out (Nat.le_of_lt Z);have aj:Hid (W3.heap[a]? =some (.cells #[.pointer (some ⟨g,0,none⟩)] 144 (0,0))):=(T.out.block a (lb af.out)).trans af.out;have cA:=zz W3 w.heap.size 0 _ _ _ ag.out;simp at cA;clear J c1 c3 f3;have aK:¬g=w.heap.size:=by omega
 have aL:¬w.heap.size=g:=by omega
 have Y:¬g=w.heap.size+1:=by omega
 have ai:¬w.heap.size+1=g:=by omega
 go_region_held3 (fun w'=>w'.cell? ⟨w.heap.size,0,none⟩=some (.pointer (some ⟨g,0,none⟩))) (first |go_keep |exact ac) (first |(go_at_call 215;(refine (cN.out W3.drew ap.out ao.out aj.out).mono ?_);(rintro e G ⟨rfl,U,H⟩);(have ay:=lh U);(have ae:Hid (But (fun k=>k=g) W3 G):=⟨H.os,H.tape,H.output,H.size,H.block⟩);(have ah:Hid (G.heap[w.heap.size]? =some (.cells #[.pointer (some ⟨g,0,none⟩)] 144 (0,0))):=(H.block w.heap.size yaZ om).trans ag.out);(have aa:Hid (G.heap[w.heap.size+1]? =some (.cells #[.string ⟨#[]⟩] 9 (0,0))):=(H.block (w.heap.size+1) yaZ om).trans aC.out);(have ac:=zz G w.heap.size 0 _ _ _ ah.out);(simp at ac);(have aq:=zz G (w.heap.size+1) 0 _ _ _ aa.out);(have aJ:=zz G g 3 _ _ _ U);(simp at aq aJ);(have aP:=frozen_of_row G (w.heap.size+1) 0 _ _ aa.out);(have aO:=frozen_of_row G g 3 _ _ U);(clear H U)))
 go_wp2;have au:Hid (G.heap[w.heap.size+1+1]? =some (.cells #[.int .i64 p] 3 (0,0))):=(ae.out.block (w.heap.size+1+1) om om).trans aD.out;obtain ⟨M,K⟩:∃M:World,M=((G.setCell ⟨w.heap.size+1,0,none⟩ (.string v)).setCell ⟨g,3,none⟩ (.int .i64 er)).setCell ⟨w.heap.size+1,0,none⟩ (.string v):=⟨_,rfl⟩
 rw [<-K]
 have o1:∀k,k≠w.heap.size+1->k≠g->M.heap[k]? =G.heap[k]? :=fun k h1 h2=>by
  rw [K];exact (heap_setCell_other _ _ _ _ h1).trans ((heap_setCell_other _ _ _ _ h2).trans (heap_setCell_other _ _ _ _ h1))
 have az:M.heap[w.heap.size]? =some (.cells #[.pointer (some ⟨g,0,none⟩)] 144 (0,0)):=(o1 _ om om).trans ah.out;have aE:M.heap[w.heap.size+1+1]? =some (.cells #[.int .i64 p] 3 (0,0)):=(o1 _ om om).trans au.out;have aB:Rd (G.setCell ⟨w.heap.size+1,0,none⟩ (.string v)) g A n c N L 0:=(heap_setCell_other _ _ _ _ Y).trans ay.out;have aA:Rd ((G.setCell ⟨w.heap.size+1,0,none⟩ (.string v)).setCell ⟨g,3,none⟩ (.int .i64 er)) g A n c N L er:=heap_setCell_same _ _ 3 _ _ (.int .i64 er) aB;have ar:Rd M g A n c N L er:=by rw [K];exact (heap_setCell_other _ _ _ _ Y).trans aA
 have aI:(G.setCell ⟨w.heap.size+1,0,none⟩ (.string v)).heap[w.heap.size+1]? =some (.cells #[.string v] 9 (0,0)):=heap_setCell_same _ _ 0 _ _ (.string v) aa.out
 have aF:M.heap[w.heap.size+1]? =some (.cells #[.string v] 9 (0,0)):=by
  rw [K];exact heap_setCell_same _ _ 0 _ _ (.string v) ((heap_setCell_other _ _ _ _ ai).trans aI)
 have ax:Hid (But (fun k=>k=g) w M):=by
  have h1:But (fun k=>k=g) w G:=(But.of_below (p:=fun k=>k=g) T.out).trans (q:=fun k=>k=g) ae.out (fun i hi=> .inl hi);rw [K];exact ((h1.setCell (.inr ya1) _).setCell (.inl rfl) _).setCell (.inr ya1) _
 clear K;refine leaves_cons (f:=253) (args:=#[.pointer (some ⟨w.heap.size+1+1,0,none⟩),.pointer (some ⟨w.heap.size,0,none⟩),.pointer (some ⟨w.heap.size+1,0,none⟩)]) sI (by simp [go_sem]) ?_;refine (closed_S _ _ _ g A n c N p L er v _ aE az aF ar Z om om).mono ?_;rintro e u' w9 ⟨rfl,rfl,aw,am,aH⟩;have O:=zz w9 (w.heap.size+1) 0 _ _ _ am.out;have ak:RPs g A n c p v er N w (.returned (.string (if er=0 then v else baNo))) w9:=⟨rfl,aw.out,ax.out.trans aH.out (fun i hi=>by rcases hi with rfl |rfl;exact .inl rfl;exact .inr om)⟩;refine ⟨.string (if er=0 then v else baNo),?_,ak⟩;obtain ⟨z,hz⟩:∃z:ByteArray,(if er=0 then v else baNo)=z:=⟨_,rfl⟩
 rw [hz] at O ⊢;simp at O;simp [results,go_sem,O]
 done
theorem readI_err (U:Value) (g:Nat) (A:Option Addr) (n c p:Nat) (T er:Int) (w:World) (hr:Rd w g A n c p T er) (L:er≠0):
 Calls prog 192 #[.pointer (some ⟨g,0,none⟩),U] w fun e M=>e= .returned (.int .i64 0)/\Rd M g A n c p T er/\Below w.heap.size w M:=by
 have W:(er != 0)=true:=by simp [L]
 have c3:=zz w g 3 _ _ _ hr;simp at c3;have HR:=lh hr;have N:g < w.heap.size:=lb hr;clear hr L
 go_enter_defers func192,ntmps192
 go_wp2;obtain ⟨H,G⟩:∃H:World,H=(w.alloc (.cells #[.pointer (some ⟨g,0,none⟩)] 144)).alloc (.cells #[.int .i64 0] 3):=⟨_,rfl⟩
 have K:Below w.heap.size w H:=by rw [G];exact bl.alloc sI _
 have O:H.heap[w.heap.size+1]? =some (.cells #[.int .i64 0] 3 (0,0)):=by
  rw [G];have:=zy (w.alloc (.cells #[.pointer (some ⟨g,0,none⟩)] 144)) (.cells #[.int .i64 0] 3);simpa using this
 rw [<-G];have J:=zz _ (w.heap.size+1) 0 _ _ _ O;simp at J;refine ⟨.int .i64 0,?_,rfl,(K.block g N).trans HR.out,K⟩;simp [results,go_sem,J]
theorem readS_err (U:Value) (g:Nat) (A:Option Addr) (n c p:Nat) (T er:Int) (w:World) (hr:Rd w g A n c p T er) (L:er≠0):
 Calls prog 214 #[.pointer (some ⟨g,0,none⟩),U] w fun e M=>e= .returned (.string ⟨#[]⟩)/\Rd M g A n c p T er/\Below w.heap.size w M:=by
 have W:(er != 0)=true:=by simp [L]
 have c3:=zz w g 3 _ _ _ hr;simp at c3;have HR:=lh hr;have N:g < w.heap.size:=lb hr;clear hr L
 go_enter_defers func214,ntmps214
 go_wp2;obtain ⟨H,G⟩:∃H:World,H=(w.alloc (.cells #[.pointer (some ⟨g,0,none⟩)] 144)).alloc (.cells #[.string ⟨#[]⟩] 9):=⟨_,rfl⟩
 have K:Below w.heap.size w H:=by rw [G];exact bl.alloc sI _
 have O:H.heap[w.heap.size+1]? =some (.cells #[.string ⟨#[]⟩] 9 (0,0)):=by
  rw [G];have:=zy (w.alloc (.cells #[.pointer (some ⟨g,0,none⟩)] 144)) (.cells #[.string ⟨#[]⟩] 9);simpa using this
 rw [<-G];have J:=zz _ (w.heap.size+1) 0 _ _ _ O;simp at J;refine ⟨.string ⟨#[]⟩,?_,rfl,(K.block g N).trans HR.out,K⟩;simp [results,go_sem,J]
theorem rsum_ok (g:Nat) (A:Option Addr) (n c p:Nat) (Z:Int) (bs:List Int) (w:World) (hr:Rd w g A n c p Z 0) (O:Sl fB w g A n bs) (Y:∀b∈bs,0<=b/\b < 256) (hp:p<=n) (hn:n<=1000000) (W:n<=c):
 Calls prog 172 #[.pointer (some ⟨g,0,none⟩)] w (RPs g A n c p (tkF bs 32 p).1 (tkF bs 32 p).2.1 (tkF bs 32 p).2.2 w):=by
 have aa:∀(fn:Fn) (first cap:Array Value) (w:World),(Instr.makeFunc fn first cap).run prog w= .ok (.func fn first cap) w:=fun _ _ _ _=>rfl;obtain ⟨J,G⟩:∃J:World,J=w.alloc (.cells #[.pointer (some ⟨g,0,none⟩)] 144):=⟨_,rfl⟩
 have L:g < w.heap.size:=lb hr;have H:Below w.heap.size w J:=by rw [G];exact bl
 have M:J.heap[w.heap.size]? =some (.cells #[.pointer (some ⟨g,0,none⟩)] 144 (0,0)):=by
  rw [G];exact zy w _
 have HC:=lh (readSm w.heap.size g A n c p Z bs J M ((H.block g L).trans hr) (O.up H (Nat.le_of_lt L)) Y hp hn W);have K:=lh H;rw [G] at HC K;obtain ⟨v,er,U,hN⟩:∃v er U,tkF bs 32 p=(v,er,U):=⟨_,_,_,rfl⟩
 rw [hN] at HC ⊢;clear hr O Y hN M H G;go_enter func172,ntmps172;go_wp2_with (go_at_call 214;refine HC.out.mono ?_;rintro e w1 ⟨T,h1,h2⟩;have H1:=lh h1;have H2:=lh h2;obtain ⟨z,N⟩:=gx ((if er=0 then v else baNo));rw [N] at T;have HZ:=lh N;clear N h1 h2;subst T);go_ret;exact ⟨by rw [HZ.out];rfl,H1.out,(But.of_below (p:=fun k=>k=g) K.out).trans (q:=fun k=>k=g) H2.out (fun i hi=> .inl hi)⟩
theorem rcount_err (g:Nat) (A:Option Addr) (n c p m:Nat) (K er:Int) (w:World) (hr:Rd w g A n c p K er) (L:er≠0):
 Calls prog 141 #[.pointer (some ⟨g,0,none⟩),.int .i64 m] w fun e T=>e= .returned (.int .i64 0)/\Rd T g A n c p K er/\Below w.heap.size w T:=by
 have Z:∀(fn:Fn) (first cap:Array Value) (w:World),(Instr.makeFunc fn first cap).run prog w= .ok (.func fn first cap) w:=fun _ _ _ _=>rfl;obtain ⟨J,G⟩:∃J:World,J=(w.alloc (.cells #[.pointer (some ⟨g,0,none⟩)] 144)).alloc (.cells #[.int .i64 m] 3):=⟨_,rfl⟩
 have O:g < w.heap.size:=lb hr;have H:Below w.heap.size w J:=by rw [G];exact bl.alloc sI _
 have HC:=lh (fun U=>readI_err U g A n c p K er J ((H.block g O).trans hr) L);have M:=lh H;have N:=lh G;clear hr L H G;go_enter func141,ntmps141;go_wp2_with fail;rw [<-N.out];refine (HC.out _).mono ?_;rintro e w1 ⟨rfl,h1,h2⟩;have W:=lh h1;have Y:=lh h2;clear h1 h2;go_wp2_with fail;go_ret;exact ⟨rfl,W.out,bt M.out Y.out⟩
theorem rsum_err (g:Nat) (A:Option Addr) (n c p:Nat) (K er:Int) (w:World) (hr:Rd w g A n c p K er) (L:er≠0):
 Calls prog 172 #[.pointer (some ⟨g,0,none⟩)] w fun e T=>e= .returned (.string ⟨#[]⟩)/\Rd T g A n c p K er/\Below w.heap.size w T:=by
 have Z:∀(fn:Fn) (first cap:Array Value) (w:World),(Instr.makeFunc fn first cap).run prog w= .ok (.func fn first cap) w:=fun _ _ _ _=>rfl;obtain ⟨J,G⟩:∃J:World,J=w.alloc (.cells #[.pointer (some ⟨g,0,none⟩)] 144):=⟨_,rfl⟩
 have O:g < w.heap.size:=lb hr;have H:Below w.heap.size w J:=by rw [G];exact bl
 have HC:=lh (fun U=>readS_err U g A n c p K er J ((H.block g O).trans hr) L);have M:=lh H;have N:=lh G;clear hr L H G;go_enter func172,ntmps172;go_wp2_with fail;rw [<-N.out];refine (HC.out _).mono ?_;rintro e w1 ⟨rfl,h1,h2⟩;have W:=lh h1;have Y:=lh h2;clear h1 h2;go_wp2_with fail;go_ret;exact ⟨rfl,W.out,bt M.out Y.out⟩
theorem left_any (g:Nat) (A:Option Addr) (n c p:Nat) (H er:Int) (w:World) (hr:Rd w g A n c p H er) (hp:p<=n) (hn:n<=1000000):
 Calls prog 83 #[.pointer (some ⟨g,0,none⟩)] w fun e J=>e= .returned (.int .i64 ((n - p:Nat):Int))/\Below w.heap.size w J:=by
 have c0:=zz w g 0 _ _ _ hr;have c1:=zz w g 1 _ _ _ hr;simp at c0 c1;have G:((n - p:Nat):Int)=(n:Int) - (p:Int):=by omega
 rw [G];clear hr G;go_enter func83,ntmps83;go_wp2;go_quiet (fail);go_wp2;go_ret;exact ⟨rfl,below_drewN bR _⟩
def RK (bs:List Int) (n c:Nat):Prop:=(∀b∈bs,0<=b/\b < 256)/\n<=1000000/\n<=c
def RdS (g:Nat) (A:Option Addr) (n c:Nat) (bs:List Int) (s:RS) (w:World):Prop:=(∃pv,Rd w g A n c s.1 pv s.2)/\Sl fB w g A n bs
def RPost (g:Nat) (A:Option Addr) (n c:Nat) (bs:List Int) (v:Value) (s:RS) (w:World) (e:Ending) (w':World):Prop:=e= .returned v/\RdS g A n c bs s w'/\But (fun k=>k=g) w w'
theorem RdS.len {g:Nat} {A:Option Addr} {n c:Nat} {bs:List Int} {s:RS} {w:World} (h:RdS g A n c bs s w):bs.length=n:=h.2.1
theorem RdS.lt {g:Nat} {A:Option Addr} {n c:Nat} {bs:List Int} {s:RS} {w:World} (h:RdS g A n c bs s w):g < w.heap.size:=by
 obtain ⟨⟨pv,h1⟩,_⟩:=h;exact lb h1
theorem RdS.on {g:Nat} {A:Option Addr} {n c:Nat} {bs:List Int} {s:RS} {w H:World} (h:RdS g A n c bs s w) (G:Below w.heap.size w H):RdS g A n c bs s H:=by
 have hl:=h.lt;obtain ⟨⟨J,h1⟩,h2⟩:=h;exact ⟨⟨J,(G.block g hl).trans h1⟩,h2.up G (Nat.le_of_lt hl)⟩
theorem RdS.but {g:Nat} {A:Option Addr} {n c:Nat} {bs:List Int} {s:RS} {w H:World} {p:Nat->Prop} (h:RdS g A n c bs s w) (G:But p w H) (hp:∀k,k<=g->¬p k):RdS g A n c bs s H:=by
 have hl:=h.lt;obtain ⟨⟨L,h1⟩,h2⟩:=h;refine ⟨⟨L,(G.block g hl (hp g nl)).trans h1⟩,h2.1,fun hn=>?_⟩;obtain ⟨b,J,e,hlt,K⟩:=h2.2 hn;exact ⟨b,J,e,hlt,K.keep (G.block b (Nat.lt_trans hlt hl) (hp b (Nat.le_of_lt hlt)))⟩
theorem rU_le {bs:List Int} {s:RS} {n:Nat} (hl:bs.length=n) (h:s.1<=n):(rU bs s).2.1<=n:=rV_le h (by rw [<-hl];exact yda bs 10 0 0 s.1 om)
theorem rC_le {bs:List Int} {s:RS} {m n:Nat} (hl:bs.length=n) (h:s.1<=n):(rC bs m s).2.1<=n:=rV_le h (by rw [yc2,<-hl];exact yda bs 10 0 0 s.1 om)
theorem tkF_le {bs:List Int} {k p n:Nat} (hl:bs.length=n) (h:p<=n):(tkF bs k p).2.2<=n:=by
 rw [tkF_eq]
 split
 ·exact h
 ·next h1=>show p+k<=n;omega
theorem rS_le {bs:List Int} {s:RS} {n:Nat} (hl:bs.length=n) (h:s.1<=n):(rS bs s).2.1<=n:=rV_le h (tkF_le hl h)
theorem rT_le {bs:List Int} {s:RS} {m n:Nat} (hl:bs.length=n) (h:s.1<=n):(rT bs m s).2.1<=n:=rV_le h (by
 have G:(limF m (numF bs 10 0 0 s.1)).2.2<=n:=by rw [yc2,<-hl];exact yda bs 10 0 0 s.1 om
 rw [blkF_eq]
 split
 ·exact tkF_le hl G
 ·exact G)
theorem ru_any (g:Nat) (A:Option Addr) (n c:Nat) (bs:List Int) (s:RS) (w:World) (hr:RdS g A n c bs s w) (M:RK bs n c) (hp:s.1<=n):
 Calls prog 82 #[.pointer (some ⟨g,0,none⟩)] w (RPost g A n c bs (.int .u64 (rU bs s).1) (rU bs s).2 w):=by
 obtain ⟨⟨K,h1⟩,h2⟩:=hr;obtain ⟨p,er⟩:=s;have J:=Nat.le_of_lt (lb h1)
 by_cases h0:er=0
 ·subst h0;refine (yd3 g A n c p K bs w h1 h2 M.1 hp M.2.1).mono ?_;rintro e N ⟨rfl,G,H⟩;have L:=h2.butg H J;unfold rU;simp only [rV,if_true] at G ⊢
  split
  ·next hz=>
   rw [if_pos hz] at G;rw [hz] at G
   skip
   exact ⟨rfl,⟨⟨_,G⟩,L⟩,H⟩
  ·next hz=>
   rw [if_neg hz] at G;exact ⟨rfl,⟨⟨_,G⟩,L⟩,H⟩
 ·refine (ruint_err g A n c p K er w h1 h0).mono ?_;rintro e N ⟨rfl,G,H⟩;unfold rU;simp only [rV,h0,if_false];exact ⟨rfl,⟨⟨K,G⟩,h2.butg (But.of_below H) J⟩,But.of_below H⟩
theorem rc_any (g:Nat) (A:Option Addr) (n c:Nat) (bs:List Int) (s:RS) (m:Nat) (O:m<=1000000) (w:World) (hr:RdS g A n c bs s w) (M:RK bs n c) (hp:s.1<=n):
 Calls prog 141 #[.pointer (some ⟨g,0,none⟩),.int .i64 m] w (RPost g A n c bs (.int .i64 (rC bs m s).1) (rC bs m s).2 w):=by
 obtain ⟨⟨K,h1⟩,h2⟩:=hr;obtain ⟨p,er⟩:=s;have J:=Nat.le_of_lt (lb h1)
 by_cases h0:er=0
 ·subst h0;refine (rcount_ok g A n c p m K bs w h1 h2 M.1 hp M.2.1 O).mono ?_;rintro e N ⟨rfl,G,H⟩;have L:=h2.butg H J;unfold rC;simp only [rV,if_true] at G ⊢
  split
  ·next hz=>
   rw [if_pos hz] at G;rw [hz] at G
   skip
   exact ⟨rfl,⟨⟨_,G⟩,L⟩,H⟩
  ·next hz=>
   rw [if_neg hz] at G;exact ⟨rfl,⟨⟨_,G⟩,L⟩,H⟩
 ·refine (rcount_err g A n c p m K er w h1 h0).mono ?_;rintro e N ⟨rfl,G,H⟩;unfold rC;simp only [rV,h0,if_false];exact ⟨rfl,⟨⟨K,G⟩,h2.butg (But.of_below H) J⟩,But.of_below H⟩
theorem rs_any (g:Nat) (A:Option Addr) (n c:Nat) (bs:List Int) (s:RS) (w:World) (hr:RdS g A n c bs s w) (L:RK bs n c) (hp:s.1<=n):
 Calls prog 172 #[.pointer (some ⟨g,0,none⟩)] w (RPost g A n c bs (.string (rS bs s).1) (rS bs s).2 w):=by
 obtain ⟨⟨K,h1⟩,h2⟩:=hr;obtain ⟨p,er⟩:=s;have J:=Nat.le_of_lt (lb h1)
 by_cases h0:er=0
 ·subst h0;refine (rsum_ok g A n c p K bs w h1 h2 L.1 hp L.2.1 L.2.2).mono ?_;rintro e N ⟨rfl,G,H⟩;have M:=h2.butg H J;unfold rS;simp only [rV,if_true] at G ⊢
  split
  ·next hz=>
   rw [if_pos hz] at G;rw [hz] at G
   skip
   exact ⟨rfl,⟨⟨_,G⟩,M⟩,H⟩
  ·next hz=>
   rw [if_neg hz] at G;exact ⟨rfl,⟨⟨_,G⟩,M⟩,H⟩
 ·refine (rsum_err g A n c p K er w h1 h0).mono ?_;rintro e N ⟨rfl,G,H⟩;unfold rS;simp only [rV,h0,if_false];exact ⟨rfl,⟨⟨K,G⟩,h2.butg (But.of_below H) J⟩,But.of_below H⟩
theorem Own.low {w:World} {base base':Nat} {e:TypeId} {v:Value} {bs:List Int} (h:Own fB e w base v bs) (hb:base'<=base):Own fB e w base' v bs:=World.ownsRow.mono h hb
theorem closed_Y (s H rs g:Nat) (A:Option Addr) (n c p:Nat) (st:Nat) (pv er:Int) (v:Value) (w:World) (hs:w.heap[s]? =some (.cells #[.int .i64 st] 3 (0,0))) (K:w.heap[H]? =some (.cells #[.pointer (some ⟨g,0,none⟩)] 144 (0,0))) (J:w.heap[rs]? =some (.cells #[v] 40 (0,0))) (hr:Rd w g A n c p pv er) (h1:g < H) (h2:H < rs) (h3:rs < s):
 CallsD prog 252 #[.pointer (some ⟨s,0,none⟩),.pointer (some ⟨H,0,none⟩),.pointer (some ⟨rs,0,none⟩)] .returning w fun e u' U=>u'= .returning/\(e= .returned (.tuple #[])/\Hid (Rd U g A n c (if er=0 then p else st) st er)/\Hid (U.heap[rs]? =some (.cells #[(if er=0 then v else .slice none 0 0)] 40 (0,0)))/\Hid (But (fun k=>k=g∨k=rs) w U)):=by
 have HR:=lh hr;have HS:=lh hs;have ae:=lh K;have af:=lh J;have c1:=zz w g 1 _ _ _ hr;have c2:=zz w g 2 _ _ _ hr;have c3:=zz w g 3 _ _ _ hr;have cs:=zz w s 0 _ _ _ hs;have cb:=zz w H 0 _ _ _ K;have cr:=zz w rs 0 _ _ _ J;have f1:=frozen_of_row w g 1 _ _ hr;have f2:=frozen_of_row w g 2 _ _ hr;have fr:=frozen_of_row w rs 0 _ _ J;simp at c1 c2 c3 cs cb cr;have n1:¬g=H:=by omega
 have O:¬g=rs:=by omega
 have n3:¬g=s:=by omega
 have n4:¬H=rs:=by omega
 have n5:¬rs=s:=by omega
 have n6:¬H=s:=by omega
 have L:Hid (Rd (w.setCell ⟨g,2,none⟩ (.int .i64 st)) g A n c p st er):=heap_setCell_same w _ 2 _ _ (.int .i64 st) hr;have T:Hid (Rd ((w.setCell ⟨g,2,none⟩ (.int .i64 st)).setCell ⟨g,1,none⟩ (.int .i64 st)) g A n c st st er):=heap_setCell_same _ _ 1 _ _ (.int .i64 st) L.out;have M:Hid ((w.setCell ⟨g,2,none⟩ (.int .i64 st)).heap[rs]? =some (.cells #[v] 40 (0,0))):=(heap_setCell_other w _ _ _ (fun e=>O e.symm)).trans J;have Y:Hid (((w.setCell ⟨g,2,none⟩ (.int .i64 st)).setCell ⟨g,1,none⟩ (.int .i64 st)).heap[rs]? =some (.cells #[v] 40 (0,0))):=(heap_setCell_other _ _ _ _ (fun e=>O e.symm)).trans M.out;have z:Hid (Rd (((w.setCell ⟨g,2,none⟩ (.int .i64 st)).setCell ⟨g,1,none⟩ (.int .i64 st)).setCell ⟨rs,0,none⟩ (.slice none 0 0)) g A n c st st er):=(heap_setCell_other _ _ _ _ O).trans T.out;have Z:Hid ((((w.setCell ⟨g,2,none⟩ (.int .i64 st)).setCell ⟨g,1,none⟩ (.int .i64 st)).setCell ⟨rs,0,none⟩ (.slice none 0 0)).heap[rs]? =some (.cells #[.slice none 0 0] 40 (0,0))):=heap_setCell_same _ _ 0 _ _ (.slice none 0 0) Y.out;have HB:Hid (But (fun k=>k=g∨k=rs) w (w.setCell ⟨g,2,none⟩ (.int .i64 st))):=(But.refl _ _).setCell (.inl (.inl rfl)) _;have ac:Hid (But (fun k=>k=g∨k=rs) w (((w.setCell ⟨g,2,none⟩ (.int .i64 st)).setCell ⟨g,1,none⟩ (.int .i64 st)).setCell ⟨rs,0,none⟩ (.slice none 0 0))):=(HB.out.setCell (.inl (.inl rfl)) _).setCell (.inl (.inr rfl)) _;clear hs K J hr h1 h2 h3
 by_cases G:er=0
 ·have aa:(er != 0)=false:=by simp [G]
  have N:Hid ((if er=0 then p else st)=p):=if_pos G;have W:Hid ((if er=0 then v else Value.slice none 0 0)=v):=if_pos G;rw [N.out,W.out];clear G
  go_enter_d func252,ntmps252
  go_wp2
  go_end0
  exact ⟨rfl,L,M,HB⟩
 ·have aa:(er != 0)=true:=by simp [G]
  have N:Hid ((if er=0 then p else st)=st):=if_neg G;have W:Hid ((if er=0 then v else Value.slice none 0 0)=Value.slice none 0 0):=if_neg G;rw [N.out,W.out];clear G
  go_enter_d func252,ntmps252
  go_wp2
  go_end0
  exact ⟨rfl,z,Z,ac⟩
theorem bytesc_any (a b g:Nat) (A:Option Addr) (n c p m:Nat) (pv K:Int) (bs:List Int) (w:World) (ha:w.heap[a]? =some (.cells #[.pointer (some ⟨g,0,none⟩)] 144 (0,0))) (U:w.heap[b]? =some (.cells #[.int .i64 m] 3 (0,0))) (hr:Rd w g A n c p pv K) (hx:Sl fB w g A n bs) (hb:∀b∈bs,0<=b/\b < 256) (hp:p<=n) (hn:n<=1000000) (hm:m<=1000000) (ag:n<=c):
 Calls prog 212 #[.pointer (some ⟨a,0,none⟩),.pointer (some ⟨b,0,none⟩)] w fun e w'=>∃M k5 N,e= .returned (.tuple #[.slice M k5 N,.int .i64 (blkL bs m p).2.1])/\Own fB 5 w' w.heap.size (.slice M k5 N) (blkL bs m p).1/\Rd w' g A n c (blkL bs m p).2.2 pv K/\But (fun k=>k=g) w w':=by
 obtain ⟨i0,hi,O,Z,z⟩:=info_parts Tryz.infoB;have HI:=lh hi;have ae:=lh O;have ai:=lh Z;have aj:=lh z;have HC:=lh (block_any g A n c p m pv K bs w hr hx hb hp hn hm ag);have J:Hid (g < w.heap.size):=lb hr;have ca:=zz w a 0 _ _ _ ha;have cb:=zz w b 0 _ _ _ U;simp at ca cb
 have G:(blkL bs m p).1.length<=1000000:=by
  have am:=hx.1
  have ak:∀k q,(tkL bs k q).1.length<=1000000:=fun k q=>by
   unfold tkL
   split
   ·simp
   ·simp only [List.length_take,List.length_drop];omega
  unfold blkL
  split
  ·exact ak _ _
  ·simp
 obtain ⟨xs,er,p',hN⟩:∃v er p',blkL bs m p=(v,er,p'):=⟨_,_,_,rfl⟩
 rw [hN] at HC G ⊢;have T:=lh G;clear hr hx hb hN ha U hi O Z z G;go_enter func212,ntmps212;go_wp2_with fail;refine HC.out.mono ?_;rintro e w1 ⟨A',k,c',rfl,h0,h1,h2⟩;have H0:Hid (Sl fB w1 w1.heap.size A' k xs):=h0.more' (lT (Nat.le_of_lt J.out) h2.size);have H1:=lh h1;have H2:=lh h2;have ah:Hid (Own fB 5 w1 w.heap.size (.slice none 0 0) []):=Own.nil;have ac:Hid ((([]:List Int).length+xs.length)*1<=140737488355328):=by show _<=_;have:=T.out;simp only [List.length_nil];omega
 have af:Hid (([]:List Int).length+xs.length<=maxLen):=by show _<=_;have:=T.out;simp only [List.length_nil];unfold maxLen;omega
 have H:Hid (w.heap.size<=w1.heap.size):=h2.size;clear h0 h1 h2;go_wp2_with (at_builtin;(with_reducible refine ybD (o:=⟨some 13,_,_,_,_,_⟩) rfl (.const (.slice none 0 0)) (.tmp 12) 40 rfl 5 i0 (.int .u8 0) 1 underlying40 HI.out ae.out ai.out aj.out rfl _ [] w.heap.size rfl ah.out _ _ _ w1.heap.size xs rfl H0.out fB1 ac.out af.out H.out ?_);intro v2 w2 W Y ao);go_ret2;obtain ⟨M,N,aa,_,_,_⟩:=W.out.shape;have L:But (fun k=>k=g) w1 w2:=But.of_below (ybe Y.out (fun k hk=>by cases hk) nl);refine ⟨M,_,N,by rw [<-aa];rfl,?_,?_,H2.out.trans L (fun i hi=> .inl hi)⟩
 ·rw [<-aa];exact W.out
 ·exact (L.block g (Nat.lt_of_lt_of_le J.out H.out) |> fun h=>by
   have h3:w2.heap[g]? =w1.heap[g]? :=Y.out.block g (Nat.lt_of_lt_of_le J.out H.out) (fun e=>by cases e)
   exact h3.trans H1.out)
def RPy (g:Nat) (A:Option Addr) (n c p:Nat) (xs:List Int) (er:Int) (p':Nat) (w:World) (e:Ending) (w':World):Prop:=
 ∃A5 k5 c5,e= .returned (.slice A5 k5 c5)/\Own fB 5 w' w.heap.size (.slice A5 k5 c5) (if er=0 then xs else [])/\Rd w' g A n c (if er=0 then p' else p) p er/\But (fun k=>k=g) w w'
theorem readY (a b m g:Nat) (A:Option Addr) (n c p:Nat) (T:Int) (bs:List Int) (w:World) (ha:w.heap[a]? =some (.cells #[.pointer (some ⟨g,0,none⟩)] 144 (0,0))) (ak:w.heap[b]? =some (.cells #[.int .i64 m] 3 (0,0))) (hm:m<=1000000) (hr:Rd w g A n c p T 0) (z:Sl fB w g A n bs) (hb:∀b∈bs,0<=b/\b < 256) (hp:p<=n) (hn:n<=1000000) (aR:n<=c):
 Calls prog 211 #[.pointer (some ⟨g,0,none⟩),.func (.func 212) #[] #[.pointer (some ⟨a,0,none⟩),.pointer (some ⟨b,0,none⟩)]] w (RPy g A n c p (blkL bs m p).1 (blkL bs m p).2.1 (blkL bs m p).2.2 w):=by
 have HR:=lh hr;have ac:g < w.heap.size:=lb hr;have aX:∀(fn:Fn) (first cap:Array Value) (w:World),(Instr.makeFunc fn first cap).run prog w= .ok (.func fn first cap) w:=fun _ _ _ _=>rfl;have c1:=zz w g 1 _ _ _ hr;have c3:=zz w g 3 _ _ _ hr;have f3:=frozen_of_row w g 3 _ _ hr;simp at c1 c3;obtain ⟨xs,er,Y,hN⟩:∃v er Y,blkL bs m p=(v,er,Y):=⟨_,_,_,rfl⟩
 have cN:Hid (∀W,Rd W g A n c p T 0->Sl fB W g A n bs->W.heap[a]? =some (.cells #[.pointer (some ⟨g,0,none⟩)] 144 (0,0))->W.heap[b]? =some (.cells #[.int .i64 m] 3 (0,0))->Calls prog 212 #[.pointer (some ⟨a,0,none⟩),.pointer (some ⟨b,0,none⟩)] W fun e w'=>∃G k5 H,e= .returned (.tuple #[.slice G k5 H,.int .i64 er])/\Own fB 5 w' W.heap.size (.slice G k5 H) xs/\Rd w' g A n c Y T 0/\But (fun k=>k=g) W w'):=fun W h1 h2 h3 h4=>by
  have:=bytesc_any a b g A n c p m T 0 bs W h3 h4 h1 h2 hb hp hn hm aR;rw [hN] at this;exact this
 rw [hN];have HX:=lh z;have am:=lh ha;have aw:=lh ak;clear hr z hb hN ha ak
 go_enter_defers func211,ntmps211
 go_wp2;obtain ⟨W3,N⟩:∃W3:World,W3=((w.alloc (.cells #[.pointer (some ⟨g,0,none⟩)] 144)).alloc (.cells #[.slice none 0 0] 40)).alloc (.cells #[.int .i64 p] 3):=⟨_,rfl⟩
 rw [<-N];have U:Hid (Below w.heap.size w W3):=by rw [N];exact (bl.alloc sI _).alloc yba _
 have ah:W3.heap.size=w.heap.size+1+1+1:=by rw [N];simp
 have ap:Hid (W3.heap[w.heap.size]? =some (.cells #[.pointer (some ⟨g,0,none⟩)] 144 (0,0))):=by
  show _=_;rw [N,Below.heap_alloc _ _ _ yba,Below.heap_alloc _ _ _ sI];exact zy w _
 have aN:Hid (W3.heap[w.heap.size+1]? =some (.cells #[.slice none 0 0] 40 (0,0))):=by
  show _=_;rw [N,Below.heap_alloc _ _ _ sI];have:=zy (w.alloc (.cells #[.pointer (some ⟨g,0,none⟩)] 144)) (.cells #[.slice none 0 0] 40);simpa using this
 have aQ:Hid (W3.heap[w.heap.size+1+1]? =some (.cells #[.int .i64 p] 3 (0,0))):=by
  show _=_;rw [N];have:=zy ((w.alloc (.cells #[.pointer (some ⟨g,0,none⟩)] 144)).alloc (.cells #[.slice none 0 0] 40)) (.cells #[.int .i64 p] 3);simpa using this
 have aF:Hid (Rd W3 g A n c p T 0):=(U.out.block g ac).trans HR.out;have aC:Hid (Sl fB W3 g A n bs):=HX.out.up U.out (Nat.le_of_lt ac);have aA:Hid (W3.heap[a]? =some (.cells #[.pointer (some ⟨g,0,none⟩)] 144 (0,0))):=(U.out.block a (lb am.out)).trans am.out;have ay:Hid (W3.heap[b]? =some (.cells #[.int .i64 m] 3 (0,0))):=(U.out.block b (lb aw.out)).trans aw.out;have cA:=zz W3 w.heap.size 0 _ _ _ ap.out;simp at cA;clear N c1 c3 f3;have aV:¬g=w.heap.size:=by omega
 have aW:¬w.heap.size=g:=by omega
 have aa:¬g=w.heap.size+1:=by omega
 have az:¬w.heap.size+1=g:=by omega
 go_region_held3 (fun w'=>w'.cell? ⟨w.heap.size,0,none⟩=some (.pointer (some ⟨g,0,none⟩))) (first |go_keep |exact ag) (first |(go_at_call 212;(refine (cN.out W3.drew aF.out aC.out aA.out ay.out).mono ?_);(rintro e J ⟨G,k5,H,rfl,ar,Z,L⟩);(have ao:=lh ar);(have aJ:=lh Z);(have aj:Hid (But (fun k=>k=g) W3 J):=⟨L.os,L.tape,L.output,L.size,L.block⟩);(have au:Hid (J.heap[w.heap.size]? =some (.cells #[.pointer (some ⟨g,0,none⟩)] 144 (0,0))):=(L.block w.heap.size yaZ om).trans ap.out);(have af:Hid (J.heap[w.heap.size+1]? =some (.cells #[.slice none 0 0] 40 (0,0))):=(L.block (w.heap.size+1) yaZ om).trans aN.out);(have ag:=zz J w.heap.size 0 _ _ _ au.out);(simp at ag);(have aD:=zz J (w.heap.size+1) 0 _ _ _ af.out);(have aT:=zz J g 3 _ _ _ Z);(simp at aD aT);(have aZ:=frozen_of_row J (w.heap.size+1) 0 _ _ af.out);(have aY:=frozen_of_row J g 3 _ _ Z);(clear L Z ar)))
 go_wp2;have aU:Hid (J.heap[w.heap.size+1+1]? =some (.cells #[.int .i64 p] 3 (0,0))):=(aj.out.block (w.heap.size+1+1) om om).trans aQ.out;obtain ⟨O,M⟩:∃O:World,O=((J.setCell ⟨w.heap.size+1,0,none⟩ (.slice G k5 H)).setCell ⟨g,3,none⟩ (.int .i64 er)).setCell ⟨w.heap.size+1,0,none⟩ (.slice G k5 H):=⟨_,rfl⟩
 rw [<-M]
 have o1:∀k,k≠w.heap.size+1->k≠g->O.heap[k]? =J.heap[k]? :=fun k h1 h2=>by
  rw [M];exact (heap_setCell_other _ _ _ _ h1).trans ((heap_setCell_other _ _ _ _ h2).trans (heap_setCell_other _ _ _ _ h1))
 have aK:O.heap[w.heap.size]? =some (.cells #[.pointer (some ⟨g,0,none⟩)] 144 (0,0)):=(o1 _ om om).trans au.out;have aP:O.heap[w.heap.size+1+1]? =some (.cells #[.int .i64 p] 3 (0,0)):=(o1 _ om om).trans aU.out;have aM:Rd (J.setCell ⟨w.heap.size+1,0,none⟩ (.slice G k5 H)) g A n c Y T 0:=(heap_setCell_other _ _ _ _ aa).trans aJ.out;have aL:Rd ((J.setCell ⟨w.heap.size+1,0,none⟩ (.slice G k5 H)).setCell ⟨g,3,none⟩ (.int .i64 er)) g A n c Y T er:=heap_setCell_same _ _ 3 _ _ (.int .i64 er) aM;have aG:Rd O g A n c Y T er:=by rw [M];exact (heap_setCell_other _ _ _ _ aa).trans aL
 have aS:(J.setCell ⟨w.heap.size+1,0,none⟩ (.slice G k5 H)).heap[w.heap.size+1]? =some (.cells #[.slice G k5 H] 40 (0,0)):=heap_setCell_same _ _ 0 _ _ (.slice G k5 H) af.out
 have aO:O.heap[w.heap.size+1]? =some (.cells #[.slice G k5 H] 40 (0,0)):=by
  rw [M];exact heap_setCell_same _ _ 0 _ _ (.slice G k5 H) ((heap_setCell_other _ _ _ _ az).trans aS)
 have aI:Hid (But (fun k=>k=g) w O):=by
  have h1:But (fun k=>k=g) w J:=(But.of_below (p:=fun k=>k=g) U.out).trans (q:=fun k=>k=g) aj.out (fun i hi=> .inl hi);rw [M];exact ((h1.setCell (.inr ya1) _).setCell (.inl rfl) _).setCell (.inr ya1) _
 have ax:=M;clear M;refine leaves_cons (f:=252) (args:=#[.pointer (some ⟨w.heap.size+1+1,0,none⟩),.pointer (some ⟨w.heap.size,0,none⟩),.pointer (some ⟨w.heap.size+1,0,none⟩)]) sI (by simp [go_sem]) ?_
 have aE:Hid (Own fB 5 O w.heap.size (.slice G k5 H) xs):=by
  have hl:=ao.out.low (base':=w.heap.size+1+1+1) (by show _<=W3.drew.heap.size;exact Nat.le_of_eq ah.symm);have z:=ol hl;refine Own.low (base:=w.heap.size+1+1+1) ?_ om;rw [ax];have b1:But (fun k=>k=g∨k=w.heap.size+1) J (J.setCell ⟨w.heap.size+1,0,none⟩ (.slice G k5 H)):=(But.refl _ _).setCell (.inl (.inr rfl)) _;have b2:=b1.setCell (x:=⟨g,3,none⟩) (.inl (.inl rfl)) (.int .i64 er);have b3:=b2.setCell (x:=⟨w.heap.size+1,0,none⟩) (.inl (.inr rfl)) (.slice G k5 H);exact hl.but b3 (fun k hk h=>by have:=(z k hk).1;rcases h with rfl |rfl<;>omega)
 refine (closed_Y _ _ _ g A n c Y p T er (.slice G k5 H) _ aP aK aO aG ac om om).mono ?_;rintro e u' w9 ⟨rfl,rfl,ai,aB,aq⟩;have K:=zz w9 (w.heap.size+1) 0 _ _ _ aB.out;have ae:But (fun k=>k=g) w w9:=aI.out.trans aq.out (fun i hi=>by rcases hi with rfl |rfl;exact .inl rfl;exact .inr om)
 have aH:Own fB 5 w9 w.heap.size (.slice G k5 H) xs:=by
  have hl:=ao.out.low (base':=w.heap.size+1+1+1) (by show _<=W3.drew.heap.size;exact Nat.le_of_eq ah.symm);have z:=ol hl;exact aE.out.but aq.out (fun k hk h=>by have:=(z k hk).1;rcases h with rfl |rfl<;>omega)
 by_cases h0:er=0
 ·rw [if_pos h0] at K;refine ⟨.slice G k5 H,?_,⟨G,k5,H,rfl,by rw [if_pos h0];exact aH,ai.out,ae⟩⟩;simp at K;simp [results,go_sem,K]
  done
 ·rw [if_neg h0] at K;refine ⟨.slice none 0 0,?_,⟨none,0,0,rfl,by rw [if_neg h0];exact Own.nil,ai.out,ae⟩⟩;simp at K;simp [results,go_sem,K]
  done
theorem readY_err (U:Value) (g:Nat) (A:Option Addr) (n c p:Nat) (T er:Int) (w:World) (hr:Rd w g A n c p T er) (L:er≠0):
 Calls prog 211 #[.pointer (some ⟨g,0,none⟩),U] w fun e M=>e= .returned (.slice none 0 0)/\Rd M g A n c p T er/\Below w.heap.size w M:=by
 have W:(er != 0)=true:=by simp [L]
 have c3:=zz w g 3 _ _ _ hr;simp at c3;have HR:=lh hr;have N:g < w.heap.size:=lb hr;clear hr L
 go_enter_defers func211,ntmps211
 go_wp2;obtain ⟨H,G⟩:∃H:World,H=(w.alloc (.cells #[.pointer (some ⟨g,0,none⟩)] 144)).alloc (.cells #[.slice none 0 0] 40):=⟨_,rfl⟩
 have K:Below w.heap.size w H:=by rw [G];exact bl.alloc sI _
 have O:H.heap[w.heap.size+1]? =some (.cells #[.slice none 0 0] 40 (0,0)):=by
  rw [G];have:=zy (w.alloc (.cells #[.pointer (some ⟨g,0,none⟩)] 144)) (.cells #[.slice none 0 0] 40);simpa using this
 rw [<-G];have J:=zz _ (w.heap.size+1) 0 _ _ _ O;simp at J;refine ⟨.slice none 0 0,?_,rfl,(K.block g N).trans HR.out,K⟩;simp [results,go_sem,J]
theorem rbytes_ok (g:Nat) (A:Option Addr) (n c p m:Nat) (O:Int) (bs:List Int) (w:World) (hr:Rd w g A n c p O 0) (T:Sl fB w g A n bs) (W:∀b∈bs,0<=b/\b < 256) (hp:p<=n) (hn:n<=1000000) (hm:m<=1000000) (U:n<=c):
 Calls prog 171 #[.pointer (some ⟨g,0,none⟩),.int .i64 m] w (RPy g A n c p (blkL bs m p).1 (blkL bs m p).2.1 (blkL bs m p).2.2 w):=by
 have aa:∀(fn:Fn) (first cap:Array Value) (w:World),(Instr.makeFunc fn first cap).run prog w= .ok (.func fn first cap) w:=fun _ _ _ _=>rfl;obtain ⟨J,G⟩:∃J:World,J=(w.alloc (.cells #[.pointer (some ⟨g,0,none⟩)] 144)).alloc (.cells #[.int .i64 m] 3):=⟨_,rfl⟩
 have L:g < w.heap.size:=lb hr;have H:Below w.heap.size w J:=by rw [G];exact bl.alloc sI _
 have M:J.heap[w.heap.size]? =some (.cells #[.pointer (some ⟨g,0,none⟩)] 144 (0,0)):=by
  rw [G,Below.heap_alloc _ _ _ sI];exact zy w _
 have N:J.heap[w.heap.size+1]? =some (.cells #[.int .i64 m] 3 (0,0)):=by
  rw [G];have:=zy (w.alloc (.cells #[.pointer (some ⟨g,0,none⟩)] 144)) (.cells #[.int .i64 m] 3);simpa using this
 have HC:=lh (readY w.heap.size (w.heap.size+1) m g A n c p O bs J M N hm ((H.block g L).trans hr) (T.up H (Nat.le_of_lt L)) W hp hn U);have K:=lh H;rw [G] at HC K;obtain ⟨v,er,Y,Z⟩:∃v er Y,blkL bs m p=(v,er,Y):=⟨_,_,_,rfl⟩
 rw [Z] at HC ⊢;clear hr T W Z M N H G;go_enter func171,ntmps171;go_wp2_with (go_at_call 211;refine HC.out.mono ?_;rintro e w1 ⟨z,k5,c5,rfl,h0,h1,h2⟩;have H0:=lh h0;have H1:=lh h1;have H2:=lh h2;clear h0 h1 h2);go_ret;exact ⟨z,k5,c5,rfl,H0.out.low K.out.size,H1.out,(But.of_below (p:=fun k=>k=g) K.out).trans (q:=fun k=>k=g) H2.out (fun i hi=> .inl hi)⟩
theorem rbytes_err (g:Nat) (A:Option Addr) (n c p m:Nat) (K er:Int) (w:World) (hr:Rd w g A n c p K er) (L:er≠0):
 Calls prog 171 #[.pointer (some ⟨g,0,none⟩),.int .i64 m] w fun e T=>e= .returned (.slice none 0 0)/\Rd T g A n c p K er/\Below w.heap.size w T:=by
 have Z:∀(fn:Fn) (first cap:Array Value) (w:World),(Instr.makeFunc fn first cap).run prog w= .ok (.func fn first cap) w:=fun _ _ _ _=>rfl;obtain ⟨J,G⟩:∃J:World,J=(w.alloc (.cells #[.pointer (some ⟨g,0,none⟩)] 144)).alloc (.cells #[.int .i64 m] 3):=⟨_,rfl⟩
 have O:g < w.heap.size:=lb hr;have H:Below w.heap.size w J:=by rw [G];exact bl.alloc sI _
 have HC:=lh (fun U=>readY_err U g A n c p K er J ((H.block g O).trans hr) L);have M:=lh H;have N:=lh G;clear hr L H G;go_enter func171,ntmps171;go_wp2_with fail;rw [<-N.out];refine (HC.out _).mono ?_;rintro e w1 ⟨rfl,h1,h2⟩;have W:=lh h1;have Y:=lh h2;clear h1 h2;go_wp2_with fail;go_ret;exact ⟨rfl,W.out,bt M.out Y.out⟩
def rY (bs:List Int) (m:Nat) (s:RS):List Int × RS:=rV s [] (blkL bs m s.1)
def RYPost (g:Nat) (A:Option Addr) (n c:Nat) (bs:List Int) (xs:List Int) (s:RS) (w:World) (e:Ending) (w':World):Prop:=
 ∃A5 k5 c5,e= .returned (.slice A5 k5 c5)/\Own fB 5 w' w.heap.size (.slice A5 k5 c5) xs/\RdS g A n c bs s w'/\But (fun k=>k=g) w w'
theorem tkL_le {bs:List Int} {k p n:Nat} (hl:bs.length=n) (h:p<=n):(tkL bs k p).2.2<=n:=tkF_le (k:=k) hl h
theorem rY_le {bs:List Int} {s:RS} {m n:Nat} (hl:bs.length=n) (h:s.1<=n):(rY bs m s).2.1<=n:=rV_le h (by
 have G:(limF m (numF bs 10 0 0 s.1)).2.2<=n:=by rw [yc2,<-hl];exact yda bs 10 0 0 s.1 om
 unfold blkL
 split
 ·exact tkL_le hl G
 ·exact G)
theorem ry_any (g:Nat) (A:Option Addr) (n c:Nat) (bs:List Int) (s:RS) (m:Nat) (W:m<=1000000) (w:World) (hr:RdS g A n c bs s w) (M:RK bs n c) (hp:s.1<=n):
 Calls prog 171 #[.pointer (some ⟨g,0,none⟩),.int .i64 m] w (RYPost g A n c bs (rY bs m s).1 (rY bs m s).2 w):=by
 obtain ⟨⟨L,h1⟩,h2⟩:=hr;obtain ⟨p,er⟩:=s;have K:=Nat.le_of_lt (lb h1)
 by_cases h0:er=0
 ·subst h0;refine (rbytes_ok g A n c p m L bs w h1 h2 M.1 hp M.2.1 W M.2.2).mono ?_;rintro e U ⟨O,k5,T,rfl,J,G,H⟩;have N:=h2.butg H K;unfold rY;simp only [rV,if_true] at J G ⊢
  split
  ·next hz=>
   rw [if_pos hz] at J G;rw [hz] at G;exact ⟨O,k5,T,rfl,J,⟨⟨_,G⟩,N⟩,H⟩
  ·next hz=>
   rw [if_neg hz] at J G;exact ⟨O,k5,T,rfl,J,⟨⟨_,G⟩,N⟩,H⟩
 ·refine (rbytes_err g A n c p m L er w h1 h0).mono ?_;rintro e U ⟨rfl,G,H⟩;unfold rY;simp only [rV,h0,if_false];exact ⟨none,0,0,rfl,Own.nil,⟨⟨L,G⟩,h2.butg (But.of_below H) K⟩,But.of_below H⟩
def AtL (bs:List Int) (p:Nat) (xs:List Int):Prop:=∀j,j < xs.length->bs[p+j]? =xs[j]?
theorem AtL.nil {bs:List Int} {p:Nat}:AtL bs p []:=fun j hj=>absurd hj sI
theorem AtL.left {bs:List Int} {p:Nat} {xs ys:List Int} (h:AtL bs p (xs++ys)):AtL bs p xs:=fun j hj=>by
 rw [h j (by rw [List.length_append];omega),List.getElem?_append_left hj]
theorem AtL.right {bs:List Int} {p:Nat} {xs ys:List Int} (h:AtL bs p (xs++ys)):AtL bs (p+xs.length) ys:=fun j hj=>by
 have:=h (xs.length+j) (by rw [List.length_append];omega);rw [List.getElem?_append_right om,Nat.add_sub_cancel_left,<-Nat.add_assoc] at this;exact this
theorem AtL.app {bs:List Int} {p:Nat} {xs ys:List Int} (h1:AtL bs p xs) (h2:AtL bs (p+xs.length) ys):AtL bs p (xs++ys):=fun j hj=>by
 rcases Nat.lt_or_ge j xs.length with h |h
 ·rw [List.getElem?_append_left h];exact h1 j h
 ·rw [List.getElem?_append_right h,<-h2 (j - xs.length) (by rw [List.length_append] at hj;omega)]
  congr 1;omega
theorem AtL.all {bs xs:List Int} (h:AtL bs 0 xs) (hl:xs.length=bs.length):xs=bs:=by
 apply List.ext_getElem?;intro j;rcases Nat.lt_or_ge j xs.length with h1 |h1
 ·have:=h j h1;rw [Nat.zero_add] at this;exact this.symm
 ·rw [List.getElem?_eq_none h1,List.getElem?_eq_none om]
def Ok (bs:List Int) (s s':RS) (xs:List Int):Prop:=s'.1=s.1+xs.length/\AtL bs s.1 xs
theorem Ok.refl (bs:List Int) (s:RS):Ok bs s s []:=⟨rfl,AtL.nil⟩
theorem Ok.trans {bs:List Int} {s H G:RS} {xs ys:List Int} (h:Ok bs s H xs) (k:Ok bs H G ys):Ok bs s G (xs++ys):=
 ⟨by rw [k.1,h.1,List.length_append,Nat.add_assoc],h.2.app (by have:=k.2;rwa [h.1] at this)⟩
section
variable {bs:List Int} (hb:∀b∈bs,0<=b/\b < 256)
include hb
theorem num_only {p q:Nat} {v:Int} (h:numF bs 10 0 0 p=(v,0,q)):∃n:Nat,v=n/\n < 18446744073709551616/\q=p+(enc n).length/\AtL bs p (enc n):=by
 obtain ⟨n,G,K,J,_,_,H⟩:=numF_only bs hb 10 0 0 p q v rfl h;simp only [Nat.pow_zero,Nat.mul_one,Nat.zero_add] at G H;exact ⟨n,G,H,K,J⟩
theorem rU_only {s:RS} (h:(rU bs s).2.2=0):s.2=0/\∃n:Nat,(rU bs s).1=n/\n < 18446744073709551616/\Ok bs s (rU bs s).2 (enc n):=by
 obtain ⟨h1,h2,G⟩:=rV_ok h;refine ⟨h1,?_⟩;unfold rU;rw [G];exact num_only hb (show numF bs 10 0 0 s.1=(_,0,_) by rw [<-h2])
theorem tk_only {n p:Nat} (h:(tkF bs n p).2.1=0):(tkF bs n p).1.size=n/\(tkF bs n p).2.2=p+n/\AtL bs p (sB (tkF bs n p).1):=by
 rw [tkF_eq] at h ⊢
 split at h
 ·cases h
 ·next h1=>
  rw [if_neg h1];have hs:sB (baOf ((bs.drop p).take n))=(bs.drop p).take n:=ybC (fun b G=>hb b (List.mem_of_mem_drop (List.mem_of_mem_take G)));refine ⟨?_,rfl,?_⟩
  ·have:=ybI (baOf ((bs.drop p).take n));rw [hs,List.length_take,List.length_drop] at this;show (baOf ((bs.drop p).take n)).size=n;omega
  ·show AtL bs p (sB (baOf ((bs.drop p).take n)));rw [hs];intro j hj;rw [List.length_take] at hj;rw [List.getElem?_take,if_pos om,List.getElem?_drop]
theorem rS_only {s:RS} (h:(rS bs s).2.2=0):s.2=0/\(rS bs s).1.size=32/\Ok bs s (rS bs s).2 (sB (rS bs s).1):=by
 obtain ⟨h1,h2,H⟩:=rV_ok h;have G:=tk_only hb h2;refine ⟨h1,?_⟩;unfold rS;rw [H];refine ⟨G.1,?_,G.2.2⟩;show (tkF bs 32 s.1).2.2=_;rw [ybI,G.1,G.2.1]
end
section
variable {bs:List Int}
theorem num_rt {p n:Nat} (h:AtL bs p (enc n)) (hn:n < 18446744073709551616):numF bs 10 0 0 p=((n:Int),0,p+(enc n).length):=by
 have:=yd5 bs 10 n 0 0 p om om om h (.inl rfl) om;simpa [enc] using this
theorem AtL.cut {p:Nat} {xs:List Int} (h:AtL bs p xs):(bs.drop p).take xs.length=xs:=by
 apply List.ext_getElem?;intro j;rw [List.getElem?_take]
 split
 ·next hj=>rw [List.getElem?_drop];exact h j hj
 ·next hj=>rw [List.getElem?_eq_none om]
theorem AtL.fits {p:Nat} {xs:List Int} (h:AtL bs p xs) (h0:0 < xs.length):p+xs.length<=bs.length:=by
 rcases Nat.lt_or_ge bs.length (p+xs.length) with hlt |hlt
 ·have:=h (xs.length - 1) om;rw [List.getElem?_eq_none om,List.getElem?_eq_getElem om] at this;cases this
 ·exact hlt
end
