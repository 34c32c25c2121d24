import Derived.Test.YtpdledjgbgalcaaGreatDoorPf
import Derived.Test.YtpdledjgbgalcaaGreatDoorPg
namespace Go.Proofs.YtpdledjgbgalcaaGreatDoor
set_option maxRecDepth 100000
set_option maxHeartbeats 4000000
open Go.RowKit Go.Lib Go.Proofs.Tryz
set_option linter.unusedVariables false
set_option linter.unusedSimpArgs false
def numB (d q:Int):Bool:=decide ((0<=d/\d<=11)/\(1<=q/\q<=1099511627776))
def idB (s:ByteArray) (ix:Int):Bool:=decide (s.size=32/\0<=ix/\ix<=15)
def sumsB (ys:List ByteArray):Bool:=ys.all fun s=>decide (s.size=32)
structure Pc where
 s:ByteArray
 ix:Int
 d:Hd
 q:Hd
abbrev cPc (p:Pc):Array Value:=#[.string p.s,.int .i64 p.ix,.slice p.d.a p.d.n p.d.c,.slice p.q.a p.q.n p.q.c]
def shB (p:Pc) (ys:List ByteArray):Bool:=decide ((p.s.size=32/\0<=p.ix/\p.ix<=15)/\(1<=p.d.n/\p.d.n<=65536)/\(1<=p.q.n/\p.q.n<=16)/\sumsB ys=true)
theorem ycc {ys:List ByteArray}:sumsB ys=true↔∀s∈ys,s.size=32:=by unfold sumsB;simp
theorem ycr {ys:List ByteArray} {s:ByteArray} (h:s∈ys) (hs:s.size≠32):sumsB ys=false:=by
 cases hb:sumsB ys
 ·rfl
 ·exact absurd (ycc.1 hb s h) hs
def PcIn (w:World) (B:Nat) (p:Pc) (xs:List Int) (ys:List ByteArray):Prop:=Sl fB w B p.d.a p.d.n xs/\Sl fT w B p.q.a p.q.n ys/\p.d.n<=p.d.c/\p.q.n<=p.q.c
theorem PcIn.up {w w':World} {B B':Nat} {p:Pc} {xs:List Int} {ys:List ByteArray} (h:PcIn w B p xs ys) (hb:Below B' w w') (hB:B<=B'):PcIn w' B p xs ys:=⟨h.1.up hb hB,h.2.1.up hb hB,h.2.2⟩
theorem PcIn.more {w:World} {B B':Nat} {p:Pc} {xs:List Int} {ys:List ByteArray} (h:PcIn w B p xs ys) (hB:B<=B'):PcIn w B' p xs ys:=⟨h.1.more' hB,h.2.1.more' hB,h.2.2⟩
theorem entry_any (d q:Int) (w:World):Calls prog 44 #[.int .i64 d,.int .i64 q] w fun e G=>e= .returned (.bool (numB d q))/\w=G:=by
 by_cases h0:0<=d
 ·skip
  by_cases h1:d < 12
  ·skip
   by_cases h2:1<=q
   ·skip
    by_cases H:q<=1099511627776
    ·skip
     go_enter func44,ntmps44;go_wp2;go_ret;exact ⟨ybg yaM,rfl⟩
    ·go_enter func44,ntmps44;go_wp2;go_ret;exact ⟨ybg yaM,rfl⟩
   ·go_enter func44,ntmps44;go_wp2;go_ret;exact ⟨ybg yaM,rfl⟩
  ·go_enter func44,ntmps44;go_wp2;go_ret;exact ⟨ybg yaM,rfl⟩
 ·go_enter func44,ntmps44;go_wp2;go_ret;exact ⟨ybg yaM,rfl⟩
theorem ycT (d q:Int) (w:World):Calls prog 37 #[.int .i64 d,.int .i64 q] w fun e K=>e= .returned (.bool (numB d q))/\w=K:=by
 have H:=lh (fun W=>yb5 d 0 11 W);have J:=lh (fun W=>yb5 q 1 1099511627776 W);have G:Hid (numB d q=(decide (0<=d/\d<=11)&&decide (1<=q/\q<=1099511627776))):=by show _=_;unfold numB;rw [Bool.decide_and]
 rw [G.out];cases h1:decide (0<=d/\d<=11)
 all_goals
  rw [h1] at H;clear h1 G;go_enter func37,ntmps37
  go_wp2_with (first
   |(go_at_call 42;(with_reducible refine (H.out _).mono ?_);rintro e w1 ⟨rfl,rfl⟩)
   |(go_at_call 42;(with_reducible refine (J.out _).mono ?_);rintro e w1 ⟨rfl,rfl⟩))
  go_ret;exact ⟨ybg sI,rfl⟩
theorem isID_any (s:ByteArray) (ix:Int) (w:World):Calls prog 85 #[.agg #[.string s,.int .i64 ix]] w fun e K=>e= .returned (.bool (idB s ix))/\Below w.heap.size w K:=by
 have H:=lh (fun W=>yb5 ix 0 15 W);have G:Hid (idB s ix=(decide (s.size=32)&&decide (0<=ix/\ix<=15))):=by show _=_;unfold idB;rw [Bool.decide_and]
 rw [G.out]
 by_cases hs:s.size=32
 ·have J:((s.size:Nat):Int)=32:=by omega
  have hd:decide (s.size=32)=true:=decide_eq_true hs;rw [hd];clear G hs hd;go_enter func85,ntmps85
  go_wp2_with (first
   |(go_at_call 42;(with_reducible refine (H.out _).mono ?_);rintro e w1 ⟨rfl,rfl⟩))
  go_ret;exact ⟨ybg sI,bl⟩
 ·have J:(((s.size:Nat):Int)==32)=false:=by simp;omega
  have hd:decide (s.size=32)=false:=decide_eq_false hs;rw [hd];clear G hs hd H;go_enter func85,ntmps85;go_wp2;go_ret;exact ⟨rfl,bl⟩
theorem indexF_shown (A:Option Addr) (n c B:Nat) (ys:List ByteArray) (w:World) (q:Nat) (J:Sl fT w B A n ys) (hn:n<=1000000) (hf:∀s,Calls prog 137 #[.string s,.pointer (some ⟨q,0,none⟩)] w fun e K=>e= .returned (.bool (!decide (s.size=32)))/\w=K):
 Calls prog 165 #[.slice A n c,.func (.func 137) #[] #[.pointer (some ⟨q,0,none⟩)]] w fun e K=>∃z:Int,e= .returned (.int .i64 z)/\decide (0<=z)= !sumsB ys/\w=K:=by
 have N:=lh J;have HXN:Hid (ys.length=n):=J.1;have HC:=lh hf;clear J hf;go_enter func165,ntmps165;go_wp2
 go_loopw [8] (fun i wr=>∃k:Nat,k<=n/\i= .int .i64 k/\Hid (∀s∈ys.take k,s.size=32)/\w=wr) (fun i _=>n - (intOf i).toNat)
 case atStart=>exact ⟨0,by omega,rfl,fun s h=>by simp at h,rfl⟩
 case round=>
  obtain ⟨k,Y,rfl,L,rfl⟩:=hrel
  by_cases hlt:k < n
  ·obtain ⟨b,U,x,rfl,_,H,W⟩:=N.out.2.at_ (k:=k) ya3;have T:(k:Int) < (n:Int):=by omega
   have G:=lh (HC.out x)
   by_cases hs:x.size=32
   ·have O:Hid (∀s∈ys.take (k+1),s.size=32):=fun s h=>by
     rw [ybq H,List.mem_append,List.mem_singleton] at h;rcases h with h |rfl
     ·exact L.out s h
     ·exact hs
    have hd:decide (x.size=32)=true:=decide_eq_true hs;rw [hd] at G;clear hs hd H
    go_wp2_with (first
     |(go_at_call 137;(with_reducible refine G.out.mono ?_);rintro e w1 ⟨rfl,rfl⟩))
    refine ⟨?rel,?measure⟩;case rel=>exact ⟨k+1,by omega,by go_num,O,by trivial⟩
    case measure=>simp [intOf];omega
   ·have M:Hid (sumsB ys=false):=ycr (List.mem_of_getElem? H) hs;have hd:decide (x.size=32)=false:=decide_eq_false hs;rw [hd] at G;clear hs hd H
    go_wp2_with (first
     |(go_at_call 137;(with_reducible refine G.out.mono ?_);rintro e w1 ⟨rfl,rfl⟩))
    go_ret;exact ⟨_,rfl,by rw [M.out];simp,rfl⟩
  ·obtain rfl:k=n:=by omega
   go_wp2;go_ret;have h1:=L.out;rw [List.take_of_length_le yaX] at h1;exact ⟨-1,rfl,by rw [ycc.2 h1];rfl,rfl⟩
theorem containsF_shown (A:Option Addr) (n c B:Nat) (ys:List ByteArray) (w:World) (q:Nat) (J:Sl fT w B A n ys) (hn:n<=1000000) (hf:∀s,Calls prog 137 #[.string s,.pointer (some ⟨q,0,none⟩)] w fun e G=>e= .returned (.bool (!decide (s.size=32)))/\w=G):
 Calls prog 99 #[.slice A n c,.func (.func 137) #[] #[.pointer (some ⟨q,0,none⟩)]] w fun e G=>e= .returned (.bool (!sumsB ys))/\w=G:=by
 have HC:=lh (indexF_shown A n c B ys w q J hn hf);clear J hf;go_enter func99,ntmps99
 go_wp2_with (first
  |(go_at_call 165;(with_reducible refine HC.out.mono ?_);rintro e w1 ⟨z,rfl,H,rfl⟩;(have K:=lh H);clear H))
 go_ret;exact ⟨ybg K.out,rfl⟩
theorem isShown1_any (s:ByteArray) (w:World):Calls prog 136 #[.string s] w fun e H=>e= .returned (.bool (decide (s.size=32)))/\w=H:=by
 by_cases hs:s.size=32
 ·have G:((s.size:Nat):Int)=32:=by omega
  rw [decide_eq_true hs];clear hs;go_enter func136,ntmps136;go_wp2;go_ret;exact ⟨rfl,rfl⟩
 ·have G:(((s.size:Nat):Int)==32)=false:=by simp;omega
  rw [decide_eq_false hs];clear hs;go_enter func136,ntmps136;go_wp2;go_ret;exact ⟨rfl,rfl⟩
theorem isShown2_any (q:Nat) (s:ByteArray) (w:World) (J:w.cell? ⟨q,0,none⟩=some (.func (.func 136) #[] #[])):Calls prog 137 #[.string s,.pointer (some ⟨q,0,none⟩)] w fun e G=>e= .returned (.bool (!decide (s.size=32)))/\w=G:=by
 have H:=lh (isShown1_any s w);go_enter func137,ntmps137
 go_wp2_with (first
  |(go_at_call 136;(with_reducible refine H.out.mono ?_);rintro e w1 ⟨rfl,rfl⟩))
 go_ret;exact ⟨rfl,rfl⟩
theorem isShown_any (p:Pc) (xs:List Int) (ys:List ByteArray) (B:Nat) (w:World) (hx:PcIn w B p xs ys) (hB:B<=w.heap.size):Calls prog 71 #[.agg (cPc p)] w fun e w'=>e= .returned (.bool (shB p ys))/\Below w.heap.size w w':=by
 have ag:∀(a:Addr) (m:Mode) (w:World),(store a (.func (.func 136) #[] #[]) m).run prog w=stored prog w a (.func (.func 136) #[] #[]) m:=fun a m w=>run_store prog w a _ m rfl;have af:∀(fn:Fn) (first cap:Array Value) (w:World),(Instr.makeFunc fn first cap).run prog w= .ok (.func fn first cap) w:=fun _ _ _ _=>rfl;obtain ⟨s,ix,⟨a,n,c⟩,⟨a',m,L⟩⟩:=p;have hy:Sl fT w B a' m ys:=hx.2.1;have ah:Hid (n<=c):=hx.2.2.1;obtain ⟨J,K⟩:∃J:World,J=(w.alloc (.cells #[.string s,.int .i64 ix,.slice a n c,.slice a' m L] 42)).alloc (.cells #[.func (.func 136) #[] #[]] 163):=⟨_,rfl⟩
 have U:Below w.heap.size w J:=by rw [K];exact bl.alloc sI _
 have ac:J.heap.size=w.heap.size+1+1:=by rw [K];simp
 have hc:J.heap[w.heap.size]? =some (.cells #[.string s,.int .i64 ix,.slice a n c,.slice a' m L] 42 (0,0)):=by rw [K,Below.heap_alloc _ _ _ sI];exact zy w _
 have hq:J.heap[w.heap.size+1]? =some (.cells #[.func (.func 136) #[] #[]] 163 (0,0)):=by
  rw [K];have:=zy (w.alloc (.cells #[.string s,.int .i64 ix,.slice a n c,.slice a' m L] 42)) (.cells #[.func (.func 136) #[] #[]] 163);simpa using this
 have HC:Hid (∀W,Below J.heap.size J W->W.cell? ⟨w.heap.size,2,none⟩=some (.slice a n c)/\W.cell? ⟨w.heap.size,3,none⟩=some (.slice a' m L)):=fun W Y=>by
  have h:=(Y.block w.heap.size om).trans hc;exact ⟨by rw [cell_of_row W _ 2 _ _ _ h];rfl,by rw [cell_of_row W _ 3 _ _ _ h];rfl⟩
 have HF:Hid (m<=16->∀W,Below J.heap.size J W->Calls prog 99 #[.slice a' m L,.func (.func 137) #[] #[.pointer (some ⟨w.heap.size+1,0,none⟩)]] W fun e w'=>e= .returned (.bool (!sumsB ys))/\W=w'):=fun hm W Y=>
  containsF_shown a' m L B ys W (w.heap.size+1) (hy.up (bt U Y) hB) om (fun z=>isShown2_any _ z W (by rw [cell_of_row W _ 0 _ _ _ ((Y.block _ om).trans hq)];rfl))
 have N:=lh (isID_any s ix J);have O:=lh (fun W=>yb5 n 1 65536 W);have T:=lh (fun W=>yb5 m 1 16 W);have HB1:=lh U
 have HR:Hid (shB ⟨s,ix,⟨a,n,c⟩,⟨a',m,L⟩⟩ ys=(idB s ix&&(decide ((1:Int)<=n/\(n:Int)<=65536)&&(decide ((1:Int)<=m/\(m:Int)<=16)&&sumsB ys)))):=by
  show decide _=_;unfold idB;rw [Bool.eq_iff_iff];simp only [decide_eq_true_eq,Bool.and_eq_true]
  constructor
  ·rintro ⟨h1,h2,h3,Z⟩;exact ⟨h1,by omega,by omega,Z⟩
  ·rintro ⟨h1,h2,h3,Z⟩;exact ⟨h1,by omega,by omega,Z⟩
 have HWE:=lh K;rw [HR.out];rw [K] at N;show Calls prog 71 #[.agg #[.string s,.int .i64 ix,.slice a n c,.slice a' m L]] w _;clear hx hy hB U ac hc hq K HR
 cases h0:idB s ix
 ·rw [h0] at N;clear h0 HC HF O T;go_enter func71,ntmps71
  go_wp2_with (first
   |(go_at_call 85;(with_reducible refine N.out.mono ?_);rintro e M ⟨rfl,G⟩;rw [<-HWE.out] at G;have H:=lh G;clear G))
  go_ret;exact ⟨rfl,bt HB1.out H.out⟩
 ·rw [h0] at N;clear h0
  cases h1:decide ((1:Int)<=n/\(n:Int)<=65536)
  ·rw [h1] at O;clear h1 HF T;go_enter func71,ntmps71
   go_wp2_with (first
    |(go_at_call 85;(with_reducible refine N.out.mono ?_);rintro e M ⟨rfl,G⟩;rw [<-HWE.out] at G;have H:=lh G;obtain ⟨k2,k3⟩:=HC.out M G;clear G)
    |(go_at_call 42;(with_reducible refine (O.out _).mono ?_);rintro e w1 ⟨rfl,rfl⟩))
   go_ret;exact ⟨rfl,bt HB1.out H.out⟩
  ·rw [h1] at O;clear h1
   cases h2:decide ((1:Int)<=m/\(m:Int)<=16)
   ·rw [h2] at T;clear h2 HF;go_enter func71,ntmps71
    go_wp2_with (first
     |(go_at_call 85;(with_reducible refine N.out.mono ?_);rintro e M ⟨rfl,G⟩;rw [<-HWE.out] at G;have H:=lh G;obtain ⟨k2,k3⟩:=HC.out M G;clear G)
     |(go_at_call 42;(with_reducible refine (O.out _).mono ?_);rintro e w1 ⟨rfl,rfl⟩)
     |(go_at_call 42;(with_reducible refine (T.out _).mono ?_);rintro e w1 ⟨rfl,rfl⟩))
    go_ret;exact ⟨rfl,bt HB1.out H.out⟩
   ·rw [h2] at T;have aa:=lh (HF.out (by have:=of_decide_eq_true h2;omega));clear h2 HF;go_enter func71,ntmps71
    go_wp2_with (first
     |(go_at_call 85;(with_reducible refine N.out.mono ?_);rintro e M ⟨rfl,G⟩;rw [<-HWE.out] at G;have H:=lh G;have ae:=lh (aa.out M G);obtain ⟨k2,k3⟩:=HC.out M G;clear G)
     |(go_at_call 42;(with_reducible refine (O.out _).mono ?_);rintro e w1 ⟨rfl,rfl⟩)
     |(go_at_call 42;(with_reducible refine (T.out _).mono ?_);rintro e w1 ⟨rfl,rfl⟩)
     |(go_at_call 99;(with_reducible refine ae.out.mono ?_);rintro e w1 ⟨rfl,rfl⟩))
    go_ret;exact ⟨ybg sI,bt HB1.out H.out⟩
theorem shaped_any (p:Pc) (xs:List Int) (ys:List ByteArray) (B:Nat) (w:World) (W:PcIn w B p xs ys) (Y:B<=w.heap.size) (Z:p.q.n<=1000000):Calls prog 116 #[.agg (cPc p)] w fun e w'=>e= .returned (.bool (shB p ys))/\Below w.heap.size w w':=by
 obtain ⟨s,ix,⟨a,n,c⟩,⟨a',m,K⟩⟩:=p;have U:Sl fT w B a' m ys:=W.2.1;have ae:m<=1000000:=Z;obtain ⟨G,H⟩:∃G:World,G=w.alloc (.cells #[.string s,.int .i64 ix,.slice a n c,.slice a' m K] 42):=⟨_,rfl⟩
 have L:Below w.heap.size w G:=by rw [H];exact bl
 have J:G.heap[w.heap.size]? =some (.cells #[.string s,.int .i64 ix,.slice a n c,.slice a' m K] 42 (0,0)):=by rw [H];exact zy w _
 have k0:G.cell? ⟨w.heap.size,0,none⟩=some (.string s):=by rw [cell_of_row G _ 0 _ _ _ J];rfl
 have k1:G.cell? ⟨w.heap.size,1,none⟩=some (.int .i64 ix):=by rw [cell_of_row G _ 1 _ _ _ J];rfl
 have k2:G.cell? ⟨w.heap.size,2,none⟩=some (.slice a n c):=by rw [cell_of_row G _ 2 _ _ _ J];rfl
 have k3:G.cell? ⟨w.heap.size,3,none⟩=some (.slice a' m K):=by rw [cell_of_row G _ 3 _ _ _ J];rfl
 have z:=lh (U.up L Y);have O:Hid (ys.length=m):=U.1;have HB1:=lh L;have HWE:=lh H;show Calls prog 116 #[.agg #[.string s,.int .i64 ix,.slice a n c,.slice a' m K]] w _;clear W U Y L J H Z;go_enter func116,ntmps116;go_wp2_with fail;rw [<-HWE.out]
 go_loopw [3] (fun i wr=>∃k:Nat,k<=m/\i= .int .i64 k/\Hid (∀s∈ys.take k,s.size=32)/\G=wr) (fun i _=>m - (intOf i).toNat)
 case atStart=>exact ⟨0,by omega,rfl,fun s h=>by simp at h,rfl⟩
 case round=>
  obtain ⟨k,hk,rfl,T,rfl⟩:=hrel
  by_cases hlt:k < m
  ·obtain ⟨b,ac,x,rfl,_,N,J⟩:=z.out.2.at_ (k:=k) (by rw [O.out];exact hlt);have aa:(k:Int) < (m:Int):=by omega
   by_cases hs:x.size=32
   ·have HT:Hid (∀s∈ys.take (k+1),s.size=32):=fun s h=>by
     rw [ybq N,List.mem_append,List.mem_singleton] at h;rcases h with h |rfl
     ·exact T.out s h
     ·exact hs
    have hd:(((x.size:Nat):Int) != 32)=false:=by simp;omega
    clear hs N;go_wp2;refine ⟨?rel,?measure⟩;case rel=>exact ⟨k+1,by omega,by go_num,HT,by trivial⟩
    case measure=>simp [intOf];omega
   ·have M:Hid (sumsB ys=false):=ycr (List.mem_of_getElem? N) hs;have hd:(((x.size:Nat):Int) != 32)=true:=by simp;omega
    clear hs N;go_wp2;go_ret;exact ⟨ybg (by show false=decide _;rw [M.out];simp),HB1.out⟩
  ·obtain rfl:k=m:=by omega
   have M:sumsB ys=true:=ycc.2 (by
    have h1:=T.out
    rwa [List.take_of_length_le (by rw [O.out];exact Nat.le_refl _)] at h1)
   have HR:Hid (shB ⟨s,ix,⟨a,n,c⟩,⟨a',k,K⟩⟩ ys=decide ((s.size=32/\0<=ix/\ix<=15)/\(1<=n/\n<=65536)/\(1<=k/\k<=16))):=by
    show decide _=_;rw [M];simp only [and_true]
   clear M T
   by_cases h0:((s.size:Nat):Int)=32
   ·skip
    by_cases h1:0<=ix
    ·skip
     by_cases h2:ix < 16
     ·skip
      by_cases h3:(1:Int)<=(n:Int)
      ·skip
       by_cases h4:(n:Int)<=65536
       ·skip
        by_cases h5:(1:Int)<=(k:Int)
        ·skip
         by_cases h6:(k:Int)<=16
         ·skip
          go_wp2;go_ret;exact ⟨ybg yaI,HB1.out⟩
         ·skip
          go_wp2;go_ret;exact ⟨ybg yaI,HB1.out⟩
        ·skip
         go_wp2;go_ret;exact ⟨ybg yaI,HB1.out⟩
       ·skip
        go_wp2;go_ret;exact ⟨ybg yaI,HB1.out⟩
      ·skip
       go_wp2;go_ret;exact ⟨ybg yaI,HB1.out⟩
     ·skip
      go_wp2;go_ret;exact ⟨ybg yaI,HB1.out⟩
    ·skip
     go_wp2;go_ret;exact ⟨ybg yaI,HB1.out⟩
   ·have af:(((s.size:Nat):Int)==32)=false:=by simp;omega
    go_wp2;go_ret;exact ⟨ybg yaI,HB1.out⟩
theorem fail_ok (g:Nat) (A:Option Addr) (n c p q:Nat) (w:World) (hr:Rd w g A n c p (q:Int) 0):
 Calls prog 210 #[.pointer (some ⟨g,0,none⟩)] w fun e G=>e= .returned (.tuple #[])/\Rd G g A n c q (q:Int) 3/\But (fun k=>k=g) w G:=by
 have c3:=zz w g 3 _ _ _ hr;have L:=frozen_of_row w g 1 _ _ hr;have K:=frozen_of_row w g 3 _ _ hr;simp at c3;have h1:Rd (w.setCell ⟨g,3,none⟩ (.int .i64 3)) g A n c p (q:Int) 3:=heap_setCell_same _ _ 3 _ _ (.int .i64 3) hr;have J:=zz _ g 2 _ _ _ h1;simp at J;have H:Hid (Rd ((w.setCell ⟨g,3,none⟩ (.int .i64 3)).setCell ⟨g,1,none⟩ (.int .i64 (q:Int))) g A n c q (q:Int) 3):=heap_setCell_same _ _ 1 _ _ (.int .i64 (q:Int)) h1;have HB:Hid (But (fun k=>k=g) w ((w.setCell ⟨g,3,none⟩ (.int .i64 3)).setCell ⟨g,1,none⟩ (.int .i64 (q:Int)))):=But.setCell (p:=fun k=>k=g) (x:=⟨g,1,none⟩) (But.setCell (p:=fun k=>k=g) (x:=⟨g,3,none⟩) (But.refl _ _) (.inl rfl) _) (.inl rfl) _;have c2:=zz w g 2 _ _ _ hr;have c1:=zz w g 1 _ _ _ hr;simp at c1 c2;clear hr h1;go_enter func210,ntmps210;go_wp2
 go_end0
 exact ⟨rfl,H.out,HB.out⟩
theorem fail_err (g:Nat) (A:Option Addr) (n c p:Nat) (H er:Int) (w:World) (hr:Rd w g A n c p H er) (G:er≠0):
 Calls prog 210 #[.pointer (some ⟨g,0,none⟩)] w fun e J=>e= .returned (.tuple #[])/\w=J:=by
 have K:(er==0)=false:=by simp [G]
 have c3:=zz w g 3 _ _ _ hr;simp at c3;clear hr G;go_enter func210,ntmps210;go_wp2
 go_end0
 exact ⟨rfl,rfl⟩
theorem ru2_any (g:Nat) (A:Option Addr) (n c:Nat) (bs:List Int) (s:RS) (w:World) (hr:RdS g A n c bs s w) (N:RK bs n c) (hp:s.1<=n):
 Calls prog 82 #[.pointer (some ⟨g,0,none⟩)] w fun e K=>e= .returned (.int .u64 (rU bs s).1)/\(∃H,Rd K g A n c (rU bs s).2.1 H (rU bs s).2.2/\(s.2=0->H=(s.1:Int)))/\Sl fB K g A n bs/\But (fun k=>k=g) w K:=by
 obtain ⟨⟨H,h1⟩,h2⟩:=hr;obtain ⟨p,er⟩:=s;have L:=Nat.le_of_lt (lb h1)
 by_cases h0:er=0
 ·subst h0;refine (yd3 g A n c p H bs w h1 h2 N.1 hp N.2.1).mono ?_;rintro e K ⟨rfl,G,J⟩;have M:=h2.butg J L;unfold rU;simp only [rV,if_true] at G ⊢
  split
  ·next hz=>
   rw [if_pos hz] at G;rw [hz] at G;exact ⟨rfl,⟨_,G,fun _=>rfl⟩,M,J⟩
  ·next hz=>
   rw [if_neg hz] at G;exact ⟨rfl,⟨_,G,fun _=>rfl⟩,M,J⟩
 ·refine (ruint_err g A n c p H er w h1 h0).mono ?_;rintro e K ⟨rfl,G,J⟩;unfold rU;simp only [rV,h0,if_false];exact ⟨by first |rfl |trivial,⟨H,G,by first |trivial |exact fun h=>h.elim⟩,h2.butg (But.of_below J) L,But.of_below J⟩
def rN (a m:Nat) (bs:List Int) (s:RS):Int × RS:=if s.2=0/\(rU bs s).2.2=0 then (if (a:Int)<=(rU bs s).1/\(rU bs s).1<=(m:Int) then rU bs s else (0,(s.1,3))) else (0,(rU bs s).2)
theorem ycU (bs:List Int) (s:RS):0<=(rU bs s).1:=by
 unfold rU rV
 split
 ·split
  ·exact ybQ ..
  ·exact Int.le_refl _
 ·exact Int.le_refl _
theorem rU_bad {bs:List Int} {s:RS} (h:¬(s.2=0/\(rU bs s).2.2=0)):(rU bs s).1=0/\(rU bs s).2.2≠0:=by
 unfold rU at h ⊢
 by_cases h1:s.2=0
 ·unfold rV at h ⊢;rw [if_pos h1] at h ⊢
  by_cases h2:(numF bs 10 0 0 s.1).2.1=0
  ·rw [if_pos h2] at h;exact absurd ⟨h1,rfl⟩ h
  ·rw [if_neg h2];exact ⟨rfl,h2⟩
 ·unfold rV;rw [if_neg h1];exact ⟨rfl,h1⟩
theorem rN_le {a m:Nat} {bs:List Int} {s:RS} {n:Nat} (hl:bs.length=n) (h:s.1<=n):(rN a m bs s).2.1<=n:=by
 have h1:=rU_le hl h;unfold rN
 split
 ·split
  ·exact h1
  ·exact h
 ·exact h1
theorem rN_range {a m:Nat} {bs:List Int} {s:RS}:0<=(rN a m bs s).1/\(rN a m bs s).1<=(m:Int):=by
 unfold rN
 split
 ·split
  ·next h=>exact ⟨ycU _ _,h.2⟩
  ·exact ⟨Int.le_refl _,Int.natCast_nonneg _⟩
 ·exact ⟨Int.le_refl _,Int.natCast_nonneg _⟩
theorem rn_any (a m:Nat) (ha:a<=1) (hm:m<=1099511627776) (g:Nat) (A:Option Addr) (n c:Nat) (bs:List Int) (s:RS) (w:World) (hr:RdS g A n c bs s w) (hk:RK bs n c) (hp:s.1<=n):
 Calls prog 169 #[.pointer (some ⟨g,0,none⟩),.int .i64 a,.int .i64 m] w (RPost g A n c bs (.int .i64 (rN a m bs s).1) (rN a m bs s).2 w):=by
 have HC:=lh (ru2_any g A n c bs s w hr hk hp);have Y:=ycU bs s;have H:=rU_bad (bs:=bs) (s:=s);have ac:Hid (g < w.heap.size):=hr.lt;have ae:(a:Int) % 18446744073709551616=a:=by omega
 have ai:(m:Int) % 18446744073709551616=m:=by omega
 unfold rN;obtain ⟨z,L,hz⟩:∃z L,rU bs s=(z,L):=⟨_,_,rfl⟩
 rw [hz] at HC Y H ⊢;dsimp only at Y H;clear hr hz hk hp
 by_cases T:s.2=0/\L.2=0
 ·obtain ⟨h1,h2⟩:=T;rw [if_pos ⟨h1,h2⟩]
  have J:Hid (Calls prog 82 #[.pointer (some ⟨g,0,none⟩)] w fun e G=>e= .returned (.int .u64 z)/\Rd G g A n c L.1 (s.1:Int) 0/\Sl fB G g A n bs/\But (fun k=>k=g) w G):=HC.out.mono (fun e G ⟨O,⟨Z,N,U⟩,k4,k5⟩=>by
   rw [U h1] at N
   exact ⟨O,(by rw [<-h2];exact N),k4,k5⟩)
  obtain ⟨q,q2⟩:=L;obtain ⟨p,p2⟩:=s;dsimp only at h1 h2 J H;subst h1;subst h2;clear HC H
  have M:Hid (∀w1,Rd w1 g A n c q (p:Int) 0/\Sl fB w1 g A n bs/\But (fun k=>k=g) w w1->Calls prog 210 #[.pointer (some ⟨g,0,none⟩)] w1 fun e G=>e= .returned (.tuple #[])/\RdS g A n c bs (p,3) G/\But (fun k=>k=g) w G):=fun w1 ⟨O,N,U⟩=>
   (fail_ok g A n c q p w1 O).mono (fun e G ⟨j1,j2,j3⟩=>⟨j1,⟨⟨_,j2⟩,N.butg j3 (lT (Nat.le_of_lt ac.out) U.size)⟩,U.trans j3 (fun i hi=> .inl hi)⟩)
  by_cases af:z < (a:Int)
  ·rw [if_neg om];go_enter func169,ntmps169
   go_wp2_with (first
    |(go_at_call 82;(with_reducible refine J.out.mono ?_);rintro e w1 ⟨rfl,k⟩;have K:=lh k;clear k)
    |(go_at_call 210;(with_reducible refine (M.out _ K.out).mono ?_);rintro e w2 ⟨rfl,k⟩;have W:=lh k;clear k))
   go_ret;exact ⟨rfl,W.out.1,W.out.2⟩
  ·by_cases ah:(m:Int) < z
   ·rw [if_neg om];go_enter func169,ntmps169
    go_wp2_with (first
     |(go_at_call 82;(with_reducible refine J.out.mono ?_);rintro e w1 ⟨rfl,k⟩;have K:=lh k;clear k)
     |(go_at_call 210;(with_reducible refine (M.out _ K.out).mono ?_);rintro e w2 ⟨rfl,k⟩;have W:=lh k;clear k))
    go_ret;exact ⟨rfl,W.out.1,W.out.2⟩
   ·rw [if_pos om];clear M;go_enter func169,ntmps169
    go_wp2_with (first
     |(go_at_call 82;(with_reducible refine J.out.mono ?_);rintro e w1 ⟨rfl,k⟩;have K:=lh k;clear k))
    go_ret;exact ⟨by first |rfl |exact ret_int (show wrap64 z=z by unfold wrap64;omega),⟨⟨_,K.out.1⟩,K.out.2.1⟩,K.out.2.2⟩
 ·rw [if_neg T];obtain ⟨aa,he⟩:=H T;have J:Hid (Calls prog 82 #[.pointer (some ⟨g,0,none⟩)] w fun e G=>e= .returned (.int .u64 0)/\RdS g A n c bs L G/\But (fun k=>k=g) w G):=HC.out.mono (fun e G ⟨O,⟨Z,N,U⟩,k4,k5⟩=>⟨by rw [O,aa],⟨⟨Z,N⟩,k4⟩,k5⟩);have M:Hid (∀w1,RdS g A n c bs L w1/\But (fun k=>k=g) w w1->Calls prog 210 #[.pointer (some ⟨g,0,none⟩)] w1 fun e G=>e= .returned (.tuple #[])/\w1=G):=fun w1 ⟨⟨⟨Z,O⟩,N⟩,U⟩=>fail_err g A n c L.1 Z L.2 w1 O he;have ag:¬(m:Int) < 0:=by omega
  clear HC H T aa he Y;rcases (show a=0∨a=1 by omega) with rfl |rfl
  ·go_enter func169,ntmps169
   go_wp2_with (first
    |(go_at_call 82;(with_reducible refine J.out.mono ?_);rintro e w1 ⟨rfl,k⟩;have K:=lh k;clear k))
   go_ret;exact ⟨rfl,K.out.1,K.out.2⟩
  ·go_enter func169,ntmps169
   go_wp2_with (first
    |(go_at_call 82;(with_reducible refine J.out.mono ?_);rintro e w1 ⟨rfl,k⟩;have K:=lh k;clear k)
    |(go_at_call 210;(with_reducible refine (M.out _ K.out).mono ?_);rintro e w2 ⟨rfl,rfl⟩))
   go_ret;exact ⟨rfl,K.out.1,K.out.2⟩
def rId (bs:List Int) (s:RS):(ByteArray × Int) × RS:=(((rS bs s).1,(rN 0 15 bs (rS bs s).2).1),(rN 0 15 bs (rS bs s).2).2)
theorem rId_le {bs:List Int} {s:RS} {n:Nat} (hl:bs.length=n) (h:s.1<=n):(rId bs s).2.1<=n:=rN_le hl (rS_le hl h)
theorem Tryz.sizePid:(prog.info? 31).map (·.size)=some 2:=by kernel_rfl
theorem pid_one (s:ByteArray) (ix:Int):(#[.string s,.int .i64 ix]:Array Value).all (·.oneCell')=true:=by
 rw [Array.all_eq_true'];intro x hx;simp at hx;rcases hx with rfl |rfl<;>rfl
theorem pid_size (s:ByteArray) (ix:Int):(prog.info? 31).map (·.size)=some (#[.string s,.int .i64 ix]:Array Value).size:=Tryz.sizePid
theorem pid_sz (s:ByteArray) (ix:Int):(#[.string ⟨#[]⟩,.int .i64 0]:Array Value).size=(#[.string s,.int .i64 ix]:Array Value).size:=rfl
theorem rid_any (g:Nat) (A:Option Addr) (n c:Nat) (bs:List Int) (s:RS) (w:World) (hr:RdS g A n c bs s w) (M:RK bs n c) (hp:s.1<=n):
 Calls prog 170 #[.pointer (some ⟨g,0,none⟩)] w (RPost g A n c bs (.agg #[.string (rId bs s).1.1,.int .i64 (rId bs s).1.2]) (rId bs s).2 w):=by
 have hl:=hr.len;have O:=hr.lt;obtain ⟨W,J⟩:∃W:World,W=w.alloc (.cells #[.string ⟨#[]⟩,.int .i64 0] 31):=⟨_,rfl⟩
 have H:Below w.heap.size w W:=by rw [J];exact bl
 have hZ:W.heap[w.heap.size]? =some (.cells #[.string ⟨#[]⟩,.int .i64 0] 31 (0,0)):=by rw [J];exact zy w _
 have L:=lh (rs_any g A n c bs s W (hr.on H) M hp);have K:=rS_le hl hp;have HD:Hid (rId bs s=(((rS bs s).1,(rN 0 15 bs (rS bs s).2).1),(rN 0 15 bs (rS bs s).2).2)):=rfl;rw [HD.out];obtain ⟨st,G,e1⟩:∃z s',rS bs s=(z,s'):=⟨_,_,rfl⟩
 rw [e1] at L K ⊢;have U:Hid (∀V,RdS g A n c bs G V->Calls prog 169 #[.pointer (some ⟨g,0,none⟩),.int .i64 0,.int .i64 15] V (RPost g A n c bs (.int .i64 (rN 0 15 bs G).1) (rN 0 15 bs G).2 V)):=fun V hV=>rn_any 0 15 de de g A n c bs G V hV M K;obtain ⟨ix,s2,e2⟩:∃z s',rN 0 15 bs G=(z,s'):=⟨_,_,rfl⟩
 dsimp only;rw [e2] at U ⊢;have HZ:=lh hZ;have HBW:=lh H;have HWE:=lh J;have HGL:=lh O;rw [J] at L;clear hr M hl H hZ J e1 e2 HD hp K O;go_enter func170,ntmps170
 go_wp2_with (first
  |(go_at_call 172;(with_reducible refine L.out.mono ?_);rintro e w1 ⟨rfl,r1,N⟩
    rw [<-HWE.out] at N;have T:Hid (w1.heap[w.heap.size]? =some (.cells #[.string ⟨#[]⟩,.int .i64 0] 31 (0,0))):=(N.block _ (lb HZ.out) ya6).trans HZ.out;have R1:=lh r1;have B1:Hid (But (fun k=>k=g) w w1):=(But.of_below HBW.out).trans N (fun i hi=> .inl hi)
    clear r1 N)
  |(go_at_call 169;(with_reducible refine (U.out _ R1.out).mono ?_);rintro e Z ⟨rfl,r2,Y⟩
    have aa:Hid (Z.heap[w.heap.size]? =some (.cells #[.string ⟨#[]⟩,.int .i64 0] 31 (0,0))):=(Y.block _ (lb T.out) ya6).trans T.out;have R2:=lh r2;have B2:Hid (But (fun k=>k=g) w Z):=B1.out.trans Y (fun i hi=> .inl hi)
    clear r2 Y)
  |((with_reducible refine ybc (o:=⟨none,_,_,_,_,_⟩) rfl 31 (.tmp 2) (.tmp 9) rfl w.heap.size 31 _ _ rfl rfl aa.out (pid_size _ _) (pid_sz _ _) (pid_one _ _) ?_);intro W7 HG7 HB7))
 refine bodyPost_ret (results_cell_row rfl _ _ _ _ _ _ _ rfl HG7.out underlying31 rfl (pid_size _ _)) rfl ⟨rfl,?_,?_⟩
 ·exact R2.out.but HB7.out (fun k M h=>by have:=HGL.out;omega)
 ·exact B2.out.trans HB7.out (fun i hi=> .inr om)
