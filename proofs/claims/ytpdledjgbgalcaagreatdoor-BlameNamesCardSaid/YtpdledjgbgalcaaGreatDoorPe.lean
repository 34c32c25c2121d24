import Derived.Test.YtpdledjgbgalcaaGreatDoorPd
namespace Go.Proofs.YtpdledjgbgalcaaGreatDoor
set_option maxRecDepth 100000
set_option maxHeartbeats 16000000
open Go.RowKit Go.Lib Go.Proofs.Tryz
set_option linter.unusedVariables false
set_option linter.unusedSimpArgs false
def numB (d q:Int):Bool:=decide ((0<=d/\d<=11)/\(1<=q/\q<=1099511627776))
def idB (s:ByteArray) (ix:Int):Bool:=decide (s.size=32/\0<=ix/\ix<=15)
def sumsB (ys:List ByteArray):Bool:=ys.all fun s=>decide (s.size=32)
structure Pc where
 s:ByteArray
 ix:Int
 d:Hd
 q:Hd
abbrev cPc (p:Pc):Array Value:=#[.string p.s,.int .i64 p.ix,.slice p.d.a p.d.n p.d.c,.slice p.q.a p.q.n p.q.c]
def shB (p:Pc) (ys:List ByteArray):Bool:=decide ((p.s.size=32/\0<=p.ix/\p.ix<=15)/\(1<=p.d.n/\p.d.n<=65536)/\(1<=p.q.n/\p.q.n<=16)/\sumsB ys=true)
theorem yck {ys:List ByteArray}:sumsB ys=true↔∀s∈ys,s.size=32:=by unfold sumsB;simp
theorem ycw {ys:List ByteArray} {s:ByteArray} (h:s∈ys) (hs:s.size≠32):sumsB ys=false:=by
 cases hb:sumsB ys
 ·rfl
 ·exact absurd (yck.1 hb s h) hs
def PcIn (w:World) (B:Nat) (p:Pc) (xs:List Int) (ys:List ByteArray):Prop:=Sl fB w B p.d.a p.d.n xs/\Sl fT w B p.q.a p.q.n ys/\p.d.n<=p.d.c/\p.q.n<=p.q.c
theorem PcIn.up {w w':World} {B B':Nat} {p:Pc} {xs:List Int} {ys:List ByteArray} (h:PcIn w B p xs ys) (hb:Below B' w w') (hB:B<=B'):PcIn w' B p xs ys:=⟨h.1.up hb hB,h.2.1.up hb hB,h.2.2⟩
theorem PcIn.more {w:World} {B B':Nat} {p:Pc} {xs:List Int} {ys:List ByteArray} (h:PcIn w B p xs ys) (hB:B<=B'):PcIn w B' p xs ys:=⟨h.1.more' hB,h.2.1.more' hB,h.2.2⟩
theorem ydF (d q:Int) (w:World):Calls prog 44 #[.int .i64 d,.int .i64 q] w fun e G=>e= .returned (.bool (numB d q))/\w=G:=by
 by_cases h0:0<=d
 ·skip
  by_cases h1:d < 12
  ·skip
   by_cases h2:1<=q
   ·skip
    by_cases H:q<=1099511627776
    ·skip
     go_enter func44,ntmps44;go_wp2;go_ret;exact ⟨ybo yaT,rfl⟩
    ·go_enter func44,ntmps44;go_wp2;go_ret;exact ⟨ybo yaT,rfl⟩
   ·go_enter func44,ntmps44;go_wp2;go_ret;exact ⟨ybo yaT,rfl⟩
  ·go_enter func44,ntmps44;go_wp2;go_ret;exact ⟨ybo yaT,rfl⟩
 ·go_enter func44,ntmps44;go_wp2;go_ret;exact ⟨ybo yaT,rfl⟩
theorem ycW (d q:Int) (w:World):Calls prog 37 #[.int .i64 d,.int .i64 q] w fun e J=>e= .returned (.bool (numB d q))/\w=J:=by
 have G:=lh (fun W=>ybZ d 0 11 W);have K:=lh (fun W=>ybZ q 1 1099511627776 W);have H:Hid (numB d q=(decide (0<=d/\d<=11)&&decide (1<=q/\q<=1099511627776))):=by show _=_;unfold numB;rw [Bool.decide_and]
 rw [H.out];cases h1:decide (0<=d/\d<=11)
 all_goals
  rw [h1] at G;clear h1 H;go_enter func37,ntmps37
  go_wp2_with (first
   |(go_at_call 42;(with_reducible refine (G.out _).mono ?_);rintro e w1 ⟨rfl,rfl⟩)
   |(go_at_call 42;(with_reducible refine (K.out _).mono ?_);rintro e w1 ⟨rfl,rfl⟩))
  go_ret;exact ⟨ybo sI,rfl⟩
theorem isID_any (s:ByteArray) (ix:Int) (w:World):Calls prog 85 #[.agg #[.string s,.int .i64 ix]] w fun e K=>e= .returned (.bool (idB s ix))/\Below w.heap.size w K:=by
 have H:=lh (fun W=>ybZ ix 0 15 W);have G:Hid (idB s ix=(decide (s.size=32)&&decide (0<=ix/\ix<=15))):=by show _=_;unfold idB;rw [Bool.decide_and]
 rw [G.out]
 by_cases hs:s.size=32
 ·have J:((s.size:Nat):Int)=32:=by omega
  have hd:decide (s.size=32)=true:=decide_eq_true hs;rw [hd];clear G hs hd;go_enter func85,ntmps85
  go_wp2_with (first
   |(go_at_call 42;(with_reducible refine (H.out _).mono ?_);rintro e w1 ⟨rfl,rfl⟩))
  go_ret;exact ⟨ybo sI,bl⟩
 ·have J:(((s.size:Nat):Int)==32)=false:=by simp;omega
  have hd:decide (s.size=32)=false:=decide_eq_false hs;rw [hd];clear G hs hd H;go_enter func85,ntmps85;go_wp2;go_ret;exact ⟨rfl,bl⟩
theorem indexF_shown (A:Option Addr) (n c B:Nat) (ys:List ByteArray) (w:World) (q:Nat) (K:Sl fT w B A n ys) (hn:n<=1000000) (hf:∀s,Calls prog 137 #[.string s,.pointer (some ⟨q,0,none⟩)] w fun e J=>e= .returned (.bool (!decide (s.size=32)))/\w=J):
 Calls prog 165 #[.slice A n c,.func (.func 137) #[] #[.pointer (some ⟨q,0,none⟩)]] w fun e J=>∃z:Int,e= .returned (.int .i64 z)/\decide (0<=z)= !sumsB ys/\w=J:=by
 have M:=lh K;have HXN:Hid (ys.length=n):=K.1;have HC:=lh hf;clear K hf;go_enter func165,ntmps165;go_wp2
 go_loopw [8] (fun i wr=>∃k:Nat,k<=n/\i= .int .i64 k/\Hid (∀s∈ys.take k,s.size=32)/\w=wr) (fun i _=>n - (intOf i).toNat)
 case atStart=>exact ⟨0,by omega,rfl,fun s h=>by simp at h,rfl⟩
 case round=>
  obtain ⟨k,W,rfl,L,rfl⟩:=hrel
  by_cases hlt:k < n
  ·obtain ⟨b,T,x,rfl,_,H,Y⟩:=M.out.2.at_ (k:=k) yba;have U:(k:Int) < (n:Int):=by omega
   have G:=lh (HC.out x)
   by_cases hs:x.size=32
   ·have O:Hid (∀s∈ys.take (k+1),s.size=32):=fun s h=>by
     rw [yby H,List.mem_append,List.mem_singleton] at h;rcases h with h |rfl
     ·exact L.out s h
     ·exact hs
    have hd:decide (x.size=32)=true:=decide_eq_true hs;rw [hd] at G;clear hs hd H
    go_wp2_with (first
     |(go_at_call 137;(with_reducible refine G.out.mono ?_);rintro e w1 ⟨rfl,rfl⟩))
    refine ⟨?rel,?measure⟩;case rel=>exact ⟨k+1,by omega,by go_num,O,by trivial⟩
    case measure=>simp [intOf];omega
   ·have N:Hid (sumsB ys=false):=ycw (List.mem_of_getElem? H) hs;have hd:decide (x.size=32)=false:=decide_eq_false hs;rw [hd] at G;clear hs hd H
    go_wp2_with (first
     |(go_at_call 137;(with_reducible refine G.out.mono ?_);rintro e w1 ⟨rfl,rfl⟩))
    go_ret;exact ⟨_,rfl,by rw [N.out];simp,rfl⟩
  ·obtain rfl:k=n:=by omega
   go_wp2;go_ret;have h1:=L.out;rw [List.take_of_length_le ya4] at h1;exact ⟨-1,rfl,by rw [yck.2 h1];rfl,rfl⟩
theorem containsF_shown (A:Option Addr) (n c B:Nat) (ys:List ByteArray) (w:World) (q:Nat) (H:Sl fT w B A n ys) (hn:n<=1000000) (hf:∀s,Calls prog 137 #[.string s,.pointer (some ⟨q,0,none⟩)] w fun e G=>e= .returned (.bool (!decide (s.size=32)))/\w=G):
 Calls prog 99 #[.slice A n c,.func (.func 137) #[] #[.pointer (some ⟨q,0,none⟩)]] w fun e G=>e= .returned (.bool (!sumsB ys))/\w=G:=by
 have HC:=lh (indexF_shown A n c B ys w q H hn hf);clear H hf;go_enter func99,ntmps99
 go_wp2_with (first
  |(go_at_call 165;(with_reducible refine HC.out.mono ?_);rintro e w1 ⟨z,rfl,J,rfl⟩;(have K:=lh J);clear J))
 go_ret;exact ⟨ybo K.out,rfl⟩
theorem isShown1_any (s:ByteArray) (w:World):Calls prog 136 #[.string s] w fun e H=>e= .returned (.bool (decide (s.size=32)))/\w=H:=by
 by_cases hs:s.size=32
 ·have G:((s.size:Nat):Int)=32:=by omega
  rw [decide_eq_true hs];clear hs;go_enter func136,ntmps136;go_wp2;go_ret;exact ⟨rfl,rfl⟩
 ·have G:(((s.size:Nat):Int)==32)=false:=by simp;omega
  rw [decide_eq_false hs];clear hs;go_enter func136,ntmps136;go_wp2;go_ret;exact ⟨rfl,rfl⟩
theorem isShown2_any (q:Nat) (s:ByteArray) (w:World) (J:w.cell? ⟨q,0,none⟩=some (.func (.func 136) #[] #[])):Calls prog 137 #[.string s,.pointer (some ⟨q,0,none⟩)] w fun e H=>e= .returned (.bool (!decide (s.size=32)))/\w=H:=by
 have G:=lh (isShown1_any s w);go_enter func137,ntmps137
 go_wp2_with (first
  |(go_at_call 136;(with_reducible refine G.out.mono ?_);rintro e w1 ⟨rfl,rfl⟩))
 go_ret;exact ⟨rfl,rfl⟩
theorem isShown_any (p:Pc) (xs:List Int) (ys:List ByteArray) (B:Nat) (w:World) (hx:PcIn w B p xs ys) (hB:B<=w.heap.size):Calls prog 71 #[.agg (cPc p)] w fun e Z=>e= .returned (.bool (shB p ys))/\Below w.heap.size w Z:=by
 have ah:∀(a:Addr) (m:Mode) (w:World),(store a (.func (.func 136) #[] #[]) m).run prog w=stored prog w a (.func (.func 136) #[] #[]) m:=fun a m w=>run_store prog w a _ m rfl;have ag:∀(fn:Fn) (first cap:Array Value) (w:World),(Instr.makeFunc fn first cap).run prog w= .ok (.func fn first cap) w:=fun _ _ _ _=>rfl;obtain ⟨s,ix,⟨a,n,c⟩,⟨a',m,L⟩⟩:=p;have hy:Sl fT w B a' m ys:=hx.2.1;have af:Hid (n<=c):=hx.2.2.1;obtain ⟨J,H⟩:∃J:World,J=(w.alloc (.cells #[.string s,.int .i64 ix,.slice a n c,.slice a' m L] 42)).alloc (.cells #[.func (.func 136) #[] #[]] 163):=⟨_,rfl⟩
 have U:Below w.heap.size w J:=by rw [H];exact bl.alloc sI _
 have aa:J.heap.size=w.heap.size+1+1:=by rw [H];simp
 have hc:J.heap[w.heap.size]? =some (.cells #[.string s,.int .i64 ix,.slice a n c,.slice a' m L] 42 (0,0)):=by rw [H,Below.heap_alloc _ _ _ sI];exact zy w _
 have hq:J.heap[w.heap.size+1]? =some (.cells #[.func (.func 136) #[] #[]] 163 (0,0)):=by
  rw [H];have:=zy (w.alloc (.cells #[.string s,.int .i64 ix,.slice a n c,.slice a' m L] 42)) (.cells #[.func (.func 136) #[] #[]] 163);simpa using this
 have HC:Hid (∀W,Below J.heap.size J W->W.cell? ⟨w.heap.size,2,none⟩=some (.slice a n c)/\W.cell? ⟨w.heap.size,3,none⟩=some (.slice a' m L)):=fun W Y=>by
  have h:=(Y.block w.heap.size om).trans hc;exact ⟨by rw [cell_of_row W _ 2 _ _ _ h];rfl,by rw [cell_of_row W _ 3 _ _ _ h];rfl⟩
 have HF:Hid (m<=16->∀W,Below J.heap.size J W->Calls prog 99 #[.slice a' m L,.func (.func 137) #[] #[.pointer (some ⟨w.heap.size+1,0,none⟩)]] W fun e Z=>e= .returned (.bool (!sumsB ys))/\W=Z):=fun hm W Y=>
  containsF_shown a' m L B ys W (w.heap.size+1) (hy.up (bt U Y) hB) om (fun z=>isShown2_any _ z W (by rw [cell_of_row W _ 0 _ _ _ ((Y.block _ om).trans hq)];rfl))
 have N:=lh (isID_any s ix J);have O:=lh (fun W=>ybZ n 1 65536 W);have T:=lh (fun W=>ybZ m 1 16 W);have HB1:=lh U
 have HR:Hid (shB ⟨s,ix,⟨a,n,c⟩,⟨a',m,L⟩⟩ ys=(idB s ix&&(decide ((1:Int)<=n/\(n:Int)<=65536)&&(decide ((1:Int)<=m/\(m:Int)<=16)&&sumsB ys)))):=by
  show decide _=_;unfold idB;rw [Bool.eq_iff_iff];simp only [decide_eq_true_eq,Bool.and_eq_true]
  constructor
  ·rintro ⟨h1,h2,h3,h4⟩;exact ⟨h1,by omega,by omega,h4⟩
  ·rintro ⟨h1,h2,h3,h4⟩;exact ⟨h1,by omega,by omega,h4⟩
 have HWE:=lh H;rw [HR.out];rw [H] at N;show Calls prog 71 #[.agg #[.string s,.int .i64 ix,.slice a n c,.slice a' m L]] w _;clear hx hy hB U aa hc hq H HR
 cases h0:idB s ix
 ·rw [h0] at N;clear h0 HC HF O T;go_enter func71,ntmps71
  go_wp2_with (first
   |(go_at_call 85;(with_reducible refine N.out.mono ?_);rintro e M ⟨rfl,G⟩;rw [<-HWE.out] at G;have K:=lh G;clear G))
  go_ret;exact ⟨rfl,bt HB1.out K.out⟩
 ·rw [h0] at N;clear h0
  cases h1:decide ((1:Int)<=n/\(n:Int)<=65536)
  ·rw [h1] at O;clear h1 HF T;go_enter func71,ntmps71
   go_wp2_with (first
    |(go_at_call 85;(with_reducible refine N.out.mono ?_);rintro e M ⟨rfl,G⟩;rw [<-HWE.out] at G;have K:=lh G;obtain ⟨k2,k3⟩:=HC.out M G;clear G)
    |(go_at_call 42;(with_reducible refine (O.out _).mono ?_);rintro e w1 ⟨rfl,rfl⟩))
   go_ret;exact ⟨rfl,bt HB1.out K.out⟩
  ·rw [h1] at O;clear h1
   cases h2:decide ((1:Int)<=m/\(m:Int)<=16)
   ·rw [h2] at T;clear h2 HF;go_enter func71,ntmps71
    go_wp2_with (first
     |(go_at_call 85;(with_reducible refine N.out.mono ?_);rintro e M ⟨rfl,G⟩;rw [<-HWE.out] at G;have K:=lh G;obtain ⟨k2,k3⟩:=HC.out M G;clear G)
     |(go_at_call 42;(with_reducible refine (O.out _).mono ?_);rintro e w1 ⟨rfl,rfl⟩)
     |(go_at_call 42;(with_reducible refine (T.out _).mono ?_);rintro e w1 ⟨rfl,rfl⟩))
    go_ret;exact ⟨rfl,bt HB1.out K.out⟩
   ·rw [h2] at T;have ae:=lh (HF.out (by have:=of_decide_eq_true h2;omega));clear h2 HF;go_enter func71,ntmps71
    go_wp2_with (first
     |(go_at_call 85;(with_reducible refine N.out.mono ?_);rintro e M ⟨rfl,G⟩;rw [<-HWE.out] at G;have K:=lh G;have ac:=lh (ae.out M G);obtain ⟨k2,k3⟩:=HC.out M G;clear G)
     |(go_at_call 42;(with_reducible refine (O.out _).mono ?_);rintro e w1 ⟨rfl,rfl⟩)
     |(go_at_call 42;(with_reducible refine (T.out _).mono ?_);rintro e w1 ⟨rfl,rfl⟩)
     |(go_at_call 99;(with_reducible refine ac.out.mono ?_);rintro e w1 ⟨rfl,rfl⟩))
    go_ret;exact ⟨ybo sI,bt HB1.out K.out⟩
theorem shaped_any (p:Pc) (xs:List Int) (ys:List ByteArray) (B:Nat) (w:World) (W:PcIn w B p xs ys) (Z:B<=w.heap.size) (Y:p.q.n<=1000000):Calls prog 116 #[.agg (cPc p)] w fun e z=>e= .returned (.bool (shB p ys))/\Below w.heap.size w z:=by
 obtain ⟨s,ix,⟨a,n,c⟩,⟨a',m,K⟩⟩:=p;have T:Sl fT w B a' m ys:=W.2.1;have af:m<=1000000:=Y;obtain ⟨G,H⟩:∃G:World,G=w.alloc (.cells #[.string s,.int .i64 ix,.slice a n c,.slice a' m K] 42):=⟨_,rfl⟩
 have L:Below w.heap.size w G:=by rw [H];exact bl
 have J:G.heap[w.heap.size]? =some (.cells #[.string s,.int .i64 ix,.slice a n c,.slice a' m K] 42 (0,0)):=by rw [H];exact zy w _
 have k0:G.cell? ⟨w.heap.size,0,none⟩=some (.string s):=by rw [cell_of_row G _ 0 _ _ _ J];rfl
 have k1:G.cell? ⟨w.heap.size,1,none⟩=some (.int .i64 ix):=by rw [cell_of_row G _ 1 _ _ _ J];rfl
 have k2:G.cell? ⟨w.heap.size,2,none⟩=some (.slice a n c):=by rw [cell_of_row G _ 2 _ _ _ J];rfl
 have k3:G.cell? ⟨w.heap.size,3,none⟩=some (.slice a' m K):=by rw [cell_of_row G _ 3 _ _ _ J];rfl
 have HY:=lh (T.up L Z);have O:Hid (ys.length=m):=T.1;have HB1:=lh L;have HWE:=lh H;show Calls prog 116 #[.agg #[.string s,.int .i64 ix,.slice a n c,.slice a' m K]] w _;clear W T Z L J H Y;go_enter func116,ntmps116;go_wp2_with fail;rw [<-HWE.out]
 go_loopw [3] (fun i wr=>∃k:Nat,k<=m/\i= .int .i64 k/\Hid (∀s∈ys.take k,s.size=32)/\G=wr) (fun i _=>m - (intOf i).toNat)
 case atStart=>exact ⟨0,by omega,rfl,fun s h=>by simp at h,rfl⟩
 case round=>
  obtain ⟨k,hk,rfl,U,rfl⟩:=hrel
  by_cases hlt:k < m
  ·obtain ⟨b,ac,x,rfl,_,M,J⟩:=HY.out.2.at_ (k:=k) (by rw [O.out];exact hlt);have ae:(k:Int) < (m:Int):=by omega
   by_cases hs:x.size=32
   ·have HT:Hid (∀s∈ys.take (k+1),s.size=32):=fun s h=>by
     rw [yby M,List.mem_append,List.mem_singleton] at h;rcases h with h |rfl
     ·exact U.out s h
     ·exact hs
    have hd:(((x.size:Nat):Int) != 32)=false:=by simp;omega
    clear hs M;go_wp2;refine ⟨?rel,?measure⟩;case rel=>exact ⟨k+1,by omega,by go_num,HT,by trivial⟩
    case measure=>simp [intOf];omega
   ·have N:Hid (sumsB ys=false):=ycw (List.mem_of_getElem? M) hs;have hd:(((x.size:Nat):Int) != 32)=true:=by simp;omega
    clear hs M;go_wp2;go_ret;exact ⟨ybo (by show false=decide _;rw [N.out];simp),HB1.out⟩
  ·obtain rfl:k=m:=by omega
   have N:sumsB ys=true:=yck.2 (by
    have h1:=U.out
    rwa [List.take_of_length_le (by rw [O.out];exact Nat.le_refl _)] at h1)
   have HR:Hid (shB ⟨s,ix,⟨a,n,c⟩,⟨a',k,K⟩⟩ ys=decide ((s.size=32/\0<=ix/\ix<=15)/\(1<=n/\n<=65536)/\(1<=k/\k<=16))):=by
    show decide _=_;rw [N];simp only [and_true]
   clear N U
   by_cases h0:((s.size:Nat):Int)=32
   ·skip
    by_cases h1:0<=ix
    ·skip
     by_cases h2:ix < 16
     ·skip
      by_cases h3:(1:Int)<=(n:Int)
      ·skip
       by_cases h4:(n:Int)<=65536
       ·skip
        by_cases h5:(1:Int)<=(k:Int)
        ·skip
         by_cases h6:(k:Int)<=16
         ·skip
          go_wp2;go_ret;exact ⟨ybo yaN,HB1.out⟩
         ·skip
          go_wp2;go_ret;exact ⟨ybo yaN,HB1.out⟩
        ·skip
         go_wp2;go_ret;exact ⟨ybo yaN,HB1.out⟩
       ·skip
        go_wp2;go_ret;exact ⟨ybo yaN,HB1.out⟩
      ·skip
       go_wp2;go_ret;exact ⟨ybo yaN,HB1.out⟩
     ·skip
      go_wp2;go_ret;exact ⟨ybo yaN,HB1.out⟩
    ·skip
     go_wp2;go_ret;exact ⟨ybo yaN,HB1.out⟩
   ·have aa:(((s.size:Nat):Int)==32)=false:=by simp;omega
    go_wp2;go_ret;exact ⟨ybo yaN,HB1.out⟩
theorem fail_ok (g:Nat) (A:Option Addr) (n c p q:Nat) (w:World) (hr:Rd w g A n c p (q:Int) 0):
 Calls prog 210 #[.pointer (some ⟨g,0,none⟩)] w fun e G=>e= .returned (.tuple #[])/\Rd G g A n c q (q:Int) 3/\But (fun k=>k=g) w G:=by
 have c3:=zz w g 3 _ _ _ hr;have K:=frozen_of_row w g 1 _ _ hr;have L:=frozen_of_row w g 3 _ _ hr;simp at c3;have h1:Rd (w.setCell ⟨g,3,none⟩ (.int .i64 3)) g A n c p (q:Int) 3:=heap_setCell_same _ _ 3 _ _ (.int .i64 3) hr;have H:=zz _ g 2 _ _ _ h1;simp at H;have J:Hid (Rd ((w.setCell ⟨g,3,none⟩ (.int .i64 3)).setCell ⟨g,1,none⟩ (.int .i64 (q:Int))) g A n c q (q:Int) 3):=heap_setCell_same _ _ 1 _ _ (.int .i64 (q:Int)) h1;have HB:Hid (But (fun k=>k=g) w ((w.setCell ⟨g,3,none⟩ (.int .i64 3)).setCell ⟨g,1,none⟩ (.int .i64 (q:Int)))):=But.setCell (p:=fun k=>k=g) (x:=⟨g,1,none⟩) (But.setCell (p:=fun k=>k=g) (x:=⟨g,3,none⟩) (But.refl _ _) (.inl rfl) _) (.inl rfl) _;have c2:=zz w g 2 _ _ _ hr;have c1:=zz w g 1 _ _ _ hr;simp at c1 c2;clear hr h1;go_enter func210,ntmps210;go_wp2
 go_end0
 exact ⟨rfl,J.out,HB.out⟩
theorem fail_err (g:Nat) (A:Option Addr) (n c p:Nat) (J er:Int) (w:World) (hr:Rd w g A n c p J er) (G:er≠0):
 Calls prog 210 #[.pointer (some ⟨g,0,none⟩)] w fun e H=>e= .returned (.tuple #[])/\w=H:=by
 have K:(er==0)=false:=by simp [G]
 have c3:=zz w g 3 _ _ _ hr;simp at c3;clear hr G;go_enter func210,ntmps210;go_wp2
 go_end0
 exact ⟨rfl,rfl⟩
theorem ru2_any (g:Nat) (A:Option Addr) (n c:Nat) (bs:List Int) (s:RS) (w:World) (hr:RdS g A n c bs s w) (M:RK bs n c) (hp:s.1<=n):
 Calls prog 82 #[.pointer (some ⟨g,0,none⟩)] w fun e K=>e= .returned (.int .u64 (rU bs s).1)/\(∃J,Rd K g A n c (rU bs s).2.1 J (rU bs s).2.2/\(s.2=0->J=(s.1:Int)))/\Sl fB K g A n bs/\But (fun k=>k=g) w K:=by
 obtain ⟨⟨J,h1⟩,h2⟩:=hr;obtain ⟨p,er⟩:=s;have L:=Nat.le_of_lt (lb h1)
 by_cases h0:er=0
 ·subst h0;refine (yeb g A n c p J bs w h1 h2 M.1 hp M.2.1).mono ?_;rintro e K ⟨rfl,G,H⟩;have N:=h2.butg H L;unfold rU;simp only [rV,if_true] at G ⊢
  split
  ·next hz=>
   rw [if_pos hz] at G;rw [hz] at G;exact ⟨rfl,⟨_,G,fun _=>rfl⟩,N,H⟩
  ·next hz=>
   rw [if_neg hz] at G;exact ⟨rfl,⟨_,G,fun _=>rfl⟩,N,H⟩
 ·refine (ruint_err g A n c p J er w h1 h0).mono ?_;rintro e K ⟨rfl,G,H⟩;unfold rU;simp only [rV,h0,if_false];exact ⟨by first |rfl |trivial,⟨J,G,by first |trivial |exact fun h=>h.elim⟩,h2.butg (But.of_below H) L,But.of_below H⟩
def rN (a m:Nat) (bs:List Int) (s:RS):Int × RS:=if s.2=0/\(rU bs s).2.2=0 then (if (a:Int)<=(rU bs s).1/\(rU bs s).1<=(m:Int) then rU bs s else (0,(s.1,3))) else (0,(rU bs s).2)
theorem ycX (bs:List Int) (s:RS):0<=(rU bs s).1:=by
 unfold rU rV
 split
 ·split
  ·exact ybY ..
  ·exact Int.le_refl _
 ·exact Int.le_refl _
theorem rU_bad {bs:List Int} {s:RS} (h:¬(s.2=0/\(rU bs s).2.2=0)):(rU bs s).1=0/\(rU bs s).2.2≠0:=by
 unfold rU at h ⊢
 by_cases h1:s.2=0
 ·unfold rV at h ⊢;rw [if_pos h1] at h ⊢
  by_cases h2:(numF bs 10 0 0 s.1).2.1=0
  ·rw [if_pos h2] at h;exact absurd ⟨h1,rfl⟩ h
  ·rw [if_neg h2];exact ⟨rfl,h2⟩
 ·unfold rV;rw [if_neg h1];exact ⟨rfl,h1⟩
theorem rN_le {a m:Nat} {bs:List Int} {s:RS} {n:Nat} (hl:bs.length=n) (h:s.1<=n):(rN a m bs s).2.1<=n:=by
 have h1:=rU_le hl h;unfold rN
 split
 ·split
  ·exact h1
  ·exact h
 ·exact h1
theorem rN_range {a m:Nat} {bs:List Int} {s:RS}:0<=(rN a m bs s).1/\(rN a m bs s).1<=(m:Int):=by
 unfold rN
 split
 ·split
  ·next h=>exact ⟨ycX _ _,h.2⟩
  ·exact ⟨Int.le_refl _,Int.natCast_nonneg _⟩
 ·exact ⟨Int.le_refl _,Int.natCast_nonneg _⟩
theorem rn_any (a m:Nat) (ha:a<=1) (hm:m<=1099511627776) (g:Nat) (A:Option Addr) (n c:Nat) (bs:List Int) (s:RS) (w:World) (hr:RdS g A n c bs s w) (hk:RK bs n c) (hp:s.1<=n):
 Calls prog 169 #[.pointer (some ⟨g,0,none⟩),.int .i64 a,.int .i64 m] w (RPost g A n c bs (.int .i64 (rN a m bs s).1) (rN a m bs s).2 w):=by
 have HC:=lh (ru2_any g A n c bs s w hr hk hp);have Y:=ycX bs s;have H:=rU_bad (bs:=bs) (s:=s);have ac:Hid (g < w.heap.size):=hr.lt;have af:(a:Int) % 18446744073709551616=a:=by omega
 have ae:(m:Int) % 18446744073709551616=m:=by omega
 unfold rN;obtain ⟨z,L,hz⟩:∃z L,rU bs s=(z,L):=⟨_,_,rfl⟩
 rw [hz] at HC Y H ⊢;dsimp only at Y H;clear hr hz hk hp
 by_cases T:s.2=0/\L.2=0
 ·obtain ⟨h1,h2⟩:=T;rw [if_pos ⟨h1,h2⟩]
  have J:Hid (Calls prog 82 #[.pointer (some ⟨g,0,none⟩)] w fun e G=>e= .returned (.int .u64 z)/\Rd G g A n c L.1 (s.1:Int) 0/\Sl fB G g A n bs/\But (fun k=>k=g) w G):=HC.out.mono (fun e G ⟨N,⟨Z,O,U⟩,k4,k5⟩=>by
   rw [U h1] at O
   exact ⟨N,(by rw [<-h2];exact O),k4,k5⟩)
  obtain ⟨q,q2⟩:=L;obtain ⟨p,p2⟩:=s;dsimp only at h1 h2 J H;subst h1;subst h2;clear HC H
  have M:Hid (∀w1,Rd w1 g A n c q (p:Int) 0/\Sl fB w1 g A n bs/\But (fun k=>k=g) w w1->Calls prog 210 #[.pointer (some ⟨g,0,none⟩)] w1 fun e G=>e= .returned (.tuple #[])/\RdS g A n c bs (p,3) G/\But (fun k=>k=g) w G):=fun w1 ⟨N,O,U⟩=>
   (fail_ok g A n c q p w1 N).mono (fun e G ⟨j1,j2,j3⟩=>⟨j1,⟨⟨_,j2⟩,O.butg j3 (lT (Nat.le_of_lt ac.out) U.size)⟩,U.trans j3 (fun i hi=> .inl hi)⟩)
  by_cases ai:z < (a:Int)
  ·rw [if_neg om];go_enter func169,ntmps169
   go_wp2_with (first
    |(go_at_call 82;(with_reducible refine J.out.mono ?_);rintro e w1 ⟨rfl,k⟩;have K:=lh k;clear k)
    |(go_at_call 210;(with_reducible refine (M.out _ K.out).mono ?_);rintro e w2 ⟨rfl,k⟩;have W:=lh k;clear k))
   go_ret;exact ⟨rfl,W.out.1,W.out.2⟩
  ·by_cases ag:(m:Int) < z
   ·rw [if_neg om];go_enter func169,ntmps169
    go_wp2_with (first
     |(go_at_call 82;(with_reducible refine J.out.mono ?_);rintro e w1 ⟨rfl,k⟩;have K:=lh k;clear k)
     |(go_at_call 210;(with_reducible refine (M.out _ K.out).mono ?_);rintro e w2 ⟨rfl,k⟩;have W:=lh k;clear k))
    go_ret;exact ⟨rfl,W.out.1,W.out.2⟩
   ·rw [if_pos om];clear M;go_enter func169,ntmps169
    go_wp2_with (first
     |(go_at_call 82;(with_reducible refine J.out.mono ?_);rintro e w1 ⟨rfl,k⟩;have K:=lh k;clear k))
    go_ret;exact ⟨by first |rfl |exact ycQ (show wrap64 z=z by unfold wrap64;omega),⟨⟨_,K.out.1⟩,K.out.2.1⟩,K.out.2.2⟩
 ·rw [if_neg T];obtain ⟨aa,he⟩:=H T;have J:Hid (Calls prog 82 #[.pointer (some ⟨g,0,none⟩)] w fun e G=>e= .returned (.int .u64 0)/\RdS g A n c bs L G/\But (fun k=>k=g) w G):=HC.out.mono (fun e G ⟨N,⟨Z,O,U⟩,k4,k5⟩=>⟨by rw [N,aa],⟨⟨Z,O⟩,k4⟩,k5⟩);have M:Hid (∀w1,RdS g A n c bs L w1/\But (fun k=>k=g) w w1->Calls prog 210 #[.pointer (some ⟨g,0,none⟩)] w1 fun e G=>e= .returned (.tuple #[])/\w1=G):=fun w1 ⟨⟨⟨Z,N⟩,O⟩,U⟩=>fail_err g A n c L.1 Z L.2 w1 N he;have ah:¬(m:Int) < 0:=by omega
  clear HC H T aa he Y;rcases (show a=0∨a=1 by omega) with rfl |rfl
  ·go_enter func169,ntmps169
   go_wp2_with (first
    |(go_at_call 82;(with_reducible refine J.out.mono ?_);rintro e w1 ⟨rfl,k⟩;have K:=lh k;clear k))
   go_ret;exact ⟨rfl,K.out.1,K.out.2⟩
  ·go_enter func169,ntmps169
   go_wp2_with (first
    |(go_at_call 82;(with_reducible refine J.out.mono ?_);rintro e w1 ⟨rfl,k⟩;have K:=lh k;clear k)
    |(go_at_call 210;(with_reducible refine (M.out _ K.out).mono ?_);rintro e w2 ⟨rfl,rfl⟩))
   go_ret;exact ⟨rfl,K.out.1,K.out.2⟩
def rId (bs:List Int) (s:RS):(ByteArray × Int) × RS:=(((rS bs s).1,(rN 0 15 bs (rS bs s).2).1),(rN 0 15 bs (rS bs s).2).2)
theorem rId_le {bs:List Int} {s:RS} {n:Nat} (hl:bs.length=n) (h:s.1<=n):(rId bs s).2.1<=n:=rN_le hl (rS_le hl h)
theorem Tryz.sizePid:(prog.info? 31).map (·.size)=some 2:=by kernel_rfl
theorem pid_one (s:ByteArray) (ix:Int):(#[.string s,.int .i64 ix]:Array Value).all (·.oneCell')=true:=by
 rw [Array.all_eq_true'];intro x hx;simp at hx;rcases hx with rfl |rfl<;>rfl
theorem pid_size (s:ByteArray) (ix:Int):(prog.info? 31).map (·.size)=some (#[.string s,.int .i64 ix]:Array Value).size:=Tryz.sizePid
theorem pid_sz (s:ByteArray) (ix:Int):(#[.string ⟨#[]⟩,.int .i64 0]:Array Value).size=(#[.string s,.int .i64 ix]:Array Value).size:=rfl
theorem rid_any (g:Nat) (A:Option Addr) (n c:Nat) (bs:List Int) (s:RS) (w:World) (hr:RdS g A n c bs s w) (N:RK bs n c) (hp:s.1<=n):
 Calls prog 170 #[.pointer (some ⟨g,0,none⟩)] w (RPost g A n c bs (.agg #[.string (rId bs s).1.1,.int .i64 (rId bs s).1.2]) (rId bs s).2 w):=by
 have hl:=hr.len;have U:=hr.lt;obtain ⟨W,J⟩:∃W:World,W=w.alloc (.cells #[.string ⟨#[]⟩,.int .i64 0] 31):=⟨_,rfl⟩
 have K:Below w.heap.size w W:=by rw [J];exact bl
 have hZ:W.heap[w.heap.size]? =some (.cells #[.string ⟨#[]⟩,.int .i64 0] 31 (0,0)):=by rw [J];exact zy w _
 have H:=lh (rs_any g A n c bs s W (hr.on K) N hp);have G:=rS_le hl hp;have HD:Hid (rId bs s=(((rS bs s).1,(rN 0 15 bs (rS bs s).2).1),(rN 0 15 bs (rS bs s).2).2)):=rfl;rw [HD.out];obtain ⟨st,L,e1⟩:∃z s',rS bs s=(z,s'):=⟨_,_,rfl⟩
 rw [e1] at H G ⊢;have O:Hid (∀V,RdS g A n c bs L V->Calls prog 169 #[.pointer (some ⟨g,0,none⟩),.int .i64 0,.int .i64 15] V (RPost g A n c bs (.int .i64 (rN 0 15 bs L).1) (rN 0 15 bs L).2 V)):=fun V hV=>rn_any 0 15 de de g A n c bs L V hV N G;obtain ⟨ix,s2,e2⟩:∃z s',rN 0 15 bs L=(z,s'):=⟨_,_,rfl⟩
 dsimp only;rw [e2] at O ⊢;have HZ:=lh hZ;have HBW:=lh K;have HWE:=lh J;have HGL:=lh U;rw [J] at H;clear hr N hl K hZ J e1 e2 HD hp G U;go_enter func170,ntmps170
 go_wp2_with (first
  |(go_at_call 172;(with_reducible refine H.out.mono ?_);rintro e w1 ⟨rfl,r1,M⟩
    rw [<-HWE.out] at M;have T:Hid (w1.heap[w.heap.size]? =some (.cells #[.string ⟨#[]⟩,.int .i64 0] 31 (0,0))):=(M.block _ (lb HZ.out) ybe).trans HZ.out;have R1:=lh r1;have B1:Hid (But (fun k=>k=g) w w1):=(But.of_below HBW.out).trans M (fun i hi=> .inl hi)
    clear r1 M)
  |(go_at_call 169;(with_reducible refine (O.out _ R1.out).mono ?_);rintro e w2 ⟨rfl,r2,Y⟩
    have Z:Hid (w2.heap[w.heap.size]? =some (.cells #[.string ⟨#[]⟩,.int .i64 0] 31 (0,0))):=(Y.block _ (lb T.out) ybe).trans T.out;have R2:=lh r2;have B2:Hid (But (fun k=>k=g) w w2):=B1.out.trans Y (fun i hi=> .inl hi)
    clear r2 Y)
  |((with_reducible refine ybk (o:=⟨none,_,_,_,_,_⟩) rfl 31 (.tmp 2) (.tmp 9) rfl w.heap.size 31 _ _ rfl rfl Z.out (pid_size _ _) (pid_sz _ _) (pid_one _ _) ?_);intro W7 HG7 HB7))
 refine bodyPost_ret (results_cell_row rfl _ _ _ _ _ _ _ rfl HG7.out underlying31 rfl (pid_size _ _)) rfl ⟨rfl,?_,?_⟩
 ·exact R2.out.but HB7.out (fun k N h=>by have:=HGL.out;omega)
 ·exact B2.out.trans HB7.out (fun i hi=> .inr om)
open Go.RowKit
structure Rcp where
 hd:Int
 vt:Int
 s:ByteArray
 ix:Int
 sz:Int
 dy:Int
 sr:Int
 ct:Int
 pl:Int
 rt:ByteArray
 pa:Hd
 si:Int
 pb:Hd
 pc:Hd
def fR (r:Rcp):List Value:=[.int .i64 r.hd,.int .i64 r.vt,.string r.s,.int .i64 r.ix,.int .i64 r.sz,.int .i64 r.dy,.int .i64 r.sr,.int .i64 r.ct,.int .i64 r.pl,.string r.rt,.slice r.pa.a r.pa.n r.pa.c,.int .i64 r.si,.slice r.pb.a r.pb.n r.pb.c,.slice r.pc.a r.pc.n r.pc.c]
theorem fR_len (r:Rcp):(fR r).length=14:=rfl
def fP (p:ByteArray × Int):List Value:=[.string p.1,.int .i64 p.2]
theorem fP_len (p:ByteArray × Int):(fP p).length=2:=rfl
theorem fP_one (p:ByteArray × Int):∀u∈fP p,u.oneCell'=true:=fun u hu=>by
 simp only [fP,List.mem_cons,List.not_mem_nil,or_false] at hu;rcases hu with rfl |rfl<;>rfl
noncomputable def reaS (dev:List Int) (acc:List (ByteArray × Int)) (r:Rcp):List (ByteArray × Int):=
 if (dev.contains r.hd&& !pinB acc (r.s,r.ix))=true then acc++[(r.s,r.ix)] else acc
noncomputable def rea (dev:List Int) (rs:List Rcp):List (ByteArray × Int):=rs.foldl (reaS dev) []
theorem rea_snoc (dev:List Int) (rs:List Rcp) (r:Rcp):rea dev (rs++[r])=reaS dev (rea dev rs) r:=by simp [rea]
theorem reaS_len (dev:List Int) (acc:List (ByteArray × Int)) (r:Rcp):(reaS dev acc r).length<=acc.length+1:=by
 unfold reaS
 split
 ·simp
 ·omega
theorem yd3 (dev:List Int) (rs:List Rcp):∀k,k<=rs.length->(rea dev (rs.take k)).length<=k
 |0,_=>by simp [rea]
 |k+1,h=>by
  obtain ⟨r,hr⟩:=ybQ (xs:=rs) (k:=k) om;rw [yby hr,rea_snoc];have:=reaS_len dev (rea dev (rs.take k)) r;have:=yd3 dev rs k om;omega
def IdxP (h:Int) (xs:List Int) (w:World) (i:Value) (wr:World):Prop:=∃k:Nat,k<=xs.length/\i= .int .i64 k/\Hid (h∉xs.take k)/\w=wr
theorem ydb {h x:Int} {xs:List Int} {k:Nat} (hx:xs[k]? =some x) (h1:h∉xs.take k) (h2:h≠x):h∉xs.take (k+1):=by
 rw [yby hx];simp [h1,h2]
theorem indexI_any (A:Option Addr) (n c B:Nat) (xs:List Int) (h:Int) (w:World) (K:Sl I w B A n xs) (hl:n<=1000000):
 Calls prog 86 #[.slice A n c,.int .i64 h] w fun e U=>∃z:Int,e= .returned (.int .i64 z)/\(decide (0<=z)=xs.contains h)/\w=U:=by
 have W:=lh K;have HXN:Hid (xs.length=n):=K.1;clear K;go_enter func86,ntmps86;go_wp2
 go_loopw [8] (fun i wr=>IdxP h xs w i wr) (fun i _=>n - (intOf i).toNat)
 case atStart=>exact ⟨0,by omega,rfl,by show h∉xs.take 0;simp,rfl⟩
 case round=>
  obtain ⟨k,O,rfl,N,rfl⟩:=hrel;rw [HXN.out] at O
  by_cases hlt:k < n
  ·obtain ⟨b,Y,x,rfl,_,G,J⟩:=W.out.2.at_ (k:=k) yba;have Z:(k:Int) < (n:Int):=by omega
   by_cases H:h=x
   ·subst H
    have M:Hid (xs.contains h=true):=by
     show _=_;simp only [List.contains_iff_mem];exact List.mem_of_getElem? G
    clear G;go_wp2;go_ret;exact ⟨_,rfl,by rw [M.out];simp,rfl⟩
   ·have T:=lh G;have L:=lh H;clear G;go_wp2;refine ⟨?rel,?measure⟩;case rel=>exact ⟨k+1,by rw [HXN.out];omega,by go_num,ydb T.out N.out L.out,rfl⟩
    case measure=>simp [intOf];omega
  ·obtain rfl:k=n:=by omega
   go_wp2;go_ret;refine ⟨-1,rfl,?_,rfl⟩;have h1:=N.out;rw [List.take_of_length_le ya4] at h1
   have h2:xs.contains h=false:=by
    cases J:xs.contains h
    ·rfl
    ·rw [List.contains_iff_mem] at J;exact absurd J h1
   rw [h2];rfl
theorem containsI_any (A:Option Addr) (n c B:Nat) (xs:List Int) (h:Int) (w:World) (G:Sl I w B A n xs) (hl:n<=1000000):
 Calls prog 41 #[.slice A n c,.int .i64 h] w fun e J=>e= .returned (.bool (xs.contains h))/\w=J:=by
 have HC:=lh (indexI_any A n c B xs h w G hl);clear G;go_enter func41,ntmps41
 go_wp2_with (first
  |(go_at_call 86;(with_reducible refine HC.out.mono ?_);rintro e w1 ⟨z,rfl,H,rfl⟩;(have K:=lh H);clear H))
 go_ret;exact ⟨ybo K.out,rfl⟩
theorem in_any (A:Option Addr) (n c B:Nat) (xs:List Int) (h:Int) (w:World) (K:Sl I w B A n xs) (hl:n<=1000000):
 Calls prog 20 #[.slice A n c,.int .i64 h] w fun e U=>e= .returned (.bool (xs.contains h))/\w=U:=by
 have W:=lh K;have HXN:Hid (xs.length=n):=K.1;clear K;go_enter func20,ntmps20;go_wp2
 go_loopw [5] (fun i wr=>IdxP h xs w i wr) (fun i _=>n - (intOf i).toNat)
 case atStart=>exact ⟨0,by omega,rfl,by show h∉xs.take 0;simp,rfl⟩
 case round=>
  obtain ⟨k,O,rfl,N,rfl⟩:=hrel;rw [HXN.out] at O
  by_cases hlt:k < n
  ·obtain ⟨b,Y,x,rfl,_,G,J⟩:=W.out.2.at_ (k:=k) yba;have Z:(k:Int) < (n:Int):=by omega
   by_cases H:x=h
   ·subst H
    have M:Hid (xs.contains x=true):=by
     show _=_;simp only [List.contains_iff_mem];exact List.mem_of_getElem? G
    clear G;go_wp2;go_ret;exact ⟨by rw [M.out];rfl,rfl⟩
   ·have T:=lh G;have L:=lh H;clear G;go_wp2;refine ⟨?rel,?measure⟩;case rel=>exact ⟨k+1,by rw [HXN.out];omega,by go_num,ydb T.out N.out (fun e=>L.out e.symm),rfl⟩
    case measure=>simp [intOf];omega
  ·obtain rfl:k=n:=by omega
   go_wp2;go_ret;have h1:=N.out;rw [List.take_of_length_le ya4] at h1
   have h2:xs.contains h=false:=by
    cases J:xs.contains h
    ·rfl
    ·rw [List.contains_iff_mem] at J;exact absurd J h1
   exact ⟨by rw [h2];rfl,rfl⟩
def ReaP (dev:List Int) (rs:List Rcp) (w:World) (v i:Value) (wr:World):Prop:=
 ∃k n:Nat,k<=rs.length/\n<=k/\i= .int .i64 k/\Hid (MapP wr w.heap.size n (rea dev (rs.take k)))/\Hid (OwnN fP 2 31 wr (w.heap.size+1) v (rea dev (rs.take k)))/\Hid (Below w.heap.size w wr)
theorem Tryz.infoP:(prog.info? 31).map (fun i=>(i.zero,i.size,i.bytes))=some (some (.agg #[.string ⟨#[]⟩,.int .i64 0]),2,24):=by kernel_rfl
theorem reassign_any (A A':Option Addr) (n c n' c' B:Nat) (rs:List Rcp) (dev:List Int) (w:World) (hx:SlN fR 14 w B A n rs) (hy:Sl I w B A' n' dev) (hB:B<=w.heap.size) (hl:n<=1000) (aU:n'<=1000000) (al:∀r∈rs,okP r.s r.ix):
 Calls prog 36 #[.slice A n c,.slice A' n' c'] w fun e w'=>∃A1 n1 c1,e= .returned (.slice A1 n1 c1)/\SlN fP 2 w' w'.heap.size A1 n1 (rea dev rs)/\Below w.heap.size w w':=by
 obtain ⟨i0,hi,am,aq,ap⟩:=info_parts Tryz.infoP;have HI:=lh hi;have aV:=lh am;have aW:=lh aq;have aG:=lh ap;have HX:=lh hx;have HXN:Hid (rs.length=n):=hx.1;have aJ:=lh al;have HB:=lh hB;have HY:Hid (∀W h,Below w.heap.size w W->Calls prog 41 #[.slice A' n' c',.int .i64 h] W fun e w'=>e= .returned (.bool (dev.contains h))/\W=w'):=fun W h hb=>containsI_any A' n' c' B dev h W (hy.up hb hB) aU;clear hi am aq ap hx hy al hB;go_enter func36,ntmps36;have aQ:= @run_makeMap prog;go_wp2;clear aQ
 go_loopw [6,12] (fun v i wr=>ReaP dev rs w v i wr) (fun _ i _=>n - (intOf i).toNat)
 case atStart=>exact ⟨0,0,by omega,by omega,rfl,MapP.made w,OwnN.nil,bl⟩
 case round=>
  obtain ⟨k,m,hk,hm,rfl,HM,HO,ag⟩:=hrel;rw [HXN.out] at hk
  by_cases hlt:k < n
  ·obtain ⟨b,G,r,rfl,aZ,hr,H⟩:=(HX.out.up ag.out HB.out).at_ hlt;have a1:(k:Int) < (n:Int):=by omega
   have aE:wr.cell? ⟨b,G+k*14,none⟩=some (.int .i64 r.hd):=by rw [show G+k*14=G+(k*14+0) by omega];exact H 0 _ rfl
   have aT:wr.cell? ⟨b,G+k*14+1,none⟩=some (.int .i64 r.vt):=by rw [show G+k*14+1=G+(k*14+1) by omega];exact H 1 _ rfl
   have az:wr.cell? ⟨b,G+k*14+2,none⟩=some (.string r.s):=by rw [show G+k*14+2=G+(k*14+2) by omega];exact H 2 _ rfl
   have aF:wr.cell? ⟨b,G+k*14+3,none⟩=some (.int .i64 r.ix):=by rw [show G+k*14+3=G+(k*14+3) by omega];exact H 3 _ rfl
   have aB:wr.cell? ⟨b,G+k*14+4,none⟩=some (.int .i64 r.sz):=by rw [show G+k*14+4=G+(k*14+4) by omega];exact H 4 _ rfl
   have aC:wr.cell? ⟨b,G+k*14+5,none⟩=some (.int .i64 r.dy):=by rw [show G+k*14+5=G+(k*14+5) by omega];exact H 5 _ rfl
   have aL:wr.cell? ⟨b,G+k*14+6,none⟩=some (.int .i64 r.sr):=by rw [show G+k*14+6=G+(k*14+6) by omega];exact H 6 _ rfl
   have aM:wr.cell? ⟨b,G+k*14+7,none⟩=some (.int .i64 r.ct):=by rw [show G+k*14+7=G+(k*14+7) by omega];exact H 7 _ rfl
   have aO:wr.cell? ⟨b,G+k*14+8,none⟩=some (.int .i64 r.pl):=by rw [show G+k*14+8=G+(k*14+8) by omega];exact H 8 _ rfl
   have aN:wr.cell? ⟨b,G+k*14+9,none⟩=some (.string r.rt):=by rw [show G+k*14+9=G+(k*14+9) by omega];exact H 9 _ rfl
   have au:wr.cell? ⟨b,G+k*14+10,none⟩=some (.slice r.pa.a r.pa.n r.pa.c):=by rw [show G+k*14+10=G+(k*14+10) by omega];exact H 10 _ rfl
   have ay:wr.cell? ⟨b,G+k*14+11,none⟩=some (.int .i64 r.si):=by rw [show G+k*14+11=G+(k*14+11) by omega];exact H 11 _ rfl
   have ax:wr.cell? ⟨b,G+k*14+12,none⟩=some (.slice r.pb.a r.pb.n r.pb.c):=by rw [show G+k*14+12=G+(k*14+12) by omega];exact H 12 _ rfl
   have aw:wr.cell? ⟨b,G+k*14+13,none⟩=some (.slice r.pc.a r.pc.n r.pc.c):=by rw [show G+k*14+13=G+(k*14+13) by omega];exact H 13 _ rfl
   have HR:=lh hr;have ai:okP r.s r.ix:=aJ.out r (List.mem_of_getElem? hr);have aj:=lh ai;have aa:Hid (rea dev (rs.take (k+1))=reaS dev (rea dev (rs.take k)) r):=by show _=_;rw [yby hr,rea_snoc]
   have ar:=yd3 dev rs k (by rw [HXN.out];omega);obtain ⟨J,Y⟩:∃J,J=rea dev (rs.take k):=⟨_,rfl⟩
   rw [<-Y] at HM HO aa ar;have aX:=lh Y;have aI:Hid (m < maxLen):=by show _ < _;unfold maxLen;omega
   have aH:Hid ((J.length+1)*24<=140737488355328):=by show _<=_;omega
   have aK:Hid (J.length+1<=maxLen):=by show _<=_;unfold maxLen;omega
   clear H hr ai Y;go_upto_region 6 with fail
   generalize hW:wr.alloc _=W1;have U:Hid (W1.heap[wr.heap.size]? =some (.cells (fR r).toArray 35 (0,0))):=by show _=_;rw [<-hW];exact zy wr _
   have ah:Hid (Below wr.heap.size wr W1):=by show Below ..;rw [<-hW];exact bl
   have HB1:Hid (Below w.heap.size w W1):=bt ag.out ah.out;have ac:Hid (MapP W1 w.heap.size m J):=HM.out.block (ah.out.block _ HM.out.lt);have Z:Hid (OwnN fP 2 31 W1 (w.heap.size+1) u6 J):=HO.out.on ah.out;have aR:Hid (w.heap.size < wr.heap.size):=HM.out.lt;have f0:=zz W1 wr.heap.size 0 _ _ _ U.out;have f2:=zz W1 wr.heap.size 2 _ _ _ U.out;have f3:=zz W1 wr.heap.size 3 _ _ _ U.out;simp [fR] at f0 f2 f3;clear hW aE aT az aF aB aC aL aM aO aN au ay ax aw;have K:=ac.out.look r.s r.ix aj.out;unfold pP at K
   cases L:dev.contains r.hd
   ·have z:=lh L;have M:Hid (rea dev (rs.take (k+1))=J):=by show _=_;rw [aa.out,reaS,L];rfl
    clear L K
    go_wp2_with (first
     |(go_at_call 41;(with_reducible refine (HY.out _ _ HB1.out).mono ?_);rintro e w1 ⟨rfl,O⟩;subst O;rw [z.out]))
    refine ⟨?rel,?measure⟩;case rel=>exact ⟨k+1,m,by rw [HXN.out];omega,by omega,by go_num,by show MapP ..;rw [M.out];exact ac.out,by show OwnN ..;rw [M.out];exact Z.out,HB1⟩
    case measure=>simp [intOf];omega
   ·have z:=lh L
    cases N:pinB J (r.s,r.ix)
    ·have M:Hid (rea dev (rs.take (k+1))=J++[(r.s,r.ix)]):=by show _=_;rw [aa.out,reaS,L,N];rfl
     rw [N] at K;obtain ⟨W2,r1,af,T⟩:=ac.out.store aI.out r.s r.ix aj.out;unfold pP at r1;have aP:=lh af;have a0:=lh T;have ak:Hid (Below w.heap.size w W2):=HB1.out.trans (ybm T (fun j hj=>by injection hj with hj;omega) HB1.out.size)
     have ae:Hid (OwnN fP 2 31 W2 (w.heap.size+1) u6 J):=Z.out.kept T (.inr (fun e=>by
      have:=(ol Z.out _ e).1
      omega))
     have ao:Hid (W2.heap[wr.heap.size]? =some (.cells (fR r).toArray 35 (0,0))):=(T.block _ (lb U.out) (fun e=>by injection e with e;have:=aR.out;omega)).trans U.out;have g2:=zz W2 wr.heap.size 2 _ _ _ ao.out;have g3:=zz W2 wr.heap.size 3 _ _ _ ao.out;simp [fR] at g2 g3;have aD:Hid (w.heap.size+1<=W2.heap.size):=af.lt;clear L N af T
     go_upto_region 9 with (first
      |(go_at_call 41;(with_reducible refine (HY.out _ _ HB1.out).mono ?_);rintro e w1 ⟨rfl,O⟩;subst O;rw [z.out])
      |(at_builtin;(refine yct fP_len om (o:=⟨some 34,_,_,_,_,_⟩) rfl (.tmp 30) (.tmp 33) 87 rfl 31 i0 _ 24 underlying87 HI.out aV.out aW.out aG.out (by rfl) _ J (w.heap.size+1) (by rfl) ae.out (r.s,r.ix) 1 (by rfl) fP_one aH.out aK.out aD.out ?_);intro v3 w3 aS HG3 aY))
     clear K r1;go_wp2;refine ⟨?rel,?measure⟩
     case rel=>
      have aA:some w.heap.size≠u6.ownBlock:=fun e=>by
       have:=(ol ae.out _ e.symm).1;omega
      exact ⟨k+1,m+1,by rw [HXN.out];omega,by omega,by go_num,by show MapP ..;rw [M.out];exact aP.out.kept HG3.out aA,by show OwnN ..;rw [M.out];exact aS.out,ak.out.trans (ybm HG3.out (fun j hj=>lT (Nat.le_succ _) (ol ae.out j hj).1) ak.out.size)⟩
     case measure=>simp [intOf];omega
    ·have M:Hid (rea dev (rs.take (k+1))=J):=by show _=_;rw [aa.out,reaS,L,N];rfl
     rw [N] at K;clear L N
     go_wp2_with (first
      |(go_at_call 41;(with_reducible refine (HY.out _ _ HB1.out).mono ?_);rintro e w1 ⟨rfl,O⟩;subst O;rw [z.out]))
     refine ⟨?rel,?measure⟩;case rel=>exact ⟨k+1,m,by rw [HXN.out];omega,by omega,by go_num,by show MapP ..;rw [M.out];exact ac.out,by show OwnN ..;rw [M.out];exact Z.out,HB1⟩
     case measure=>simp [intOf];omega
  ·obtain rfl:k=n:=by omega
   go_wp2;go_ret;obtain ⟨A1,c1,hv,_,hs,_⟩:=HO.out.shape fP_len;rw [List.take_of_length_le ya4] at hv hs;exact ⟨A1,_,c1,by rw [<-hv];rfl,hs,ag.out⟩
def rgB (x a b:Int):Bool:=decide (a<=x/\x<=b)
def arB (ys:List ByteArray) (m:Nat):Bool:=decide (ys.length<=m)&&sumsB ys
def pvB (vt:Int) (s:ByteArray) (ix sz:Int):Bool:=rgB vt 0 11&&(decide (s.size=32)&&(rgB ix 0 15&&rgB sz 1 65536))
def vaB (r:Rcp) (ps qs rs:List ByteArray):Bool:=rgB r.hd 0 11&&(pvB r.vt r.s r.ix r.sz&&(rgB r.dy 0 999999&&(rgB r.sr 0 1099511627776&&(rgB r.ct 1 256&&(rgB r.pl 0 (r.ct - 1)&&(decide (r.rt.size=32)&&(arB ps 8&&(arB rs 8&&(arB qs 300&&rgB r.si 0 255)))))))))
def RcIn (w:World) (B:Nat) (r:Rcp) (ps qs rs:List ByteArray):Prop:=Sl fT w B r.pa.a r.pa.n ps/\Sl fT w B r.pb.a r.pb.n qs/\Sl fT w B r.pc.a r.pc.n rs
theorem RcIn.up {w w':World} {B B':Nat} {r:Rcp} {ps qs rs:List ByteArray} (h:RcIn w B r ps qs rs) (hb:Below B' w w') (hB:B<=B'):RcIn w' B r ps qs rs:=⟨h.1.up hb hB,h.2.1.up hb hB,h.2.2.up hb hB⟩
theorem RcIn.more {w:World} {B B':Nat} {r:Rcp} {ps qs rs:List ByteArray} (h:RcIn w B r ps qs rs) (hB:B<=B'):RcIn w B' r ps qs rs:=⟨h.1.more' hB,h.2.1.more' hB,h.2.2.more' hB⟩
theorem size32 (s:ByteArray) (h:decide (s.size=32)=false):(((s.size:Nat):Int)==32)=false:=by have:=of_decide_eq_false h;simp;omega
theorem ydR (s:ByteArray) (h:decide (s.size=32)=false):(((s.size:Nat):Int) != 32)=true:=by have:=of_decide_eq_false h;simp;omega
def tkB (s:ByteArray) (ix:Int) (no an:ByteArray):Bool:=idB s ix&&(decide (no.size=32)&&decide (an.size=32))
theorem ybU (x a b:Int) (w:World):Calls prog 144 #[.int .i64 x,.int .i64 a,.int .i64 b] w fun e G=>e= .returned (.bool (rgB x a b))/\w=G:=by
 by_cases h1:a<=x
 ·by_cases h2:x<=b
  ·skip
   go_enter func144,ntmps144;go_wp2;go_ret;exact ⟨ybo yaP,rfl⟩
  ·skip
   go_enter func144,ntmps144;go_wp2;go_ret;exact ⟨ybo yaP,rfl⟩
 ·skip
  go_enter func144,ntmps144;go_wp2;go_ret;exact ⟨ybo yaP,rfl⟩
theorem ybV (x a b:Int) (w:World):Calls prog 92 #[.int .i64 x,.int .i64 a,.int .i64 b] w fun e G=>e= .returned (.bool (rgB x a b))/\w=G:=by
 by_cases h1:a<=x
 ·by_cases h2:x<=b
  ·skip
   go_enter func92,ntmps92;go_wp2;go_ret;exact ⟨ybo yaP,rfl⟩
  ·skip
   go_enter func92,ntmps92;go_wp2;go_ret;exact ⟨ybo yaP,rfl⟩
 ·skip
  go_enter func92,ntmps92;go_wp2;go_ret;exact ⟨ybo yaP,rfl⟩
theorem areSums1_any (s:ByteArray) (w:World):Calls prog 197 #[.string s] w fun e H=>e= .returned (.bool (!decide (s.size=32)))/\w=H:=by
 by_cases hs:s.size=32
 ·have G:(((s.size:Nat):Int) != 32)=false:=by simp;omega
  rw [decide_eq_true hs];clear hs;go_enter func197,ntmps197;go_wp2;go_ret;exact ⟨rfl,rfl⟩
 ·have G:(((s.size:Nat):Int) != 32)=true:=by simp;omega
  rw [decide_eq_false hs];clear hs;go_enter func197,ntmps197;go_wp2;go_ret;exact ⟨rfl,rfl⟩
theorem indexF_are (A:Option Addr) (n c B:Nat) (ys:List ByteArray) (w:World) (K:Sl fT w B A n ys) (hn:n<=1000000) (hf:∀s,Calls prog 197 #[.string s] w fun e J=>e= .returned (.bool (!decide (s.size=32)))/\w=J):
 Calls prog 165 #[.slice A n c,.func (.func 197) #[] #[]] w fun e J=>∃z:Int,e= .returned (.int .i64 z)/\decide (0<=z)= !sumsB ys/\w=J:=by
 have M:=lh K;have HXN:Hid (ys.length=n):=K.1;have HC:=lh hf;clear K hf;go_enter func165,ntmps165;go_wp2
 go_loopw [8] (fun i wr=>∃k:Nat,k<=n/\i= .int .i64 k/\Hid (∀s∈ys.take k,s.size=32)/\w=wr) (fun i _=>n - (intOf i).toNat)
 case atStart=>exact ⟨0,by omega,rfl,fun s h=>by simp at h,rfl⟩
 case round=>
  obtain ⟨k,W,rfl,L,rfl⟩:=hrel
  by_cases hlt:k < n
  ·obtain ⟨b,T,x,rfl,_,H,Y⟩:=M.out.2.at_ (k:=k) yba;have U:(k:Int) < (n:Int):=by omega
   have G:=lh (HC.out x)
   by_cases hs:x.size=32
   ·have O:Hid (∀s∈ys.take (k+1),s.size=32):=fun s h=>by
     rw [yby H,List.mem_append,List.mem_singleton] at h;rcases h with h |rfl
     ·exact L.out s h
     ·exact hs
    have hd:decide (x.size=32)=true:=decide_eq_true hs;rw [hd] at G;clear hs hd H
    go_wp2_with (first
     |(go_at_call 197;(with_reducible refine G.out.mono ?_);rintro e w1 ⟨rfl,rfl⟩))
    refine ⟨?rel,?measure⟩;case rel=>exact ⟨k+1,by omega,by go_num,O,by trivial⟩
    case measure=>simp [intOf];omega
   ·have N:Hid (sumsB ys=false):=ycw (List.mem_of_getElem? H) hs;have hd:decide (x.size=32)=false:=decide_eq_false hs;rw [hd] at G;clear hs hd H
    go_wp2_with (first
     |(go_at_call 197;(with_reducible refine G.out.mono ?_);rintro e w1 ⟨rfl,rfl⟩))
    go_ret;exact ⟨_,rfl,by rw [N.out];simp,rfl⟩
  ·obtain rfl:k=n:=by omega
   go_wp2;go_ret;have h1:=L.out;rw [List.take_of_length_le ya4] at h1;exact ⟨-1,rfl,by rw [yck.2 h1];rfl,rfl⟩
theorem containsF_are (A:Option Addr) (n c B:Nat) (ys:List ByteArray) (w:World) (H:Sl fT w B A n ys) (hn:n<=1000000) (hf:∀s,Calls prog 197 #[.string s] w fun e G=>e= .returned (.bool (!decide (s.size=32)))/\w=G):
 Calls prog 99 #[.slice A n c,.func (.func 197) #[] #[]] w fun e G=>e= .returned (.bool (!sumsB ys))/\w=G:=by
 have HC:=lh (indexF_are A n c B ys w H hn hf);clear H hf;go_enter func99,ntmps99
 go_wp2_with (first
  |(go_at_call 165;(with_reducible refine HC.out.mono ?_);rintro e w1 ⟨z,rfl,J,rfl⟩;(have K:=lh J);clear J))
 go_ret;exact ⟨ybo K.out,rfl⟩
theorem ydm (A:Option Addr) (n c B m:Nat) (ys:List ByteArray) (w:World) (H:Sl fT w B A n ys) (M:m<=1000):Calls prog 146 #[.slice A n c,.int .i64 m] w fun e G=>e= .returned (.bool (arB ys m))/\w=G:=by
 have K:Hid (ys.length=n):=H.1;have HC:Hid (n<=m->Calls prog 99 #[.slice A n c,.func (.func 197) #[] #[]] w fun e G=>e= .returned (.bool (!sumsB ys))/\w=G):=fun h=>containsF_are A n c B ys w H om (fun s=>areSums1_any s w);clear H;unfold arB;rw [K.out]
 by_cases h:n<=m
 ·have J:=lh (HC.out h);have L:(n:Int)<=(m:Int):=by omega
  rw [decide_eq_true h];clear h HC;go_enter func146,ntmps146
  go_wp2_with (first
   |(go_at_call 99;(with_reducible refine J.out.mono ?_);rintro e w1 ⟨rfl,rfl⟩))
  go_ret;exact ⟨ybo sI,rfl⟩
 ·have L:¬(n:Int)<=(m:Int):=by omega
  rw [decide_eq_false h];clear h HC;go_enter func146,ntmps146;go_wp2;go_ret;exact ⟨rfl,rfl⟩
theorem ydS (A:Option Addr) (n c B m:Nat) (ys:List ByteArray) (w:World) (J:Sl fT w B A n ys) (hn:n<=1000000):Calls prog 94 #[.slice A n c,.int .i64 m] w fun e N=>e= .returned (.bool (arB ys m))/\w=N:=by
 have M:=lh J;have HXN:Hid (ys.length=n):=J.1;clear J;unfold arB;rw [HXN.out];go_enter func94,ntmps94;go_wp2
 go_loopw [5] (fun i wr=>∃k:Nat,k<=n/\i= .int .i64 k/\Hid (∀s∈ys.take k,s.size=32)/\w=wr) (fun i _=>n - (intOf i).toNat)
 case atStart=>exact ⟨0,by omega,rfl,fun s h=>by simp at h,rfl⟩
 case round=>
  obtain ⟨k,Y,rfl,K,rfl⟩:=hrel
  by_cases hlt:k < n
  ·obtain ⟨b,T,x,rfl,_,H,Z⟩:=M.out.2.at_ (k:=k) yba;have U:(k:Int) < (n:Int):=by omega
   by_cases hs:x.size=32
   ·have O:Hid (∀s∈ys.take (k+1),s.size=32):=fun s h=>by
     rw [yby H,List.mem_append,List.mem_singleton] at h;rcases h with h |rfl
     ·exact K.out s h
     ·exact hs
    have hd:(((x.size:Nat):Int) != 32)=false:=by simp;omega
    clear hs H;go_wp2;refine ⟨?rel,?measure⟩;case rel=>exact ⟨k+1,by omega,by go_num,O,by trivial⟩
    case measure=>simp [intOf];omega
   ·have G:Hid (sumsB ys=false):=ycw (List.mem_of_getElem? H) hs;have hd:(((x.size:Nat):Int) != 32)=true:=by simp;omega
    clear hs H;go_wp2;go_ret;exact ⟨ybo (by rw [G.out];simp),rfl⟩
  ·obtain rfl:k=n:=by omega
   have G:Hid (sumsB ys=true):=yck.2 (by
    have h1:=K.out
    rwa [List.take_of_length_le ya4] at h1)
   by_cases W:k<=m
   ·have L:(k:Int)<=(m:Int):=by omega
    go_wp2;go_ret;exact ⟨by first |rfl |exact ybo (by rw [G.out];simp;omega),rfl⟩
   ·have L:¬(k:Int)<=(m:Int):=by omega
    go_wp2;go_ret;exact ⟨by first |rfl |exact ybo (by rw [G.out];simp;omega),rfl⟩
theorem pvalid_any (vt:Int) (s:ByteArray) (ix sz:Int) (w:World):Calls prog 145 #[.agg #[.int .i64 vt,.string s,.int .i64 ix,.int .i64 sz]] w fun e L=>e= .returned (.bool (pvB vt s ix sz))/\w.alloc (.cells #[.int .i64 vt,.string s,.int .i64 ix,.int .i64 sz] 223)=L:=by
 have H:=lh (fun W=>ybU vt 0 11 W);have G:=lh (fun W=>ybU ix 0 15 W);have J:=lh (fun W=>ybU sz 1 65536 W);unfold pvB
 revert H G J
 cases rgB vt 0 11
 rotate_left
 cases h1:decide (s.size=32)
 rotate_left
 cases rgB ix 0 15
 rotate_left
 cases rgB sz 1 65536
 rotate_left
 all_goals
  intro H G J
  try (have K:(((s).size:Nat):Int)=32:=(by have:=of_decide_eq_true h1;omega))
  try (have K:=size32 s h1)
  try (have M:=ydR s h1)
  try clear h1
  go_enter func145,ntmps145
  go_wp2_with (first
   |(go_at_call 144;(with_reducible refine (H.out _).mono ?_);rintro e w1 ⟨rfl,rfl⟩)
   |(go_at_call 144;(with_reducible refine (G.out _).mono ?_);rintro e w1 ⟨rfl,rfl⟩)
   |(go_at_call 144;(with_reducible refine (J.out _).mono ?_);rintro e w1 ⟨rfl,rfl⟩))
  go_ret;exact ⟨ybo yaO,rfl⟩
theorem good_any (vt:Int) (s:ByteArray) (ix sz:Int) (w:World):Calls prog 93 #[.agg #[.int .i64 vt,.string s,.int .i64 ix,.int .i64 sz]] w fun e L=>e= .returned (.bool (pvB vt s ix sz))/\w.alloc (.cells #[.int .i64 vt,.string s,.int .i64 ix,.int .i64 sz] 158)=L:=by
 have H:=lh (fun W=>ybV vt 0 11 W);have G:=lh (fun W=>ybV ix 0 15 W);have J:=lh (fun W=>ybV sz 1 65536 W);unfold pvB
 revert H G J
 cases rgB vt 0 11
 rotate_left
 cases h1:decide (s.size=32)
 rotate_left
 cases rgB ix 0 15
 rotate_left
 cases rgB sz 1 65536
 rotate_left
 all_goals
  intro H G J
  try (have K:(((s).size:Nat):Int)=32:=(by have:=of_decide_eq_true h1;omega))
  try (have K:=size32 s h1)
  try (have M:=ydR s h1)
  try clear h1
  go_enter func93,ntmps93
  go_wp2_with (first
   |(go_at_call 92;(with_reducible refine (H.out _).mono ?_);rintro e w1 ⟨rfl,rfl⟩)
   |(go_at_call 92;(with_reducible refine (G.out _).mono ?_);rintro e w1 ⟨rfl,rfl⟩)
   |(go_at_call 92;(with_reducible refine (J.out _).mono ?_);rintro e w1 ⟨rfl,rfl⟩))
  go_ret;exact ⟨ybo yaO,rfl⟩
theorem valid_any (r:Rcp) (ps qs rs:List ByteArray) (B:Nat) (w:World) (hx:RcIn w B r ps qs rs) (hB:B<=w.heap.size):Calls prog 87 #[.agg #[.int .i64 r.hd,.int .i64 r.vt,.string r.s,.int .i64 r.ix,.int .i64 r.sz,.int .i64 r.dy,.int .i64 r.sr,.int .i64 r.ct,.int .i64 r.pl,.string r.rt,.slice r.pa.a r.pa.n r.pa.c,.int .i64 r.si,.slice r.pb.a r.pb.n r.pb.c,.slice r.pc.a r.pc.n r.pc.c]] w fun e G=>e= .returned (.bool (vaB r ps qs rs))/\Below w.heap.size w G:=by
 have HX:Hid (∀V,Below w.heap.size w V->RcIn V B r ps qs rs):=fun V H=>hx.up H hB;have M:=lh (fun W=>ybU r.hd 0 11 W);have Z:=lh (fun W=>pvalid_any r.vt r.s r.ix r.sz W);have H2:=lh (fun W=>ybU r.dy 0 999999 W);have T:=lh (fun W=>ybU r.sr 0 1099511627776 W);have U:=lh (fun W=>ybU r.ct 1 256 W);have O:=lh (fun W=>ybU r.pl 0 (r.ct - 1) W);have K:=lh (fun W=>ybU r.si 0 255 W);have N:Hid (∀V,Below w.heap.size w V->Calls prog 146 #[.slice r.pa.a r.pa.n r.pa.c,.int .i64 8] V fun e G=>e= .returned (.bool (arB ps 8))/\V=G):=fun V H=>ydm _ _ _ B 8 ps V (HX.out V H).1 de;have Y:Hid (∀V,Below w.heap.size w V->Calls prog 146 #[.slice r.pc.a r.pc.n r.pc.c,.int .i64 8] V fun e G=>e= .returned (.bool (arB rs 8))/\V=G):=fun V H=>ydm _ _ _ B 8 rs V (HX.out V H).2.2 de;have z:Hid (∀V,Below w.heap.size w V->Calls prog 146 #[.slice r.pb.a r.pb.n r.pb.c,.int .i64 300] V fun e G=>e= .returned (.bool (arB qs 300))/\V=G):=fun V H=>ydm _ _ _ B 300 qs V (HX.out V H).2.1 de;have J:Hid (Below w.heap.size w ((w.alloc (.cells #[.int .i64 r.hd,.int .i64 r.vt,.string r.s,.int .i64 r.ix,.int .i64 r.sz,.int .i64 r.dy,.int .i64 r.sr,.int .i64 r.ct,.int .i64 r.pl,.string r.rt,.slice r.pa.a r.pa.n r.pa.c,.int .i64 r.si,.slice r.pb.a r.pb.n r.pb.c,.slice r.pc.a r.pc.n r.pc.c] 35)).alloc (.cells #[.int .i64 r.vt,.string r.s,.int .i64 r.ix,.int .i64 r.sz] 223))):=bl.alloc sI _;have HB1:Hid (Below w.heap.size w (w.alloc (.cells #[.int .i64 r.hd,.int .i64 r.vt,.string r.s,.int .i64 r.ix,.int .i64 r.sz,.int .i64 r.dy,.int .i64 r.sr,.int .i64 r.ct,.int .i64 r.pl,.string r.rt,.slice r.pa.a r.pa.n r.pa.c,.int .i64 r.si,.slice r.pb.a r.pb.n r.pb.c,.slice r.pc.a r.pc.n r.pc.c] 35))):=bl;unfold vaB;clear hx hB
 revert M Z H2 T U O K N Y z
 cases rgB r.hd 0 11
 rotate_left
 cases pvB r.vt r.s r.ix r.sz
 rotate_left
 cases rgB r.dy 0 999999
 rotate_left
 cases rgB r.sr 0 1099511627776
 rotate_left
 cases h4:rgB r.ct 1 256
 rotate_left
 cases rgB r.pl 0 (r.ct - 1)
 rotate_left
 cases L:decide (r.rt.size=32)
 rotate_left
 cases arB ps 8
 rotate_left
 cases arB rs 8
 rotate_left
 cases arB qs 300
 rotate_left
 cases rgB r.si 0 255
 rotate_left
 all_goals
  intro M Z H2 T U O K N Y z
  try (have ac:=of_decide_eq_true h4;clear h4)
  try (have aa:(((r.rt).size:Nat):Int)=32:=(by have:=of_decide_eq_true L;omega))
  try (have aa:=size32 r.rt L)
  try (have ae:=ydR r.rt L)
  try clear L
  go_enter func87,ntmps87
  go_wp2_with (first
   |(go_at_call 144;(with_reducible refine (M.out _).mono ?_);rintro e w1 ⟨rfl,rfl⟩)
   |(go_at_call 144;(with_reducible refine (H2.out _).mono ?_);rintro e w1 ⟨rfl,rfl⟩)
   |(go_at_call 144;(with_reducible refine (T.out _).mono ?_);rintro e w1 ⟨rfl,rfl⟩)
   |(go_at_call 144;(with_reducible refine (U.out _).mono ?_);rintro e w1 ⟨rfl,rfl⟩)
   |(go_at_call 144;(with_reducible refine (O.out _).mono ?_);rintro e w1 ⟨rfl,rfl⟩)
   |(go_at_call 144;(with_reducible refine (K.out _).mono ?_);rintro e w1 ⟨rfl,rfl⟩)
   |(go_at_call 145;(with_reducible refine (Z.out _).mono ?_);rintro e w1 ⟨rfl,rfl⟩)
   |(go_at_call 146;(with_reducible refine (N.out _ J.out).mono ?_);rintro e w1 ⟨rfl,rfl⟩)
   |(go_at_call 146;(with_reducible refine (Y.out _ J.out).mono ?_);rintro e w1 ⟨rfl,rfl⟩)
   |(go_at_call 146;(with_reducible refine (z.out _ J.out).mono ?_);rintro e w1 ⟨rfl,rfl⟩))
  go_ret;exact ⟨ybo yaO,by first |exact J.out |exact HB1.out⟩
