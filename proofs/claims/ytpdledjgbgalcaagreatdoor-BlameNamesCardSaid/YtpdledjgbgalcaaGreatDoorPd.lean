import Derived.Test.YtpdledjgbgalcaaGreatDoorPc
import Derived.Test.YtpdledjgbgalcaaGreatDoorMc
namespace Go.Proofs.YtpdledjgbgalcaaGreatDoor
set_option maxRecDepth 100000
set_option maxHeartbeats 8000000
open Go.RowKit Go.Proofs.Tryz
set_option linter.unusedVariables false
set_option linter.unusedSimpArgs false
def leafS (xs:List Int):ByteArray:=baOf (shaB (0::xs))
def BkP (A:Option Addr) (n c:Nat) (xs:List Int) (w w0:World) (v0:Value) (x v:Value) (wr:World):Prop:=
 (x= .slice A n c/\v=v0/\w0=wr)∨(∃A' c',x= .slice A' 0 c'/\Hid (Own fT 9 wr w.heap.size v [leafS xs])/\Hid (Below w.heap.size w wr))
theorem Sl.at0 {w:World} {B n:Nat} {A:Option Addr} {xs:List Int} (h:Sl fB w B A n xs) (h0:0 < n):∃b G,A=some ⟨b,G,none⟩/\b < B:=by
 obtain ⟨b,G,e,H,_⟩:=h.2 (by rw [h.1];exact h0);exact ⟨b,G,e,H⟩
theorem rblocks_one (A:Option Addr) (n c B:Nat) (xs:List Int) (w:World) (hc:n<=c) (hx:Sl fB w B A n xs) (hB:B<=w.heap.size) (h0:0 < n) (hl:n<=512) (N:Byt xs):
 Calls prog 180 #[.slice A n c,.int .i64 512] w fun e J=>∃v,e= .returned (.tuple #[v,.int .i64 0])/\Own fT 9 J w.heap.size v [leafS xs]/\Below w.heap.size w J:=by
 obtain ⟨i0,hi,K,L,M⟩:=info_parts Tryz.infoS;have HI:=lh hi;have ak:=lh K;have al:=lh L;have ac:=lh M;obtain ⟨iB,U,_,aa,_⟩:=info_parts Tryz.infoB;obtain ⟨b,G,rfl,ap⟩:=hx.at0 h0;have H:Hid (Below w.heap.size w (w.alloc (.cells #[] 9))):=bl;have ah:Hid (Own fT 9 (w.alloc (.cells #[] 9)) w.heap.size (.slice (some ⟨w.heap.size,0,none⟩) 0 0) []):=World.ownsRow_lit w #[] 0 nl ybd rfl
 have HC:Hid (Calls prog 157 #[.slice (some ⟨b,G,none⟩) n c] (w.alloc (.cells #[] 9)) fun e J=>e= .returned (.string (leafS xs))/\Below (w.alloc (.cells #[] 9)).heap.size (w.alloc (.cells #[] 9)) J):=
  ydC (some ⟨b,G,none⟩) n c B xs (w.alloc (.cells #[] 9)) (hx.up H.out hB) (lT hB H.out.size) om N
 have ag:=fun W=>ybR (P:=prog) 40 5 iB underlying40 U (some ⟨b,G,none⟩) n c .i64 (n:Int) n rfl hc W;have z:(if (n:Int) < 512 then (n:Int) else 512)=(n:Int):=by split<;>omega
 have aq:¬(1048576:Int) < (n:Int):=by omega
 have ao:(0:Int) < (n:Int):=by omega
 clear hi K L M hx N;go_enter func180,ntmps180;go_upto_region 6 with fail
 go_loopw [0,6] (fun x v wr=>BkP (some ⟨b,G,none⟩) n c xs w (w.alloc (.cells #[] 9)) (.slice (some ⟨w.heap.size,0,none⟩) 0 0) x v wr) (fun x _ _=>ycu x)
 case atStart=>exact .inl ⟨rfl,rfl,rfl⟩
 case round=>
  rcases hrel with ⟨rfl,rfl,rfl⟩ |⟨A',c',rfl,HO,HB⟩
  ·go_upto_region 9 with (first
    |(go_at_call 157;(with_reducible refine HC.out.mono ?_);rintro e w1 ⟨rfl,Z⟩
      have HB1:=lh Z;have Y:Hid (Own fT 9 w1 w.heap.size (.slice (some ⟨w.heap.size,0,none⟩) 0 0) []):=ah.out.on HB1.out;have HS1:Hid (w.heap.size<=w1.heap.size):=lT H.out.size HB1.out.size
      clear Z)
    |(at_builtin;(with_reducible refine ybw (o:=⟨some 27,_,_,_,_,_⟩) rfl (.tmp 21) (.tmp 26) 24 rfl 9 i0 (.string ⟨#[]⟩) 16 underlying24 HI.out ak.out al.out ac.out rfl _ [] w.heap.size rfl Y.out (leafS xs) 1 rfl fT1 de de HS1.out ?_);intro v2 w2 af ae am
      have aj:Hid (Below w.heap.size w w2):=(bt H.out HB1.out).trans (ybm ae.out (fun j hj=>(ol Y.out j hj).1) HS1.out)))
   have ai:=fun W=>ybF (P:=prog) 40 5 iB underlying40 U aa (some ⟨b,G,none⟩) n c .i64 (n:Int) n rfl nl hc W;obtain ⟨A2,O⟩:∃A2,A2=if c=n then (some ⟨b,G,none⟩:Option Addr) else (some ⟨b,G,none⟩:Option Addr).map (·.add n):=⟨_,rfl⟩
   obtain ⟨c2,T⟩:∃c2,c2=c - n:=⟨_,rfl⟩
   rw [<-O,Nat.sub_self,<-T] at ai;clear O T ag z;go_wp2
   all_goals refine ⟨?rel,?measure⟩
   all_goals first
    |exact .inr ⟨_,_,rfl,af,aj⟩
    |exact h0
  ·go_wp2;go_ret2;exact ⟨_,rfl,HO.out,HB.out⟩
theorem rroot_one (A:Option Addr) (c B:Nat) (s:ByteArray) (w:World) (J:Sl fT w B A 1 [s]):
 Calls prog 65 #[.slice A 1 c] w fun e K=>e= .returned (.string s)/\w=K:=by
 obtain ⟨b,L,x,rfl,_,H,G⟩:=J.2.at_ (k:=0) sI;simp at H;subst H;rw [Nat.add_zero] at G;clear J;go_enter func65,ntmps65;go_wp2_with fail;go_ret;exact ⟨rfl,rfl⟩
theorem rof_one (A:Option Addr) (n c B:Nat) (xs:List Int) (w:World) (W:n<=c) (O:Sl fB w B A n xs) (U:B<=w.heap.size) (h0:0 < n) (hl:n<=512) (J:Byt xs):
 Calls prog 122 #[.slice A n c,.int .i64 512] w fun e T=>e= .returned (.tuple #[.string (leafS xs),.int .i64 0])/\Below w.heap.size w T:=by
 have HC:=lh (rblocks_one A n c B xs w W O U h0 hl J);clear O J;go_enter func122,ntmps122
 go_wp2_with (first
  |(go_at_call 180;(with_reducible refine HC.out.mono ?_);rintro e w1 ⟨v,rfl,L,N⟩
    have HB:=lh N;obtain ⟨K,c1,G,_,H,_⟩:=L.shape;have M:=lh (rroot_one K c1 w1.heap.size (leafS xs) w1 ⟨rfl,H⟩);replace G:v= .slice K 1 c1:=G;subst G
    clear L N H)
  |(go_at_call 65;(with_reducible refine M.out.mono ?_);rintro e Y ⟨rfl,rfl⟩))
 go_ret2;exact ⟨rfl,HB.out⟩
theorem mblocks_one (A:Option Addr) (n c B:Nat) (xs:List Int) (w:World) (hG:Glob w) (hc:n<=c) (hx:Sl fB w B A n xs) (hB:B<=w.heap.size) (h0:0 < n) (hl:n<=512) (N:Byt xs):
 Calls prog 166 #[.slice A n c,.int .i64 512] w fun e H=>∃v,e= .returned (.tuple #[v,.int .i64 0])/\Own fT 9 H w.heap.size v [leafS xs]/\Below w.heap.size w H:=by
 obtain ⟨i0,hi,K,L,M⟩:=info_parts Tryz.infoS;have HI:=lh hi;have ak:=lh K;have al:=lh L;have ac:=lh M;obtain ⟨iB,U,_,aa,_⟩:=info_parts Tryz.infoB;obtain ⟨b,G,rfl,am⟩:=hx.at0 h0;have J:Hid (Below w.heap.size w w):=Below.refl _ _;have ah:Hid (Own fT 9 w w.heap.size (.slice none 0 0) []):=Own.nil
 have HC:Hid (Calls prog 151 #[.slice (some ⟨b,G,none⟩) n c] w fun e H=>e= .returned (.string (leafS xs))/\Below w.heap.size w H):=
  ydB (some ⟨b,G,none⟩) n c B xs w hG hx hc hB om N (fun a ha=>by injection ha with ha;subst ha;exact Nat.lt_of_lt_of_le am hB)
 have ag:=fun W=>ybR (P:=prog) 40 5 iB underlying40 U (some ⟨b,G,none⟩) n c .i64 (n:Int) n rfl hc W;have z:(if (n:Int) < 512 then (n:Int) else 512)=(n:Int):=by split<;>omega
 have aq:¬(1048576:Int) < (n:Int):=by omega
 have ap:(0:Int) < (n:Int):=by omega
 clear hi K L M hx N hG;go_enter func166,ntmps166;go_upto_region 6 with fail
 go_loopw [0,6] (fun x v wr=>BkP (some ⟨b,G,none⟩) n c xs w w (.slice none 0 0) x v wr) (fun x _ _=>ycu x)
 case atStart=>exact .inl ⟨rfl,rfl,rfl⟩
 case round=>
  rcases hrel with ⟨rfl,rfl,rfl⟩ |⟨A',c',rfl,HO,HB⟩
  ·go_upto_region 9 with (first
    |(go_at_call 151;(with_reducible refine HC.out.mono ?_);rintro e w1 ⟨rfl,Z⟩
      have HB1:=lh Z;have Y:Hid (Own fT 9 w1 w.heap.size (.slice none 0 0) []):=ah.out.on HB1.out;have HS1:Hid (w.heap.size<=w1.heap.size):=lT J.out.size HB1.out.size
      clear Z)
    |(at_builtin;(with_reducible refine ybw (o:=⟨some 26,_,_,_,_,_⟩) rfl (.tmp 20) (.tmp 25) 24 rfl 9 i0 (.string ⟨#[]⟩) 16 underlying24 HI.out ak.out al.out ac.out rfl _ [] w.heap.size rfl Y.out (leafS xs) 1 rfl fT1 de de HS1.out ?_);intro v2 w2 af ae ao
      have aj:Hid (Below w.heap.size w w2):=(bt J.out HB1.out).trans (ybm ae.out (fun j hj=>(ol Y.out j hj).1) HS1.out)))
   have ai:=fun W=>ybF (P:=prog) 40 5 iB underlying40 U aa (some ⟨b,G,none⟩) n c .i64 (n:Int) n rfl nl hc W;obtain ⟨A2,O⟩:∃A2,A2=if c=n then (some ⟨b,G,none⟩:Option Addr) else (some ⟨b,G,none⟩:Option Addr).map (·.add n):=⟨_,rfl⟩
   obtain ⟨c2,T⟩:∃c2,c2=c - n:=⟨_,rfl⟩
   rw [<-O,Nat.sub_self,<-T] at ai;clear O T ag z;go_wp2
   all_goals refine ⟨?rel,?measure⟩
   all_goals first
    |exact .inr ⟨_,_,rfl,af,aj⟩
    |exact h0
  ·go_wp2;go_ret2;exact ⟨_,rfl,HO.out,HB.out⟩
theorem mroot_one (A:Option Addr) (c B:Nat) (s:ByteArray) (w:World) (J:Sl fT w B A 1 [s]):
 Calls prog 102 #[.slice A 1 c] w fun e K=>e= .returned (.string s)/\w=K:=by
 obtain ⟨b,L,x,rfl,_,H,G⟩:=J.2.at_ (k:=0) sI;simp at H;subst H;rw [Nat.add_zero] at G;clear J;go_enter func102,ntmps102;go_wp2_with fail;go_ret;exact ⟨rfl,rfl⟩
theorem mof_one (A:Option Addr) (n c B:Nat) (xs:List Int) (w:World) (O:Glob w) (Y:n<=c) (T:Sl fB w B A n xs) (W:B<=w.heap.size) (h0:0 < n) (hl:n<=512) (J:Byt xs):
 Calls prog 101 #[.slice A n c,.int .i64 512] w fun e U=>e= .returned (.tuple #[.string (leafS xs),.int .i64 0])/\Below w.heap.size w U:=by
 have HC:=lh (mblocks_one A n c B xs w O Y T W h0 hl J);clear T J O;go_enter func101,ntmps101
 go_wp2_with (first
  |(go_at_call 166;(with_reducible refine HC.out.mono ?_);rintro e w1 ⟨v,rfl,L,N⟩
    have HB:=lh N;obtain ⟨K,c1,G,_,H,_⟩:=L.shape;have M:=lh (mroot_one K c1 w1.heap.size (leafS xs) w1 ⟨rfl,H⟩);replace G:v= .slice K 1 c1:=G;subst G
    clear L N H)
  |(go_at_call 102;(with_reducible refine M.out.mono ?_);rintro e Z ⟨rfl,rfl⟩))
 go_ret2;exact ⟨rfl,HB.out⟩
theorem psum_one (A:Option Addr) (n c B:Nat) (xs:List Int) (w:World) (M:n<=c) (J:Sl fB w B A n xs) (L:B<=w.heap.size) (h0:0 < n) (hl:n<=512) (G:Byt xs):
 Calls prog 64 #[.slice A n c] w fun e K=>e= .returned (.string (leafS xs))/\Below w.heap.size w K:=by
 have HC:=lh (rof_one A n c B xs w M J L h0 hl G);clear J G;go_enter func64,ntmps64
 go_wp2_with (first
  |(go_at_call 122;(with_reducible refine HC.out.mono ?_);rintro e w1 ⟨rfl,H⟩
    have HB:=lh H
    clear H))
 go_ret;exact ⟨rfl,HB.out⟩
open Go.RowKit Go.Lib
theorem baOf_size (xs:List Int):(baOf xs).size=xs.length:=by
 unfold baOf strOfNums;rw [<-ByteArray.size_data];simp
theorem leafS_size (xs:List Int):(leafS xs).size=32:=by unfold leafS;rw [baOf_size,ycv]
theorem vf_any (s:ByteArray) (w:World) (hs:s.size=32):Calls prog 100 #[.string s] w fun e w'=>e= .returned (.bool false)/\w=w':=by
 go_enter func100,ntmps100;go_wp2;go_ret;exact ⟨rfl,rfl⟩
theorem indexF_one (A:Option Addr) (c B:Nat) (s:ByteArray) (w:World) (J:Sl fT w B A 1 [s]) (hs:s.size=32):
 Calls prog 165 #[.slice A 1 c,.func (.func 100) #[] #[]] w fun e K=>e= .returned (.int .i64 (-1))/\w=K:=by
 obtain ⟨b,L,x,rfl,_,H,G⟩:=J.2.at_ (k:=0) sI;simp at H;subst H;rw [Nat.add_zero] at G;have HC:=lh (fun W=>vf_any s W hs);clear J;go_enter func165,ntmps165;go_wp2
 go_loopw [8] (fun i wr=>(i= .int .i64 0∨i= .int .i64 1)/\w=wr) (fun i _=>1 - (intOf i).toNat)
 case atStart=>exact ⟨.inl rfl,rfl⟩
 case round=>
  obtain ⟨rfl |rfl,rfl⟩:=hrel
  ·go_wp2_with (first
    |(go_at_call 100;(with_reducible refine (HC.out _).mono ?_);rintro e w1 ⟨rfl,rfl⟩))
   refine ⟨?rel,?measure⟩;case rel=>first |exact ⟨.inr rfl,rfl⟩ |simp
   case measure=>simp [intOf]
  ·go_wp2;go_ret;exact ⟨rfl,rfl⟩
theorem containsF_one (A:Option Addr) (c B:Nat) (s:ByteArray) (w:World) (G:Sl fT w B A 1 [s]) (hs:s.size=32):
 Calls prog 99 #[.slice A 1 c,.func (.func 100) #[] #[]] w fun e H=>e= .returned (.bool false)/\w=H:=by
 have HC:=lh (indexF_one A c B s w G hs);clear G;go_enter func99,ntmps99
 go_wp2_with (first
  |(go_at_call 165;(with_reducible refine HC.out.mono ?_);rintro e w1 ⟨rfl,rfl⟩))
 go_ret;exact ⟨rfl,rfl⟩
theorem verify_one (n c K B:Nat) (A A':Option Addr) (xs:List Int) (w:World) (hG:Glob w) (hc:n<=c) (hx:Sl fB w B A n xs) (T:Sl fT w B A' 1 [leafS xs]) (N:B<=w.heap.size) (h0:0 < n) (hl:n<=512) (W:Byt xs):
 Calls prog 48 #[.agg #[.string (leafS xs),.int .i64 0,.slice A n c,.slice A' 1 K]] w fun e w'=>e= .returned (.bool true)/\Below w.heap.size w w':=by
 have hs:=leafS_size xs;obtain ⟨b,G,x,ag,ah,hg,M⟩:=T.2.at_ (k:=0) sI;simp at hg;subst hg;subst ag;have H:Below w.heap.size w (w.alloc (.cells #[.string (leafS xs),.int .i64 0,.slice A n c,.slice (some ⟨b,G,none⟩) 1 K] 42)):=bl;have HB1:=lh H;have HC:=lh (containsF_one (some ⟨b,G,none⟩) K B (leafS xs) _ (T.up H N) hs);have Y:=lh (mof_one A n c B xs _ (hG.on H) hc (hx.up H N) (lT N H.size) h0 hl W);have HY:=lh T;have ac:=lh N;have ae:Hid (b < w.heap.size):=Nat.lt_of_lt_of_le ah N;obtain ⟨s,U⟩:∃s,s=leafS xs:=⟨_,rfl⟩
 rw [<-U] at HC Y HY hs M HB1 ⊢;have aj:(1:Int)<=(n:Int):=by omega
 have ak:(n:Int)<=65536:=by omega
 clear H hG hx T W U;go_enter func48,ntmps48
 go_upto_region 8 with (first
  |(go_at_call 99;(with_reducible refine HC.out.mono ?_);rintro e w1 ⟨rfl,af⟩;subst af)
  |(go_at_call 101;(with_reducible refine Y.out.mono ?_);rintro e J ⟨rfl,z⟩
    have Z:=lh z
    clear z))
 have L:Hid (Below w.heap.size w J):=HB1.out.trans (Z.out.mono sI);have O:J.heap[w.heap.size]? =some (.cells #[.string s,.int .i64 0,.slice A n c,.slice (some ⟨b,G,none⟩) 1 K] 42 (0,0)):=(Z.out.block _ sI).trans (zy w _);have e0:=zz J w.heap.size 0 _ _ _ O;have e1:=zz J w.heap.size 1 _ _ _ O;have e3:=zz J w.heap.size 3 _ _ _ O;simp at e0 e1 e3;have ai:J.cell? ⟨b,G,none⟩=some (.string s):=(L.out.cell (p:=⟨b,G,none⟩) ae.out).trans M;have aa:Hid (∀n,Calls prog 102 #[.slice (some ⟨b,G,none⟩) 1 K] (J.drewN n) fun e w'=>e= .returned (.string s)/\J.drewN n=w'):=fun n=>mroot_one (some ⟨b,G,none⟩) K B s (J.drewN n) (HY.out.up (ybl L.out n) ac.out);clear O M;go_quiet ((go_at_call 102;with_reducible exact Calls.quiet_of_same (same_of (aa.out _))));go_wp2;go_ret;exact ⟨rfl,ybl L.out _⟩
def yb6 (s:ByteArray) (n:Int):Array Value:=#[.int .i64 0,.int .i64 0,.int .i64 2,.int .i64 0,.string s,.int .i64 0,.int .i64 n,.int .i64 0,.int .i64 0,.int .i64 0,.int .i64 0,.string ⟨#[]⟩,.slice none 0 0,.int .i64 0,.slice none 0 0,.slice none 0 0,.string ⟨#[]⟩,.int .i64 0,.string ⟨#[]⟩,.string ⟨#[]⟩]
theorem acquits_one (n c M B:Nat) (A H:Option Addr) (xs:List Int) (w:World) (U:Glob w) (Z:n<=c) (O:Sl fB w B A n xs) (T:Sl fT w B H 1 [leafS xs]) (N:B<=w.heap.size) (h0:0 < n) (hl:n<=512) (J:Byt xs):
 Calls prog 15 #[.agg (yb6 (leafS xs) n),.agg #[.string (leafS xs),.int .i64 0,.slice A n c,.slice H 1 M]] w fun e Y=>e= .returned (.bool true)/\Below w.heap.size w Y:=by
 have G:Below w.heap.size w ((w.alloc (.cells (yb6 (leafS xs) n) 39)).alloc (.cells #[.string (leafS xs),.int .i64 0,.slice A n c,.slice H 1 M] 42)):=bl.alloc sI _;have HB1:=lh G;have HC:=lh (verify_one n c M B A H xs _ (U.on G) Z (O.up G N) (T.up G N) (lT N G.size) h0 hl J);obtain ⟨s,K⟩:∃s,s=leafS xs:=⟨_,rfl⟩
 rw [<-K] at HC HB1 ⊢;clear G U O T J K;unfold yb6 at HC HB1 ⊢;go_enter func15,ntmps15
 go_wp2_with (first
  |(go_at_call 48;(with_reducible refine HC.out.mono ?_);rintro e w1 ⟨rfl,L⟩
    have W:=lh L
    clear L))
 go_ret;exact ⟨rfl,HB1.out.trans (W.out.mono ybh)⟩
theorem one_str (w:World) (s:ByteArray):Sl fT (w.alloc (.cells #[.string s] 9)) (w.heap.size+1) (some ⟨w.heap.size,0,none⟩) 1 [s]:=
 ⟨rfl,SL.of_block (t:=9) (fr:=(0,0)) (zy w _) (Nat.lt_succ_self _)⟩
theorem Tryz.sizePiece:(prog.info? 42).map (·.size)=some 4:=by kernel_rfl
theorem pc_size (s:ByteArray) (A A':Option Addr) (n c n' c':Nat):(prog.info? 42).map (·.size)=some (#[.string s,.int .i64 0,.slice A n c,.slice A' n' c']:Array Value).size:=Tryz.sizePiece
theorem pc_sz (s:ByteArray) (A H:Option Addr) (n c G J:Nat):(#[.string ⟨#[]⟩,.int .i64 0,.slice none 0 0,.slice none 0 0]:Array Value).size=(#[.string s,.int .i64 0,.slice A n c,.slice H G J]:Array Value).size:=rfl
theorem pc_one (s:ByteArray) (A H:Option Addr) (n c J K:Nat):(#[.string s,.int .i64 0,.slice A n c,.slice H J K]:Array Value).all (·.oneCell')=true:=by
 rw [Array.all_eq_true'];intro x G;simp at G;rcases G with rfl |rfl |rfl |rfl<;>rfl
theorem piece_any (A:Option Addr) (n c B:Nat) (xs:List Int) (w:World) (Z:n<=c) (Y:Sl fB w B A n xs) (U:B<=w.heap.size) (h0:0 < n) (hl:n<=512) (M:Byt xs):
 Calls prog 29 #[.slice A n c] w fun e O=>∃A',e= .returned (.agg #[.string (leafS xs),.int .i64 0,.slice A n c,.slice A' 1 1])/\Sl fT O O.heap.size A' 1 [leafS xs]/\Below w.heap.size w O:=by
 have G:Below w.heap.size w (w.alloc (.cells #[.string ⟨#[]⟩,.int .i64 0,.slice none 0 0,.slice none 0 0] 42)):=bl;have HC:=lh (psum_one A n c B xs _ Z (Y.up G U) (lT U G.size) h0 hl M);have H:=lh G;obtain ⟨s,N⟩:∃s,s=leafS xs:=⟨_,rfl⟩
 rw [<-N] at HC ⊢;clear G Y M N;go_enter func29,ntmps29
 go_wp2_with (first
  |(go_at_call 64;(with_reducible refine HC.out.mono ?_);rintro e w1 ⟨rfl,K⟩
    have HB1:=lh K;have J:Hid (w1.heap[w.heap.size]? =some (.cells #[.string ⟨#[]⟩,.int .i64 0,.slice none 0 0,.slice none 0 0] 42 (0,0))):=(K.block _ sI).trans (zy w _);have T:=lh (rroot_one (some ⟨w1.heap.size,0,none⟩) 1 _ s _ (one_str w1 s));have HG3:Hid (((w1.alloc (.cells #[.string s] 9)).alloc (.cells #[.string s] 9)).heap[w.heap.size]? =some (.cells #[.string ⟨#[]⟩,.int .i64 0,.slice none 0 0,.slice none 0 0] 42 (0,0))):=(zx _ _ _ (Nat.lt_of_lt_of_le (lb J.out) sI)).trans ((zx _ _ _ (lb J.out)).trans J.out)
    clear K)
  |(go_at_call 65;(with_reducible refine T.out.mono ?_);rintro e w2 ⟨rfl,W⟩;subst W)
  |((with_reducible refine ybk (o:=⟨none,_,_,_,_,_⟩) rfl 42 (.tmp 2) (.tmp 13) rfl w.heap.size 42 _ _ rfl rfl HG3.out (pc_size _ _ _ _ _ _ _) (pc_sz _ _ _ _ _ _ _) (pc_one _ _ _ _ _ _ _) ?_);intro z HG7 HB7))
 have L:Below w.heap.size w ((w1.alloc (.cells #[.string s] 9)).alloc (.cells #[.string s] 9)):=((H.out.trans (HB1.out.mono sI)).alloc (H.out.trans (HB1.out.mono sI)).size _).alloc (by have:=(H.out.trans (HB1.out.mono sI)).size;simp;omega) _;refine bodyPost_ret (results_cell_row rfl _ _ _ _ _ _ _ rfl HG7.out underlying42 rfl (pc_size _ _ _ _ _ _ _)) rfl ⟨_,rfl,?_,L.trans (HB7.out.below L.size (fun i hi=>Nat.le_of_eq hi.symm))⟩;refine ⟨rfl,SL.of_block (t:=9) (fr:=(0,0)) (g:=w1.heap.size+1) ((HB7.out.block _ sI (by have:=H.out.size;have:=HB1.out.size;simp at*;omega)).trans (heap_alloc2_new w1 _ _)) (Nat.lt_of_lt_of_le sI HB7.out.size)⟩
def inB (p:Int):Bool:=decide (0<=p/\p<=11)
theorem ybZ (x a b:Int) (w:World):Calls prog 42 #[.int .i64 x,.int .i64 a,.int .i64 b] w fun e G=>e= .returned (.bool (decide (a<=x/\x<=b)))/\w=G:=by
 by_cases h1:a<=x
 ·by_cases h2:x<=b
  ·go_enter func42,ntmps42;go_wp2;go_ret;exact ⟨ybo (by simp [h1,h2]),rfl⟩
  ·go_enter func42,ntmps42;go_wp2;go_ret;exact ⟨ybo (by simp [h1,h2]),rfl⟩
 ·go_enter func42,ntmps42;go_wp2;go_ret
  exact ⟨ybo (by have:¬a<=x:=by omega
                 simp [this]),rfl⟩
theorem apU_any (n:Nat) (w:World) (hn:n < 18446744073709551616):
 Calls prog 70 #[.slice none 0 0,.int .u64 n] w fun e G=>∃v,e= .returned v/\Own fB 5 G w.heap.size v (enc n)/\Below w.heap.size w G:=by
 obtain ⟨i0,hi,L,M,N⟩:=info_parts Tryz.infoB;have HI:=lh hi;have Z:=lh L;have z:=lh M;have T:=lh N
 have HC:Hid (∀v W,Own fB 5 W w.heap.size v []->Below w.heap.size w W->Calls prog 135 #[v,.int .u64 n] W fun e G=>∃J,e= .returned J/\Own fB 5 G w.heap.size J (enc n)/\Below w.heap.size w G):=fun v W U H=>
  (yc7 v [] n W w.heap.size U H.size hn sI).mono (fun e G ⟨J,h1,h2,h3,_⟩=>⟨J,h1,h2,H.trans (h3.below H.size (fun i hi=>(ol U i hi).1))⟩)
 clear hi L M N;go_enter func70,ntmps70
 go_wp2_with (first
  |(at_make
    refine wpList_make_own w (o:=⟨some 8,_,_,_,_,_⟩) rfl _ _ 40 rfl w.heap.size 5 i0 (.int .u8 0) 1 underlying40 HI.out Z.out z.out _ _ 10 10 rfl rfl rfl (by rw [T.out];decide) ybd nl ?_;intro w1 K O;have Y:Hid (Own fB 5 w1 w.heap.size (.slice (some ⟨w.heap.size,0,none⟩) 0 10) []):=K;have HB1:Hid (Below w.heap.size w w1):=ybm O (fun k hk=>by cases hk) nl;have HS1:Hid (w.heap.size<=w1.heap.size):=HB1.out.size
    clear K O)
  |(go_at_call 135;(with_reducible refine (HC.out _ w1 Y.out HB1.out).mono ?_);rintro e w3 ⟨v3,rfl,ho,H⟩))
 go_ret;exact ⟨_,rfl,ho,H⟩
theorem encV_len (xs:List Int) (h:ybt xs=true):(encV xs).length<=130:=by
 unfold encV;have h1:=ybx (nrm xs).length;have h2:=encL_len (nrm xs);have H:=nrm_len xs;have G:=ydv h;rw [List.length_append];omega
theorem encV_byt (xs:List Int):Byt (encV xs):=by
 unfold encV;refine Byt.app (ybO _) ?_;intro b hb;obtain ⟨x,_,h⟩:=List.mem_flatMap.1 hb;exact ybO _ b h
theorem enc_small {p:Nat} (h:p < 128):enc p=[(p:Int)]:=by simp [enc,encF,h]
theorem numF_small {p:Nat} (h:p < 128) (bs:List Int):numF ((p:Int)::bs) 10 0 0 0=((p:Int),0,1):=by
 have h1:¬(128:Int)<=(p:Int):=by omega
 have h2:(p:Int) % 128=p:=by omega
 simp [numF,h1,h2]
def MeetPost (p:Int) (xs:List Int) (w:World) (e:Ending) (w':World):Prop:=
 ((inB p&&ybt xs)=true/\Slc2 fB (p::encV xs) 0 w e w')∨((inB p&&ybt xs)=false/\e= .returned (.tuple #[.slice none 0 0,.int .i64 1])/\Below w.heap.size w w')
theorem emeet_any (p:Int) (A:Option Addr) (n:Nat) (xs:List Int) (c:Nat) (w:World) (B:Nat) (hx:Sl I w B A n xs) (hB:B<=w.heap.size) (hl:n<=1000000):
 Calls prog 31 #[.int .i64 p,.slice A n c] w (MeetPost p xs w):=by
 obtain ⟨i0,hi,O,T,Y⟩:=info_parts Tryz.infoB;have HI:=lh hi;have ak:=lh O;have al:=lh T;have af:=lh Y;have HC:=lh (encode_any A n xs c w B hx hB hl);have M:=lh (fun W=>ybZ p 0 11 W);clear hi O T Y hx
 by_cases hp:0<=p/\p<=11
 ·obtain ⟨q,rfl⟩:∃q:Nat,p=(q:Int):=⟨p.toNat,by omega⟩
  have hd:decide ((0:Int)<=(q:Int)/\(q:Int)<=11)=true:=decide_eq_true hp;have hq:q < 128:=by omega
  have L:Hid (inB (q:Int)=true):=hd;have HQ:Hid (enc q=[(q:Int)]):=enc_small hq;rw [hd] at M;have aw:(q:Int) % 18446744073709551616=(q:Int):=by omega
  have ap:=lh (fun W=>apU_any q W om);clear hp hd;go_enter func31,ntmps31
  go_upto_region 4 with (first
   |(go_at_call 42;(with_reducible refine (M.out _).mono ?_);rintro e w1 ⟨rfl,rfl⟩)
   |(go_at_call 69;(with_reducible refine HC.out.mono ?_)
     rintro e w1 (⟨K,A1,n1,c1,rfl,ao,G,H⟩ |⟨K,A1,n1,c1,rfl,ao,G,H⟩)))
  ·have HV:=lh K;have HB1:=lh H;have HS1:=lh G;have aq:=encV_len xs K;have au:Hid ((encV xs).length=n1):=G.1;clear K H G
   go_wp2_with (first
    |(go_at_call 70;(with_reducible refine (ap.out _).mono ?_);rintro e w2 ⟨v2,rfl,z,J⟩
      have U:=lh z;have ai:=lh J;have ae:Hid (Sl fB w2 w1.heap.size A1 n1 (encV xs)):=HS1.out.up J nl;have aj:Hid (((enc q).length+(encV xs).length)*1<=140737488355328):=by show _<=_;have:=ybx q;omega
      have aa:Hid ((enc q).length+(encV xs).length<=maxLen):=by show _<=_;have:=ybx q;unfold maxLen;omega
      have Z:Hid (w1.heap.size<=w2.heap.size):=J.size
      clear z J)
    |(at_builtin;(with_reducible refine ybE (o:=⟨some 22,_,_,_,_,_⟩) rfl (.tmp 20) (.tmp 21) 40 rfl 5 i0 (.int .u8 0) 1 underlying40 HI.out ak.out al.out af.out rfl _ (enc q) w1.heap.size rfl U.out _ _ _ w1.heap.size (encV xs) rfl ae.out fB1 aj.out aa.out Z.out ?_);intro v3 w3 ag HG3 ar
      have ac:Hid (Below w1.heap.size w1 w3):=ai.out.trans (ybm HG3.out (fun j hj=>(ol U.out j hj).1) Z.out)))
   go_ret2;obtain ⟨A3,c3,ah,am,N,_⟩:=ag.out.shape;refine .inl ⟨by rw [L.out,HV.out];rfl,A3,(enc q++encV xs).length,c3,by rw [<-ah];rfl,am,⟨by rw [HQ.out];rfl,?_⟩,bt HB1.out ac.out⟩;rw [HQ.out] at N;exact N
  ·have HV:=lh K;have HB1:=lh H;clear K H G;go_wp2;go_ret2;exact .inr ⟨by rw [HV.out,Bool.and_false],rfl,HB1.out⟩
 ·have hd:decide ((0:Int)<=p/\p<=11)=false:=decide_eq_false hp;have L:Hid (inB p=false):=hd;rw [hd] at M;clear hp hd HC;go_enter func31,ntmps31
  go_wp2_with (first
   |(go_at_call 42;(with_reducible refine (M.out _).mono ?_);rintro e w1 ⟨rfl,rfl⟩))
  go_ret2;exact .inr ⟨by rw [L.out];rfl,rfl,Below.refl _ _⟩
theorem ycK (n:Nat) (w:World) (hn:n < 18446744073709551616):
 Calls prog 79 #[.int .u64 n] w fun e w'=>∃v,e= .returned v/\Own fB 5 w' w.heap.size v (enc n)/\Below w.heap.size w w':=by
 obtain ⟨i0,hi,M,T,U⟩:=info_parts Tryz.infoB;have HI:=lh hi;have Z:=lh M;have z:=lh T;have O:=lh U;clear hi M T U;have ac:Hid (n < 128 ^ 10):=by show _ < _;omega
 have HN:Hid (n < 18446744073709551616):=hn;clear hn;have aj:Hid (Own fB 5 (w.alloc (.cells #[] 5)) w.heap.size (.slice (some ⟨w.heap.size,0,none⟩) 0 0) []):=World.ownsRow_lit w #[] 0 nl ybd rfl;have af:Hid (Below w.heap.size w (w.alloc (.cells #[] 5))):=bl;go_enter func79,ntmps79;go_wp2
 go_loopw [0,3] (fun i u wr=>∃(k m:Nat) (out:List Int),i= .int .u64 m/\Hid (m < 128 ^ k)/\Hid (m < 18446744073709551616)/\0 < k/\k<=10/\out.length+k<=10/\Hid (out++encF k m=enc n)/\Hid (Own fB 5 wr w.heap.size u out)/\Hid (Below w.heap.size w wr)) (fun i _ _=>(intOf i).toNat)
 case atStart=>exact ⟨10,n,[],rfl,ac,HN,by omega,by omega,by simp,by show _=_;rfl,aj,af⟩
 case round=>
  obtain ⟨k,m,out,rfl,HM,ai,al,hk,ao,HE,K,HB⟩:=hrel;have Y:Hid ((out.length+1)*1<=140737488355328):=by show _<=_;omega
  have N:Hid (out.length+1<=maxLen):=by show _<=_;unfold maxLen;omega
  have HS:Hid (w.heap.size<=wr.heap.size):=HB.out.size;have aa:Hid (∀W V,Own fB 5 wr w.heap.size V out->wr.grownBy W V.ownBlock->Below w.heap.size w W):=fun W V ho hg=>HB.out.trans (ybm hg (fun k hk=>(ol ho k hk).1) HS.out);obtain ⟨k,rfl⟩:∃k',k=k'+1:=⟨k - 1,by omega⟩
  have au:=ai.out
  by_cases ak:128<=m
  ·have L:Hid (m / 128 < 128 ^ k):=by show _ < _;have:=HM.out;rw [Nat.pow_succ] at this;omega
   have ag:Hid (m / 128 < 18446744073709551616):=by show _ < _;omega
   have ah:0 < k:=by
    have:=L.out
    rcases k with _ |k
    ·rw [Nat.pow_zero] at this;omega
    ·omega
   have G:Hid ((out++[(m:Int) % 128+128])++encF k (m / 128)=enc n):=by
    show _=_;rw [<-HE.out,encF,if_neg om,List.append_assoc]
    congr 1
   have ap:(m:Int).tmod 128=(m:Int) % 128:=Int.tmod_eq_emod_of_nonneg om;have ar:(m:Int) % 128 % 256=(m:Int) % 128:=by omega
   have aq:((m:Int) % 128+128) % 256=(m:Int) % 128+128:=by omega
   go_wp2_with (with_reducible refine ybw (o:=⟨some 13,_,_,_,_,_⟩) rfl (.tmp 7) (.tmp 12) 40 rfl 5 i0 (.int .u8 0) 1 underlying40 HI.out Z.out z.out O.out rfl _ out w.heap.size rfl K.out ((m:Int) % 128+128) 1 rfl fB1 Y.out N.out HS.out ?_;intro v1 w1 H J ae)
   go_roundw
   case rel=>exact ⟨k,m / 128,out++[(m:Int) % 128+128],by first |rfl |go_num,L,ag,ah,by omega,by rw [List.length_append];simp only [List.length_cons,List.length_nil];omega,G,H,aa.out _ _ K.out J.out⟩
   case measure=>simp [intOf];omega
  ·have am:(m:Int) % 256=m:=by omega
   have G:Hid (out++[(m:Int)]=enc n):=by
    show _=_;rw [<-HE.out,encF,if_pos om]
   go_wp2_with (with_reducible refine ybw (o:=⟨some 20,_,_,_,_,_⟩) rfl (.tmp 16) (.tmp 19) 40 rfl 5 i0 (.int .u8 0) 1 underlying40 HI.out Z.out z.out O.out rfl _ out w.heap.size rfl K.out (m:Int) 1 rfl fB1 Y.out N.out HS.out ?_;intro v1 w1 H J ae)
   go_ret;exact ⟨v1,rfl,by rw [<-G.out];exact H.out,aa.out _ _ K.out J.out⟩
structure Vl where
 kind:Int
 u:Int
 n:Int
 b:Bool
 s:ByteArray
 most:Int
instance:Inhabited Vl:=⟨⟨0,0,0,false,⟨#[]⟩,0⟩⟩
abbrev fVl (x:Vl):List Value:=[.int .i64 x.kind,.int .u64 x.u,.int .i64 x.n,.bool x.b,.string x.s,.int .i64 x.most]
abbrev aVl (x:Vl):Value:= .agg (fVl x).toArray
theorem fVl_len:∀x,(fVl x).length=6:=fun _=>rfl
theorem fVl_one:∀x,∀u∈fVl x,u.oneCell'=true:=fun x u hu=>by
 simp only [fVl,List.mem_cons,List.not_mem_nil,or_false] at hu;rcases hu with rfl |rfl |rfl |rfl |rfl |rfl<;>rfl
theorem fVl_all (x:Vl):(fVl x).toArray.all (·.oneCell')=true:=by
 rw [Array.all_eq_true'];intro u hu;exact fVl_one x u (by simpa using hu)
theorem Tryz.sizeVl:(prog.info? 188).map (·.size)=some 6:=by kernel_rfl
def vN (x:Int):Vl:=⟨1,x,0,false,⟨#[]⟩,0⟩
def vS (s:ByteArray):Vl:=⟨6,0,0,false,s,0⟩
def encR (x:Vl):List Int:=if x.kind=1 then enc x.u.toNat else if x.kind=4∨x.kind=5 then enc x.s.size++sB x.s else if x.kind=6 then sB x.s else enc x.n.toNat
def VlOk (x:Vl):Prop:=(x.kind=1/\0<=x.u/\x.u < 18446744073709551616)∨(x.kind=4/\x.s.size<=1048576)∨(x.kind=5/\x.s.size<=1048576)∨(x.kind=6/\x.s.size=32)∨(x.kind=7/\0<=x.n/\x.n<=100000)
theorem encR_N (x:Int):encR (vN x)=enc x.toNat:=rfl
theorem encR_S (s:ByteArray):encR (vS s)=sB s:=rfl
theorem vlOk_N {x:Int} (h:0<=x/\x < 18446744073709551616):VlOk (vN x):= .inl ⟨rfl,h.1,h.2⟩
theorem vlOk_S {s:ByteArray} (h:s.size=32):VlOk (vS s):= .inr (.inr (.inr (.inl ⟨rfl,h⟩)))
theorem flat_at {α:Type} {f:α->List Value} {s:Nat} (hs:∀x,(f x).length=s):∀(xs:List α) (k:Nat) (y:α) (j:Nat) (u:Value),xs[k]? =some y->(f y)[j]? =some u->(xs.flatMap f)[k*s+j]? =some u
 |x::l,0,y,j,u,hy,hu=>by
  simp at hy;subst hy;have hj:j < s:=by have:=(List.getElem?_eq_some_iff.1 hu).1;rw [hs] at this;exact this
  rw [List.flatMap_cons,List.getElem?_append_left (by rw [hs];omega),Nat.zero_mul,Nat.zero_add];exact hu
 |x::l,k+1,y,j,u,hy,hu=>by
  rw [List.flatMap_cons,List.getElem?_append_right (by rw [hs,Nat.succ_mul];omega),hs,show (k+1)*s+j - s=k*s+j by rw [Nat.succ_mul];omega];exact flat_at hs l k y j u (by simpa using hy) hu
 | [],_,_,_,_,hy,_=>by simp at hy
theorem SlN.of_rows {α:Type} {f:α->List Value} {s:Nat} (hs:∀x,(f x).length=s) {w:World} {g B:Nat} {t:TypeId} {fr:Nat × Nat} {xs:List α} {cs:Array Value} (h:w.heap[g]? =some (.cells cs t fr)) (G:cs.toList=xs.flatMap f) (K:g < B) {n:Nat} (hn:xs.length=n):SlN f s w B (some ⟨g,0,none⟩) n xs:=
 ⟨hn,fun _=>⟨g,0,rfl,K,fun k y J j u H=>by
   rw [cell_of_row _ _ _ _ _ _ h,Nat.zero_add,<-Array.getElem?_toList,G]
   exact flat_at hs xs k y j u J H⟩⟩
theorem six {w:World} {b G m:Nat} {x:Vl} (h:∀(j:Nat) (v:Value),(fVl x)[j]? =some v->w.cell? ⟨b,G+(m+j),none⟩=some v):w.cell? ⟨b,G+m,none⟩=some (.int .i64 x.kind)/\w.cell? ⟨b,G+m+1,none⟩=some (.int .u64 x.u)/\w.cell? ⟨b,G+m+2,none⟩=some (.int .i64 x.n)/\w.cell? ⟨b,G+m+3,none⟩=some (.bool x.b)/\w.cell? ⟨b,G+m+4,none⟩=some (.string x.s)/\w.cell? ⟨b,G+m+5,none⟩=some (.int .i64 x.most):=
 ⟨h 0 _ rfl,h 1 _ rfl,h 2 _ rfl,h 3 _ rfl,h 4 _ rfl,h 5 _ rfl⟩
theorem take_flat {xs:List Vl} {k:Nat} {x:Vl} (h:xs[k]? =some x):(xs.take (k+1)).flatMap encR=(xs.take k).flatMap encR++encR x:=by
 rw [List.take_add_one,h,List.flatMap_append];simp
theorem step_appR {P:Program} {w:World} {α:Type} {f:α->Value} {ops:Array Oper} {o:Oper} {a:Act} {K:Act->World->Prop} {Q:Exit->Act->World->Prop} {E:Prop} (J:o.guard=none) (sl x:Operand) (t:TypeId)
 (M:o.op= .call {callee:= .builtin .append,args:=#[sl,x],argTypes:=#[t,t]})
 (e:TypeId) (i:TypeInfo) (z:Value) (bytes:Nat) (ht:P.underlying t=some (.slice e)) (hi:P.info? e=some i) (hz:i.zero=some z)
 (hsize:i.size=1) (hby:i.bytes=bytes) (hzs:z.cells.size=1) (v:Value) (xs:List α) (base:Nat) (hsl:a.eval sl=v) (hown:Own f e w base v xs)
 (A:Option Addr) (m c B:Nat) (ys:List α) (hx:a.eval x= .slice A m c) (hr:Sl f w B A m ys) (h1:∀y,(f y).oneCell'=true) (hbytes:(xs.length+ys.length)*bytes<=140737488355328) (hmax:xs.length+ys.length<=maxLen) (hbase:base<=w.heap.size)
 (h:∀G H,Hid (Own f e H base G (xs++ys))->Hid (w.grownBy H v.ownBlock)->Hid (G.ownBlock=v.ownBlock∨G.ownBlock=some w.heap.size)->K (a.put o.dst G) H):
 if Region.wanted o (yielded ops a.tmps)=true then Oper.wp P o a w K Q else E:=by
 have L:Region.wanted o (yielded ops a.tmps)=true:=by simp [Region.wanted,J]
 rw [if_pos L];exact wp_app sl x t M e i z bytes ht hi hz hsize hby hzs v xs base hsl hown A m c B ys hx hr h1 hbytes hmax hbase fun G H h2 O N=>h G H h2 O N
theorem step_strO {P:Program} {w:World} {ops:Array Oper} {o:Oper} {a:Act} {K:Act->World->Prop} {Q:Exit->Act->World->Prop} {E:Prop} (J:o.guard=none) (sl x:Operand) (t u:TypeId)
 (M:o.op= .call {callee:= .builtin .append,args:=#[sl,x],argTypes:=#[t,u]})
 (e:TypeId) (i:TypeInfo) (ht:P.underlying t=some (.slice e)) (hu:P.underlying u=some .string) (hi:P.info? e=some i) (hz:i.zero=some (.int .u8 0)) (hsize:i.size=1) (hby:i.bytes=1)
 (v:Value) (xs:List Int) (base:Nat) (hs:a.eval sl=v) (hown:Own fB e w base v xs) (s:ByteArray) (hx:a.eval x= .string s) (hl:xs.length+s.size<=140737488355328) (hbase:base<=w.heap.size)
 (h:∀G H,Hid (Own fB e H base G (xs++sB s))->Hid (w.grownBy H v.ownBlock)->Hid (G.ownBlock=v.ownBlock∨G.ownBlock=some w.heap.size)->K (a.put o.dst G) H):
 if Region.wanted o (yielded ops a.tmps)=true then Oper.wp P o a w K Q else E:=by
 have L:Region.wanted o (yielded ops a.tmps)=true:=by simp [Region.wanted,J]
 rw [if_pos L];exact wp_app_str sl x t u M e i ht hu hi hz hsize hby v xs base hs hown s hx hl hbase fun G H h2 O N=>h G H h2 O N
theorem yej {w G:World} {row:Option Nat} (H:w.grownBy G row) {b o:Nat} {v:Value} (J:w.cell? ⟨b,o,none⟩=some v) (K:b < w.heap.size) (hr:∀k,row=some k->k≠b):G.cell? ⟨b,o,none⟩=some v:=
 (cB (w:=w) (by exact H.block b K (fun e=>hr b e.symm rfl))).trans J
theorem ne_own {u G:Value} {n m:Nat} (J:G.ownBlock=u.ownBlock∨G.ownBlock=some m) (K:∀k,u.ownBlock=some k->k≠n) (h:n < m):∀k,G.ownBlock=some k->k≠n:=fun k H=>by
 rcases J with h1 |h1
 ·exact K k (by rw [<-h1];exact H)
 ·rw [h1] at H;have:=Option.some.inj H;omega
theorem rencode_any (xs:List Vl) (A:Option Addr) (n c:Nat) (w:World) (hx:SlN fVl 6 w w.heap.size A n xs) (aB:∀x∈xs,VlOk x) (hl:(xs.flatMap encR).length<=1048576) (hn:n<=100000):
 Calls prog 128 #[.slice A n c] w fun e w'=>∃v,e= .returned (.tuple #[v,.int .i64 0])/\Own fB 5 w' w.heap.size v (xs.flatMap encR)/\Below w.heap.size w w':=by
 obtain ⟨i0,hi,aC,aJ,aG⟩:=info_parts Tryz.infoB;have HI:=lh hi;have af:=lh aC;have ag:=lh aJ;have aa:=lh aG;have HX:=lh hx;have aP:=lh aB;have HL:=lh hl;have aH:Hid (Own fB 5 (w.alloc (.cells #[] 5)) w.heap.size (.slice (some ⟨w.heap.size,0,none⟩) 0 0) []):=World.ownsRow_lit w #[] 0 nl ybd rfl;have aF:Hid (Below w.heap.size w (w.alloc (.cells #[] 5))):=bl;clear hi aC aJ aG hx aB hl;go_enter func128,ntmps128;go_wp2_with fail
 go_loopw [4,5] (fun u i wr=>∃k:Nat,k<=n/\i= .int .i64 k/\Hid (Own fB 5 wr w.heap.size u ((xs.take k).flatMap encR))/\Hid (Below w.heap.size w wr)) (fun _ i _=>n - (intOf i).toNat)
 case atStart=>exact ⟨0,Nat.zero_le _,rfl,by show Own _ _ _ _ _ _;simpa using aH.out,aF⟩
 case round=>
  obtain ⟨k,hk,rfl,HO,HB⟩:=hrel
  by_cases hlt:k < n
  ·have aK:=HX.out.up HB.out nl;obtain ⟨b,aW,x,rfl,aT,au,aq⟩:=aK.at_ hlt;obtain ⟨c0,c1,c2,c3,c4,c5⟩:=six aq;have aN:=lh (aP.out x (List.mem_of_getElem? au));have aj:=lh (take_flat au)
   have U:Hid (((xs.take k).flatMap encR).length<=1048576):=by
    show _<=_;have h1:(xs.flatMap encR).length=((xs.take k).flatMap encR).length+((xs.drop k).flatMap encR).length:=by rw [<-List.length_append,<-List.flatMap_append,List.take_append_drop]
    have:=HL.out;omega
   clear aK au aq;obtain ⟨xk,xu,xn,xb,G,xm⟩:=x;dsimp only at c0 c1 c2 c3 c4 c5;rcases aN.out with ⟨h,h1,h2⟩ |⟨h,h1⟩ |⟨h,h1⟩ |⟨h,h1⟩ |⟨h,h1,h2⟩
   ·
    dsimp only at h h1 h2;subst h;obtain ⟨z,rfl⟩:∃z:Nat,xu=z:=⟨xu.toNat,by omega⟩
    have W:Hid ((((xs.take k).flatMap encR).length+(enc z).length)*1<=140737488355328):=by show _<=_;have:=U.out;have:=ybx z;omega
    have ae:Hid (((xs.take k).flatMap encR).length+(enc z).length<=maxLen):=by show _<=_;have:=U.out;have:=ybx z;unfold maxLen;omega
    go_wp2_with fail
    refine (ycK z _ om).mono ?_;rintro e H ⟨v6,rfl,T,Y⟩;obtain ⟨A6,c6,rfl,_,M,_⟩:=T.shape;have ac:Hid (Sl fB H H.heap.size A6 (enc z).length (enc z)):=⟨rfl,M⟩;have HB6:Hid (Below wr.heap.size wr H):=Below.trans yaC (Y.mono sI);have L:=lh (HO.out.on HB6.out);have J:Hid (w.heap.size<=H.heap.size):=lT HB.out.size HB6.out.size;clear M T;go_wp2_with (at_builtin;refine ybE (o:=⟨some 26,_,_,_,_,_⟩) rfl (.tmp 22) (.tmp 25) 40 rfl 5 i0 (.int .u8 0) 1 underlying40 HI.out af.out ag.out aa.out rfl _ ((xs.take k).flatMap encR) w.heap.size (by rfl) L.out A6 (enc z).length c6 H.heap.size (enc z) (by rfl) ac.out fB1 W.out ae.out J.out ?_;intro v1 w1 O K ah);go_roundw;case rel=>exact ⟨k+1,by omega,by go_num,by show Own _ _ _ _ _ _;rw [aj.out];exact O.out,L.out.below (bt HB.out HB6.out) nl J.out K.out⟩
    case measure=>simp [intOf];omega
   ·
    dsimp only at h h1;subst h;have az:Hid (G.size < 18446744073709551616):=by show _ < _;omega
    have aE:IntKind.u64.wrap (G.size:Int)=G.size:=IntWalk.u64_in _ om;have W:Hid ((((xs.take k).flatMap encR).length+(enc G.size).length)*1<=140737488355328):=by show _<=_;have:=U.out;have:=ybx G.size;omega
    have ae:Hid (((xs.take k).flatMap encR).length+(enc G.size).length<=maxLen):=by show _<=_;have:=U.out;have:=ybx G.size;unfold maxLen;omega
    have ax:Hid (((xs.take k).flatMap encR++enc G.size).length+G.size<=140737488355328):=by show _<=_;rw [List.length_append];have:=U.out;have:=ybx G.size;omega
    have ak:Hid ((wr.alloc (.cells #[.int .i64 4,.int .u64 xu,.int .i64 xn,.bool xb,.string G,.int .i64 xm] 188)).cell? ⟨wr.heap.size,4,none⟩=some (.string G)):=by show _=_;rw [cell_of_row _ _ 4 _ _ _ (zy wr _)];rfl
    have ao:Hid (∀k',u4.ownBlock=some k'->k'≠wr.heap.size):=fun k' ar=>Nat.ne_of_lt (ol HO.out k' ar).2;have aL:=World.new_ne wr;go_wp2_with fail
    go_region_held3 (fun w'=>w'.cell? ⟨wr.heap.size,4,none⟩=some (.string G)) (first |exact ay.out |exact ai.out |exact al.out |exact ak.out |go_keep) (first
     |(go_at_call 79;(refine (ycK G.size _ az.out).mono ?_);(rintro e H ⟨v6,rfl,T,Y⟩);(obtain ⟨A6,c6,rfl,_,M,_⟩:=T.shape);(have ac:Hid (Sl fB H H.heap.size A6 (enc G.size).length (enc G.size)):=⟨rfl,M⟩);(have HB6:Hid (Below wr.heap.size wr H):=Below.trans yaC (Y.mono sI));(have L:=lh (HO.out.on HB6.out));(have J:Hid (w.heap.size<=H.heap.size):=lT HB.out.size HB6.out.size);(have Z:Hid (wr.heap.size < H.heap.size):=Nat.lt_of_lt_of_le sI Y.size);(have al:Hid (H.cell? ⟨wr.heap.size,4,none⟩=some (.string G)):=(Y.cell (p:=⟨wr.heap.size,4,none⟩) sI).trans ak.out);clear T M Y)
     |(refine step_appR (by rfl) (.tmp 48) (.tmp 53) 40 (by rfl) 5 i0 (.int .u8 0) 1 underlying40 HI.out af.out ag.out aa.out rfl u4 ((xs.take k).flatMap encR) w.heap.size (by rfl) L.out A6 (enc G.size).length c6 H.heap.size (enc G.size) (by rfl) ac.out fB1 W.out ae.out J.out ?_;(intro v1 w1 O K ah);(have ai:Hid (w1.cell? ⟨wr.heap.size,4,none⟩=some (.string G)):=yej K.out al.out Z.out ao.out);(have ap:Hid (w.heap.size<=w1.heap.size):=lT J.out K.out.size))
     |(refine step_strO (by rfl) (.tmp 54) (.tmp 56) 40 9 (by rfl) 5 i0 underlying40 underlying9 HI.out af.out ag.out aa.out v1 ((xs.take k).flatMap encR++enc G.size) w.heap.size (by rfl) O.out G (by rfl) ax.out ap.out ?_;(intro v2 w2 aw am aQ);(have ay:Hid (w2.cell? ⟨wr.heap.size,4,none⟩=some (.string G)):=yej am.out ai.out (Nat.lt_of_lt_of_le Z.out K.out.size) (ne_own ah.out ao.out Z.out))))
    go_wp2_with fail
    go_roundw
    case rel=>exact ⟨k+1,by omega,by go_num,by show Own _ _ _ _ _ _;rw [aj.out];have h9:=aw.out;rw [List.append_assoc] at h9;exact h9,O.out.below (L.out.below (bt HB.out HB6.out) nl J.out K.out) nl ap.out am.out⟩
    case measure=>simp [intOf];omega
   ·
    dsimp only at h h1;subst h;have az:Hid (G.size < 18446744073709551616):=by show _ < _;omega
    have aE:IntKind.u64.wrap (G.size:Int)=G.size:=IntWalk.u64_in _ om;have W:Hid ((((xs.take k).flatMap encR).length+(enc G.size).length)*1<=140737488355328):=by show _<=_;have:=U.out;have:=ybx G.size;omega
    have ae:Hid (((xs.take k).flatMap encR).length+(enc G.size).length<=maxLen):=by show _<=_;have:=U.out;have:=ybx G.size;unfold maxLen;omega
    have ax:Hid (((xs.take k).flatMap encR++enc G.size).length+G.size<=140737488355328):=by show _<=_;rw [List.length_append];have:=U.out;have:=ybx G.size;omega
    have ak:Hid ((wr.alloc (.cells #[.int .i64 5,.int .u64 xu,.int .i64 xn,.bool xb,.string G,.int .i64 xm] 188)).cell? ⟨wr.heap.size,4,none⟩=some (.string G)):=by show _=_;rw [cell_of_row _ _ 4 _ _ _ (zy wr _)];rfl
    have ao:Hid (∀k',u4.ownBlock=some k'->k'≠wr.heap.size):=fun k' ar=>Nat.ne_of_lt (ol HO.out k' ar).2;have aL:=World.new_ne wr;go_wp2_with fail
    go_region_held3 (fun w'=>w'.cell? ⟨wr.heap.size,4,none⟩=some (.string G)) (first |exact ay.out |exact ai.out |exact al.out |exact ak.out |go_keep) (first
     |(go_at_call 79;(refine (ycK G.size _ az.out).mono ?_);(rintro e H ⟨v6,rfl,T,Y⟩);(obtain ⟨A6,c6,rfl,_,M,_⟩:=T.shape);(have ac:Hid (Sl fB H H.heap.size A6 (enc G.size).length (enc G.size)):=⟨rfl,M⟩);(have HB6:Hid (Below wr.heap.size wr H):=Below.trans yaC (Y.mono sI));(have L:=lh (HO.out.on HB6.out));(have J:Hid (w.heap.size<=H.heap.size):=lT HB.out.size HB6.out.size);(have Z:Hid (wr.heap.size < H.heap.size):=Nat.lt_of_lt_of_le sI Y.size);(have al:Hid (H.cell? ⟨wr.heap.size,4,none⟩=some (.string G)):=(Y.cell (p:=⟨wr.heap.size,4,none⟩) sI).trans ak.out);clear T M Y)
     |(refine step_appR (by rfl) (.tmp 48) (.tmp 53) 40 (by rfl) 5 i0 (.int .u8 0) 1 underlying40 HI.out af.out ag.out aa.out rfl u4 ((xs.take k).flatMap encR) w.heap.size (by rfl) L.out A6 (enc G.size).length c6 H.heap.size (enc G.size) (by rfl) ac.out fB1 W.out ae.out J.out ?_;(intro v1 w1 O K ah);(have ai:Hid (w1.cell? ⟨wr.heap.size,4,none⟩=some (.string G)):=yej K.out al.out Z.out ao.out);(have ap:Hid (w.heap.size<=w1.heap.size):=lT J.out K.out.size))
     |(refine step_strO (by rfl) (.tmp 54) (.tmp 56) 40 9 (by rfl) 5 i0 underlying40 underlying9 HI.out af.out ag.out aa.out v1 ((xs.take k).flatMap encR++enc G.size) w.heap.size (by rfl) O.out G (by rfl) ax.out ap.out ?_;(intro v2 w2 aw am aQ);(have ay:Hid (w2.cell? ⟨wr.heap.size,4,none⟩=some (.string G)):=yej am.out ai.out (Nat.lt_of_lt_of_le Z.out K.out.size) (ne_own ah.out ao.out Z.out))))
    go_wp2_with fail
    go_roundw
    case rel=>exact ⟨k+1,by omega,by go_num,by show Own _ _ _ _ _ _;rw [aj.out];have h9:=aw.out;rw [List.append_assoc] at h9;exact h9,O.out.below (L.out.below (bt HB.out HB6.out) nl J.out K.out) nl ap.out am.out⟩
    case measure=>simp [intOf];omega
   ·
    dsimp only at h h1;subst h;have aM:(G.size:Int)=32:=by omega
    have aV:((G.size:Int)==32)=true:=by simp [aM]
    have W:Hid (((xs.take k).flatMap encR).length+G.size<=140737488355328):=by show _<=_;have:=U.out;omega
    have aI:Hid (∀o,Below wr.heap.size wr (wr.alloc o)):=fun o=>bR.alloc nl o;have J:Hid (∀o,w.heap.size<=(wr.alloc o).heap.size):=fun o=>lT HB.out.size (aI.out o).size;have L:Hid (∀o,Own fB 5 (wr.alloc o) w.heap.size _ _):=fun o=>HO.out.alloc o;go_wp2_with (at_builtin;refine ycf (o:=⟨some 67,_,_,_,_,_⟩) rfl (.tmp 64) (.tmp 66) 40 9 rfl 5 i0 underlying40 underlying9 HI.out af.out ag.out aa.out _ ((xs.take k).flatMap encR) w.heap.size (by rfl) (L.out _) G (by rfl) W.out (J.out _) ?_;intro v1 w1 O K ah);go_roundw;case rel=>exact ⟨k+1,by omega,by go_num,by show Own _ _ _ _ _ _;rw [aj.out];exact O.out,(L.out _).below (HB.out.trans ((aI.out _).mono HB.out.size)) nl (J.out _) K.out⟩
    case measure=>simp [intOf];omega
   ·
    dsimp only at h h1 h2;subst h;obtain ⟨z,rfl⟩:∃z:Nat,xn=z:=⟨xn.toNat,by omega⟩
    have aR:¬(z:Int) < 0:=by omega
    have aX:decide ((z:Int) < 0)=false:=decide_eq_false aR;have aE:(z:Int) % 18446744073709551616=z:=by omega
    have W:Hid ((((xs.take k).flatMap encR).length+(enc z).length)*1<=140737488355328):=by show _<=_;have:=U.out;have:=ybx z;omega
    have ae:Hid (((xs.take k).flatMap encR).length+(enc z).length<=maxLen):=by show _<=_;have:=U.out;have:=ybx z;unfold maxLen;omega
    go_wp2_with fail
    refine (ycK z _ om).mono ?_;rintro e H ⟨v6,rfl,T,Y⟩;obtain ⟨A6,c6,rfl,_,M,_⟩:=T.shape;have ac:Hid (Sl fB H H.heap.size A6 (enc z).length (enc z)):=⟨rfl,M⟩;have HB6:Hid (Below wr.heap.size wr H):=Below.trans yaC (Y.mono sI);have L:=lh (HO.out.on HB6.out);have J:Hid (w.heap.size<=H.heap.size):=lT HB.out.size HB6.out.size;clear M T;go_wp2_with (at_builtin;refine ybE (o:=⟨some 78,_,_,_,_,_⟩) rfl (.tmp 73) (.tmp 77) 40 rfl 5 i0 (.int .u8 0) 1 underlying40 HI.out af.out ag.out aa.out rfl _ ((xs.take k).flatMap encR) w.heap.size (by rfl) L.out A6 (enc z).length c6 H.heap.size (enc z) (by rfl) ac.out fB1 W.out ae.out J.out ?_;intro v1 w1 O K ah);go_roundw;case rel=>exact ⟨k+1,by omega,by go_num,by show Own _ _ _ _ _ _;rw [aj.out];exact O.out,L.out.below (bt HB.out HB6.out) nl J.out K.out⟩
    case measure=>simp [intOf];omega
  ·obtain rfl:k=n:=by omega
   have aU:=HX.out.1;have aA:=lh (show Own fB 5 wr w.heap.size _ (xs.flatMap encR) by have h9:=HO.out;rwa [List.take_of_length_le om] at h9);obtain ⟨A4,c4,aD,_,_,_⟩:=aA.out.shape;obtain ⟨N,hN⟩:=gX ((xs.flatMap encR).length);have aO:¬1048576 < (N:Int):=by have:=HL.out;omega
   have aS:decide (1048576 < (N:Int))=false:=decide_eq_false aO;rw [hN] at aD;subst aD;clear HO aH aF hN;go_wp2_with fail;go_ret2;exact ⟨_,rfl,aA.out,HB.out⟩
abbrev tVl:TypeId:=188
def VA (w W:World) (u:Value) (acc:List Vl):Prop:=OwnN fVl 6 tVl W w.heap.size u acc/\Below w.heap.size w W
section
variable {w W W':World} {u u':Value} {acc acc':List Vl}
theorem VA.on (h:VA w W u acc) (hb:Below W.heap.size W W'):VA w W' u acc:=⟨h.1.on hb,bt h.2 hb⟩
theorem VA.alloc (h:VA w W u acc) (o:Obj):VA w (W.alloc o) u acc:=h.on (bR.alloc nl o)
theorem VA.drew (h:VA w W u acc):VA w W.drew u acc:=h.on bR.drew
theorem VA.drewN (h:VA w W u acc) (n:Nat):VA w (W.drewN n) u acc:=h.on ⟨rfl,rfl,rfl,Nat.le_refl _,fun _ _=>rfl⟩
theorem VA.app (h:VA w W u acc) (ho:OwnN fVl 6 tVl W' w.heap.size u' acc') (hg:W.grownBy W' u.ownBlock):VA w W' u' acc':=
 ⟨ho,h.2.grown hg h.2.size fun k hk=>(ol h.1 k hk).1⟩
theorem VA.start (J:Below w.heap.size w W) {cs:Array Value} {ys:List Vl} {m:Nat} (K:cs.toList=ys.flatMap fVl) (G:ys.length=m) (L:m<=100):
 VA w (W.alloc (.cells cs tVl)) (.slice (some ⟨W.heap.size,0,none⟩) m m) ys:=by
 have h1:cs.size=m*6:=by rw [<-Array.length_toList,K,ycG fVl_len,G]
 have h2:=World.ownsRow_lit (base:=w.heap.size) (e:=tVl) W cs m J.size ybd h1;have H:Below W.heap.size W (W.alloc (.cells cs tVl)):=bl;refine ⟨?_,bt J H⟩;unfold OwnN;rw [G,<-K];exact h2
theorem VA.row (h:VA w W u acc):∃A c,u= .slice A acc.length c/\acc.length<=c/\SlN fVl 6 W W.heap.size A acc.length acc:=by
 obtain ⟨A,c,h1,hc,h2,_⟩:=h.1.shape fVl_len;exact ⟨A,c,h1,hc,h2⟩
end
section
variable {w:World} {u:Value} {acc:List Vl}
end
theorem left_anyZ (g:Nat) (A:Option Addr) (n c p:Nat) (H er:Int) (w:World) (hr:Rd w g A n c p H er) (hp:p<=n) (hn:n<=1000000):
 Calls prog 83 #[.pointer (some ⟨g,0,none⟩)] w fun e G=>e= .returned (.int .i64 ((n:Int) - p))/\∃m,G=w.drewN m:=by
 have h0:=zz w g 0 _ _ _ hr;have h1:=zz w g 1 _ _ _ hr;simp at h0 h1;have J:IntKind.i64.wrap ((n:Int) - p)=(n:Int) - p:=by rw [IntWalk.i64_in _ om]
 clear hr;go_enter func83,ntmps83;go_wp2;go_quiet (fail);go_wp2;go_ret;exact ⟨rfl,_,rfl⟩
theorem ybI {H:Func} {a b c:Tmp} (h:H.results=#[.tmp a,.tmp b,.tmp c]) (G:Array Value) (P:Program) (w:World):
 (results H G).run P w= .ok (.tuple #[G.getD a undef,G.getD b undef,G.getD c undef]) w:=by
 simp [results,h]
theorem encV_pos (xs:List Int):0 < (encV xs).length:=by
 have h0:∀n,0 < (enc n).length:=fun n=>by
  unfold enc encF
  split<;>simp
 unfold encV;rw [List.length_append];have:=h0 (nrm xs).length;omega
abbrev entryV (k:Int) (A:Option Addr) (n c:Nat):Value:= .agg #[.int .i64 0,.int .i64 0,.int .i64 k,.int .i64 0,.slice A n c,.string ⟨#[]⟩]
theorem dmeet_enc (q:Nat) (xs:List Int) (A:Option Addr) (n c B:Nat) (w:World) (J:Sl fB w B A n ((q:Int)::encV xs)) (hc:n<=c) (O:B<=w.heap.size) (hv:ybt xs=true) (hq:q<=11):
 Calls prog 35 #[entryV 9 A n c] w fun e H=>∃A' n' c',e= .returned (.tuple #[.int .i64 (q:Int),.slice A' n' c',.int .i64 0])/\n'<=c'/\Sl I H H.heap.size A' n' (nrm xs)/\Below w.heap.size w H:=by
 have U:Byt ((q:Int)::encV xs):=Byt.app (xs:=[(q:Int)]) (fun x J=>by rw [List.mem_singleton.1 J];omega) (encV_byt xs);have ak:n=(encV xs).length+1:=by rw [<-J.1];rfl
 have ar:=encV_len xs hv;have aA:=encV_pos xs;obtain ⟨b,G,rfl,aB⟩:=J.at0 om;have L:Below w.heap.size w (w.alloc (.cells #[.int .i64 0,.int .i64 0,.int .i64 9,.int .i64 0,.slice (some ⟨b,G,none⟩) n c,.string ⟨#[]⟩] 55)):=bl;have HB1:=lh L;have HX:=lh J;have HN:=lh (ydt (some ⟨b,G,none⟩) n c ((q:Int)::encV xs) _ ((J.up L O).more' (lT O L.size)) om)
 have HU:Hid (∀g K c1 W,Rd W g K n c1 0 0 0->Sl fB W g K n ((q:Int)::encV xs)->Calls prog 82 #[.pointer (some ⟨g,0,none⟩)] W fun e H=>e= .returned (.int .u64 (q:Int))/\Rd H g K n c1 1 0 0/\But (fun k=>k=g) W H):=fun g K c1 W hr hs=>by
  refine (yeb g K n c1 0 0 _ W hr hs U om om).mono ?_;rintro e H ⟨h1,h2,h3⟩;rw [numF_small om] at h1 h2;exact ⟨h1,h2,h3⟩
 have HD:Hid (∀W,Sl fB W W.heap.size (some ⟨b,G+1,none⟩) (n - 1) (encV xs)->Calls prog 84 #[.slice (some ⟨b,G+1,none⟩) (n - 1) (c - 1)] W (Slc2 I (nrm xs) 0 W)):=fun W hs=>by
  have h:=decode_any (some ⟨b,G+1,none⟩) (n - 1) (c - 1) (encV xs) W hs om (encV_byt xs);unfold DecPost at h;rw [decV_enc xs hv] at h;exact h.mono fun _ _ ⟨A,n,c,h1,h2,h3,h4⟩=>⟨A,n,c,h1,h2,h3.1,h4⟩
 obtain ⟨iB,ax,_,aj,_⟩:=info_parts Tryz.infoB
 have aE:∀W,(Instr.slice 40 (.slice (some ⟨b,G,none⟩) n c) (some (.int .i64 1)) none none).run prog W= .ok (.slice (some ⟨b,G+1,none⟩) (n - 1) (c - 1)) W:=fun W=>by
  rw [ybF (P:=prog) 40 5 iB underlying40 ax aj (some ⟨b,G,none⟩) n c .i64 1 1 rfl om hc W,if_neg om];rfl
 have ay:Hid (∀W,Below w.heap.size w W->Sl fB W W.heap.size (some ⟨b,G+1,none⟩) (n - 1) (encV xs)):=fun W hb=>by
  refine ⟨by omega,fun _=>⟨b,G+1,rfl,Nat.lt_of_lt_of_le (Nat.lt_of_lt_of_le aB O) hb.size,fun k x hk=>?_⟩⟩;obtain ⟨b',aD,e,_,al⟩:=(J.up hb O).2 (by rw [J.1];omega);cases e
  have:=al (k+1) x hk;rw [show G+1+k=G+(k+1) by omega];exact this
 have aG:¬(12:Int)<=(q:Int):=by omega
 have aI:IntKind.i64.wrap ((n:Int) - ((n:Int) - 1))=1:=by rw [IntWalk.i64_in _ om];omega
 have aF:IntKind.i64.wrap (q:Int)=(q:Int):=IntWalk.i64_in _ om;have aH:n<=131:=by omega
 have aC:1<=n:=by omega
 clear J L U ak ar aA hv O;go_enter func35,ntmps35
 go_upto_region 5 with (first
  |(go_at_call 81;(with_reducible refine HN.out.mono ?_);rintro e w2 ⟨g,K,c1,rfl,Y,N,ac,M,_⟩
    have aw:=lh Y;have aq:=lh N;have ag:=lh ac;have ae:Hid (Below w.heap.size w w2):=HB1.out.trans (M.mono sI);have z:Hid (w2.heap[w.heap.size]? =some (.cells #[.int .i64 0,.int .i64 0,.int .i64 9,.int .i64 0,.slice (some ⟨b,G,none⟩) n c,.string ⟨#[]⟩] 55 (0,0))):=(M.block _ sI).trans (zy w _)
    clear Y N ac M)
  |(go_at_call 82;(with_reducible refine (HU.out g K c1 w2 aw.out aq.out).mono ?_);rintro e w3 ⟨rfl,af,T⟩
    have ap:=lh af;have ao:Hid (Below w.heap.size w w3):=ae.out.trans (T.below ae.out.size (fun i hi=>by have:=ag.out;simp at this;omega));have ai:Hid (w3.heap[w.heap.size]? =some (.cells #[.int .i64 0,.int .i64 0,.int .i64 9,.int .i64 0,.slice (some ⟨b,G,none⟩) n c,.string ⟨#[]⟩] 55 (0,0))):=(T.block _ (lb z.out) (by have:=ag.out;simp at this;omega)).trans z.out
    clear af T))
 have e4:=zz w3 w.heap.size 4 _ _ _ ai.out;simp at e4;have az:Hid (∀a,Calls prog 83 #[.pointer (some ⟨g,0,none⟩)] (w3.drewN a) fun e H=>e= .returned (.int .i64 ((n:Int) - 1))/\∃m,H=(w3.drewN a).drewN m):=fun a=>left_anyZ g K n c1 1 0 0 (w3.drewN a) ap.out aC om;go_quiet ((go_at_call 83;with_reducible exact Calls.quiet_of (az.out _)));generalize hW:World.drewN w3 _=W4;replace e4:W4.cell? ⟨w.heap.size,4,none⟩=some (.slice (some ⟨b,G,none⟩) n c):=by rw [<-hW];exact e4
 have ah:Hid (Below w.heap.size w W4):=by show Below ..;rw [<-hW];exact ybl ao.out _
 clear hW
 go_wp2_with (first
  |(go_at_call 84;(with_reducible refine (HD.out _ (ay.out _ ah.out)).mono ?_);rintro e w5 ⟨A5,n5,c5,rfl,am,Z,aa⟩
    have HS5:=lh Z;have au:=lh aa
    clear Z aa))
 refine bodyPost_ret (ybI rfl _ _ _) rfl ⟨A5,n5,c5,rfl,am,HS5.out,bt ah.out au.out⟩
def hor:List Int->Int
 | []=>0
 |b::t=>(hor t*128+b % 128) % 18446744073709551616
theorem hor_rng (l:List Int):0<=hor l/\hor l < 18446744073709551616:=by
 cases l with
 |nil=>exact ⟨by decide,by decide⟩
 |cons b t=>unfold hor;omega
theorem hor_enc:∀(k n:Nat),n < 128 ^ k->n < 18446744073709551616->hor (encF k n)=n
 |0,n,h,_=>by simp at h;subst h;rfl
 |k+1,n,h,h2=>by
  have hd:n / 128 < 128 ^ k:=by rw [Nat.pow_succ] at h;omega
  have G:=hor_enc k (n / 128) hd om;rw [encF]
  split
  ·simp only [hor];omega
  ·simp only [hor,G];omega
theorem enc_shape:∀(k n:Nat),n < 128 ^ k->0 < k->∃L,(encF k n).length=L+1/\L < k/\(∃x,(encF k n)[L]? =some x/\x < 128)/\∀i,i < L->∃x,(encF k n)[i]? =some x/\128<=x
 |0,n,_,h=>absurd h om
 |k+1,n,h,_=>by
  have hd:n / 128 < 128 ^ k:=by rw [Nat.pow_succ] at h;omega
  rw [encF]
  split
  ·exact ⟨0,rfl,by omega,⟨(n:Int),rfl,by omega⟩,fun i hi=>absurd hi om⟩
  ·have G:0 < k:=by
    rcases k with _ |k
    ·rw [Nat.pow_zero] at hd;omega
    ·omega
   obtain ⟨L,h1,h2,⟨x,K,J⟩,H⟩:=enc_shape k (n / 128) hd G;refine ⟨L+1,by rw [List.length_cons,h1],by omega,⟨x,K,J⟩,fun i hi=>?_⟩
   cases i with
   |zero=>exact ⟨_,rfl,by omega⟩
   |succ i=>exact H i om
theorem enc_shape10 {n:Nat} (h:n < 18446744073709551616):∃L,(enc n).length=L+1/\L < 10/\(∃x,(enc n)[L]? =some x/\x < 128)/\∀i,i < L->∃x,(enc n)[i]? =some x/\128<=x:=enc_shape 10 n om om
section
variable {bs:List Int} {p j:Nat}
theorem at_len (hj:∀i,i < j->∀x,bs[p+i]? =some x->128<=x) {x:Int} (K:bs[p+j]? =some x) (hl:x < 128) {n:Nat} (hn:n < 18446744073709551616) (h:AtL bs p (enc n)):(enc n).length=j+1:=by
 obtain ⟨L,h1,h2,⟨y,J,M⟩,H⟩:=enc_shape10 hn;rcases Nat.lt_trichotomy L j with c |c |c
 ·have:=hj L c y (by rw [h L om,J]);omega
 ·omega
 ·obtain ⟨z,G,N⟩:=H j c;have:=h j om;rw [K,G] at this;cases this
  omega
theorem at_no (hj:∀i,i < j->∀x,bs[p+i]? =some x->128<=x) (H:10<=j∨bs.length<=p+j) {n:Nat} (hn:n < 18446744073709551616) (h:AtL bs p (enc n)):False:=by
 obtain ⟨L,h1,h2,⟨y,G,K⟩,J⟩:=enc_shape10 hn;rcases Nat.lt_or_ge L j with c |c
 ·have:=hj L c y (by rw [h L om,G]);omega
 ·have:=h.fits om;omega
def segL (bs:List Int) (p j:Nat):List Int:=(bs.drop p).take j
theorem seg_len (h:p+j<=bs.length):(segL bs p j).length=j:=by unfold segL;rw [List.length_take,List.length_drop];omega
theorem seg_at {i:Nat} (hi:i < j):(segL bs p j)[i]? =bs[p+i]? :=by unfold segL;rw [List.getElem?_take,if_pos hi,List.getElem?_drop]
theorem seg_drop {m:Nat} {x:Int} (G:m < j) (H:bs[p+m]? =some x):(segL bs p j).drop m=x::(segL bs p j).drop (m+1):=by
 have h1:(segL bs p j)[m]? =some x:=by rw [seg_at G];exact H
 obtain ⟨h2,J⟩:=List.getElem?_eq_some_iff.1 h1;rw [List.drop_eq_getElem_cons h2,J]
theorem seg_all (h:p+j<=bs.length):(segL bs p j).drop j=[]:=by rw [List.drop_eq_nil_iff,seg_len h];exact Nat.le_refl _
theorem seg_of {xs:List Int} (h:AtL bs p xs) (hl:xs.length=j):segL bs p j=xs:=by unfold segL;rw [<-hl];exact h.cut
theorem at_seg {V:Nat} (hj:∀i,i < j->∀x,bs[p+i]? =some x->128<=x) {x:Int} (H:bs[p+j]? =some x) (hl:x < 128) (G:hor (segL bs p (j+1))=V) {n:Nat} (hn:n < 18446744073709551616) (h:AtL bs p (enc n)):enc V=segL bs p (j+1):=by
 have h1:=at_len hj H hl hn h;have h2:=seg_of h h1;have J:hor (enc n)=n:=hor_enc 10 n om hn;rw [h2,J] at G;rw [h2]
 congr 1
 omega
def nmF (bs:List Int) (p:Nat):Int × Nat × Bool:=if (numF bs 10 0 0 p).2.1=0 then ((numF bs 10 0 0 p).1,(numF bs 10 0 0 p).2.2,true) else (0,0,false)
theorem nmF_at {n:Nat} (hn:n < 18446744073709551616) (h:AtL bs p (enc n)):nmF bs p=((n:Int),p+(enc n).length,true):=by
 unfold nmF;rw [num_rt h hn];rfl
theorem nmF_no (H:∀b∈bs,0<=b/\b < 256) (h:∀n,n < 18446744073709551616->AtL bs p (enc n)->False):nmF bs p=(0,0,false):=by
 unfold nmF
 split
 ·next e=>
  obtain ⟨n,_,h2,_,G⟩:=num_only H (show numF bs 10 0 0 p=((numF bs 10 0 0 p).1,0,(numF bs 10 0 0 p).2.2) by rw [<-e]);exact absurd G (h n h2)
 ·rfl
theorem nmF_seg {V:Nat} (J:p+(j+1)<=bs.length) (H:V < 18446744073709551616) (G:enc V=segL bs p (j+1)):nmF bs p=((V:Int),p+(j+1),true):=by
 have hl:(enc V).length=j+1:=by rw [G];exact seg_len J
 rw [nmF_at H (fun i hi=>by rw [G];exact (seg_at om).symm),hl]
end
theorem ydE (A:Option Addr) (n c p B:Nat) (bs:List Int) (w:World) (hx:Sl fB w B A n bs) (hb:∀b∈bs,0<=b/\b < 256) (hB:B<=w.heap.size) (hp:p<=n) (hn:n<=1000000):
 Calls prog 231 #[.slice A n c,.int .i64 p] w fun e w'=>e= .returned (.tuple #[.int .u64 (nmF bs p).1,.int .i64 (nmF bs p).2.1,.bool (nmF bs p).2.2])/\Below w.heap.size w w':=by
 have HX:=lh hx;have J:=lh hb;have HLN:Hid (bs.length=n):=hx.1;have ai:=lh hB;clear hx hb hB;go_enter func231,ntmps231;go_wp2
 go_loopw [7] (fun i wr=>∃j:Nat,j<=10/\i= .int .i64 ((j:Int)+1)/\p+j<=n/\Hid (∀i,i < j->∀x,bs[p+i]? =some x->128<=x)/\Hid (Below w.heap.size w wr)) (fun i _=>11 - (intOf i).toNat)
 case atStart=>exact ⟨0,by omega,rfl,by omega,fun i hi=>absurd hi om,Below.refl _ _⟩
 case round=>
  obtain ⟨j,hj,rfl,aE,HJ,HR⟩:=hrel;have af:((p:Int)+((j:Int)+1))=((p+j+1:Nat):Int):=by omega
  by_cases au:j < 10
  ·by_cases aw:p+j=n
   ·have HF:Hid (nmF bs p=(0,0,false)):=nmF_no J.out fun m h1 h2=>at_no HJ.out (.inr ybg) h1 h2;have U:¬((p+j+1:Nat):Int)<=(n:Int):=by omega
    have N:(j:Int)+1<=10:=by omega
    go_wp2
    go_ret3
    rw [HF.out];exact ⟨rfl,HR.out⟩
   ·obtain ⟨b1,o1,x,rfl,_,hg,hc⟩:=(HX.out.up HR.out ai.out).2.at_ (k:=p+j) ybg;have aI:=J.out x (List.mem_of_getElem? hg);have U:((p+j+1:Nat):Int)<=(n:Int):=by omega
    have N:(j:Int)+1<=10:=by omega
    have ac:((p+j+1:Nat):Int) - 1=((p+j:Nat):Int):=by omega
    by_cases ar:128<=x
    ·have ao:Hid (∀i,i < j+1->∀x,bs[p+i]? =some x->128<=x):=fun i hi y hy=>by
      rcases Nat.lt_or_ge i j with c |c
      ·exact HJ.out i c y hy
      ·obtain rfl:i=j:=by omega
       rw [hg] at hy;cases hy;exact ar
     clear hg;go_wp2;go_roundw;case rel=>exact ⟨j+1,by omega,by go_num,by omega,ao,HR.out⟩
     case measure=>simp [intOf];omega
    ·obtain ⟨V,hV⟩:∃V:Nat,hor (segL bs p (j+1))=V:=⟨(hor (segL bs p (j+1))).toNat,by have:=(hor_rng (segL bs p (j+1))).1;omega⟩
     have ah:V < 18446744073709551616:=by have:=(hor_rng (segL bs p (j+1))).2;omega
     have HV:Hid (hor (segL bs p (j+1))=V):=hV;have aj:Hid (∀m,m < 18446744073709551616->AtL bs p (enc m)->enc V=segL bs p (j+1)):=fun m h1 h2=>at_seg HJ.out hg om hV h1 h2;have W:Hid (p+(j+1)<=bs.length):=by show _<=_;rw [HLN.out];omega
     clear hV hg;go_wp2
     go_loopw [8,9] (fun v i wq=>∃(m:Nat) (q:Int),m<=j+1/\i= .int .i64 q/\q=(m:Int) - 1/\Hid (v= .int .u64 (hor ((segL bs p (j+1)).drop m)))/\Hid (Below w.heap.size w wq)) (fun _ i _=>((intOf i)+1).toNat)
     case atStart=>exact ⟨j+1,_,by omega,by go_num,by omega,by show _=_;rw [seg_all W.out];rfl,HR⟩
     case round=>
      rename_i wq _ _
      obtain ⟨m,q,hm,rfl,hq,aa,HQ⟩:=hrel
      by_cases ak:m=0
      ·subst ak;obtain rfl:q= -1:=by omega
       clear hq;obtain rfl:=aa.out.trans (by rw [List.drop_zero,HV.out]);obtain ⟨L6,L⟩:∃L6,Hid ((enc V).length=L6):=⟨_,rfl⟩
       by_cases hL:L6=j+1
       ·subst hL;clear af U N ac hc;go_wp2_with (go_at_call 79;(refine (ycK V _ ah).mono ?_);(rintro e H ⟨v6,rfl,O,b6⟩);(obtain ⟨A6,c6,rfl,_,K,_⟩:=O.shape);(have T:Hid (Sl fB H H.heap.size A6 (enc V).length (enc V)):=⟨rfl,K⟩);(have M:Hid (Below w.heap.size w H):=bt HQ.out b6);(have al:Hid (w.heap.size<=H.heap.size):=M.out.size);(rw [L.out] at T ⊢);clear O K b6)
        go_loopw [11] (fun i wq=>∃k:Nat,k<=j+1/\i= .int .i64 k/\Hid (∀i,i < k->(enc V)[i]? =bs[p+i]?)/\Hid (Below H.heap.size H wq)) (fun i _=>j+1 - (intOf i).toNat)
        case atStart=>exact ⟨0,by omega,rfl,fun i hi=>absurd hi om,Below.refl _ _⟩
        case round=>
         obtain ⟨k,hk,rfl,HK,ae⟩:=hrel;have ag:=lh (M.out.trans (ae.out.mono al.out))
         by_cases aH:k < j+1
         ·obtain ⟨b2,o2,y,e2,_,G,am⟩:=(HX.out.up ag.out ai.out).2.at_ (k:=p+k) ybg;cases e2
          obtain ⟨b3,o3,y',rfl,_,Z,aA⟩:=(T.out.up ae.out nl).2.at_ (k:=k) (by rw [L.out];omega);have aG:(k:Int) < (j:Int)+1:=by omega
          have aB:(0:Int)<=(k:Int):=by omega
          have aF:(p:Int)+(k:Int) < (n:Int):=by omega
          have aJ:(0:Int)<=(p:Int)+(k:Int):=by omega
          have aD:((p:Int)+(k:Int)).toNat=p+k:=by omega
          by_cases Y:y'=y
          ·subst Y
           have ap:Hid (∀i,i < k+1->(enc V)[i]? =bs[p+i]?):=fun i hi=>by
            rcases Nat.lt_or_ge i k with c |c
            ·exact HK.out i c
            ·obtain rfl:i=k:=by omega
             rw [G,Z]
           clear G Z;go_wp2;go_quiet (fail);go_wp2;go_roundw;case rel=>exact ⟨k+1,by omega,by go_num,ap,below_drewN ae.out _⟩
           case measure=>simp [intOf];omega
          ·have HF:Hid (nmF bs p=(0,0,false)):=nmF_no J.out fun m h1 h2=>Y (by
            have e:=aj.out m h1 h2;have e4:(segL bs p (j+1))[k]? =some y:=by rw [seg_at om];exact G
            rw [<-e,Z] at e4
            exact Option.some.inj e4)
           have ax:(y'==y)=false:=by simp [Y]
           clear G Z Y;go_wp2;go_quiet (fail);go_wp2
           go_ret3
           rw [HF.out];exact ⟨rfl,below_drewN ag.out _⟩
         ·obtain rfl:k=j+1:=by omega
          have HE:Hid (enc V=segL bs p (j+1)):=by
           apply List.ext_getElem?;intro i;rcases Nat.lt_or_ge i (j+1) with c |c
           ·rw [HK.out i c,seg_at c]
           ·rw [List.getElem?_eq_none (by rw [L.out];exact c),List.getElem?_eq_none (by rw [seg_len W.out];exact c)]
          have HF:Hid (nmF bs p=((V:Int),p+(j+1),true)):=nmF_seg W.out ah HE.out;go_wp2
          go_ret3
          rw [HF.out];exact ⟨rfl,ag.out⟩
       ·have aC:¬((L6:Int)=(j:Int)+1):=by omega
        have HF:Hid (nmF bs p=(0,0,false)):=nmF_no J.out fun m h1 h2=>hL (by
         have:=aj.out m h1 h2;rw [<-L.out,this]
         exact seg_len W.out)
        clear af U N ac hc hL;go_wp2_with (go_at_call 79;(refine (ycK V _ ah).mono ?_);(rintro e H ⟨v6,rfl,O,b6⟩);(obtain ⟨A6,c6,rfl,_,K,_⟩:=O.shape);(have T:Hid (Sl fB H H.heap.size A6 (enc V).length (enc V)):=⟨rfl,K⟩);(have M:Hid (Below w.heap.size w H):=bt HQ.out b6);(have al:Hid (w.heap.size<=H.heap.size):=M.out.size);(rw [L.out] at T ⊢);clear O K b6)
        go_ret3
        rw [HF.out];exact ⟨rfl,M.out⟩
      ·obtain ⟨m,rfl⟩:∃k,m=k+1:=⟨m - 1,by omega⟩
       obtain rfl:q=(m:Int):=by omega
       clear hq af U N ac hc;obtain ⟨b2,o2,y,e2,_,G,am⟩:=(HX.out.up HQ.out ai.out).2.at_ (k:=p+m) ybg;cases e2
       have ay:=J.out y (List.mem_of_getElem? G);obtain ⟨z,hz⟩:=gX (hor ((segL bs p (j+1)).drop (m+1)));have aq:=hor_rng ((segL bs p (j+1)).drop (m+1));rw [hz] at aq
       have HS:Hid (hor ((segL bs p (j+1)).drop m)=(z*128+y % 128) % 18446744073709551616):=by
        show _=_;rw [seg_drop om G,hor,hz]
       rw [hz] at aa;obtain rfl:=aa.out;have aK:(0:Int)<=(m:Int):=by omega
       have az:y.tmod 128=y % 128:=Int.tmod_eq_emod_of_nonneg om;clear G hz ak;go_wp2;go_roundw
       case rel=>
        refine ⟨m,_,by omega,rfl,rfl,?_,HQ⟩;show _=_;rw [HS.out,IntKind.wrap_u64,IntKind.wrap_u64]
        congr 1
        omega
       case measure=>simp [intOf]
  ·have HF:Hid (nmF bs p=(0,0,false)):=nmF_no J.out fun m h1 h2=>at_no HJ.out (.inl om) h1 h2;have N:¬(j:Int)+1<=10:=by omega
   go_wp2
   go_ret3
   rw [HF.out];exact ⟨rfl,HR.out⟩
