import Derived.Test.YtpdledjgbgalcaaGreatDoorPd
namespace Go.Proofs.YtpdledjgbgalcaaGreatDoor
set_option maxRecDepth 100000
set_option maxHeartbeats 8000000
open Go.RowKit Go.Lib Go.Proofs.Tryz
set_option linter.unusedVariables false
set_option linter.unusedSimpArgs false
theorem yd4 {w:World} {b:Nat} {t:TypeId} {fr:Nat × Nat} {s:ByteArray} {cap B:Nat} (h:w.heap[b]? =some (.cells (bytesRow s cap) t fr)) (J:b < B):Sl fB w B (some ⟨b,0,none⟩) s.size (sB s):=
 ⟨ybS s,fun _=>⟨b,0,rfl,J,fun k x G=>by
     rw [Nat.zero_add,cell_of_row w b k _ _ _ h];unfold sB at G;rw [List.getElem?_map,Array.getElem?_toList] at G
     have H:k < s.data.size:=by
      rcases Nat.lt_or_ge k s.data.size with c |c
      ·exact c
      ·rw [Array.getElem?_eq_none c] at G;cases G
     rw [Array.getElem?_eq_getElem H] at G;cases G
     exact bytesRow_at s cap k H⟩⟩
theorem yb8 {w:World} {ops:Array Oper} {G:List Oper} {o:Oper} {a:Act} {Q:Exit->Act->World->Prop} (H:o.guard=none) (x:Operand) (J:o.op= .convert 9 40 x) (s:ByteArray) (L:a.eval x= .string s)
 (h:∀c W,Hid (Sl fB W W.heap.size (some ⟨w.heap.size,0,none⟩) s.size (sB s))->Hid (s.size<=c)->Hid (Below w.heap.size w W)->wpList prog ops Q G (a.put o.dst (.slice (some ⟨w.heap.size,0,none⟩) s.size c)) W):wpList prog ops Q (o::G) a w:=by
 refine wpList_plain H fun _ K=>?_;unfold Oper.wp execOp;simp only [J,L,Sem.run_bind,run_bytes_of_string (P:=prog) w 9 40 5 s underlying9 underlying40 underlying5,Result.andThen_ok];refine K _ _ (h _ _ (yd4 (zy w.drew _) sI) (grownCap_ge w s.size 0 _) ?_);exact (Below.drew bR).alloc nl _
def jnL (ps:List ByteArray):List Int:=ps.flatMap sB
theorem yel (ps:List ByteArray) (x:ByteArray):jnL (ps++[x])=jnL ps++sB x:=by simp [jnL]
theorem ycZ (ps:List ByteArray):Byt (jnL ps):=fun x hx=>by
 obtain ⟨s,_,h2⟩:=List.mem_flatMap.1 hx;exact ycR s x h2
theorem jnL_take_le (ps:List ByteArray) (k:Nat):(jnL (ps.take k)).length<=(jnL ps).length:=by
 have h:jnL ps=jnL (ps.take k)++jnL (ps.drop k):=by
  unfold jnL;rw [<-List.flatMap_append,List.take_append_drop]
 rw [h,List.length_append];omega
theorem mjoin_any (A:Option Addr) (n c B:Nat) (ps:List ByteArray) (w:World) (G:Glob w) (hx:Sl fT w B A n ps) (hB:B<=w.heap.size) (hn:n<=1000000) (hl:(jnL ps).length<=549755813887):
 Calls prog 209 #[.slice A n c] w fun e K=>e= .returned (.string (baOf (shaB (jnL ps))))/\Below w.heap.size w K:=by
 have al:=lh (stNew_any w G);have HX:=lh hx;have HXN:Hid (ps.length=n):=hx.1;have ah:=lh hB;have HL:=lh hl
 have H2:Hid (∀w1 bs x L W,St W w.heap.size bs->Below w.heap.size w W->w.heap.size < w1->Sl fB W W.heap.size (some ⟨w1,0,none⟩) x.size (sB x)->x.size<=L->(bs++sB x).length<=549755813887->Calls prog 199 #[.pointer (some ⟨w.heap.size,0,none⟩),.slice (some ⟨w1,0,none⟩) x.size L] W fun e K=>e= .returned (.tuple #[])/\St K w.heap.size (bs++sB x)/\But (fun k=>k=w.heap.size) W K):=fun w1 bs x L W hs M hlt J hc ai=>
  ycV w.heap.size bs (sB x) _ x.size L W.heap.size W hs J hc nl (ycR x) (fun a ha=>by injection ha with ha;subst ha;exact Nat.ne_of_gt hlt) (by rw [List.length_append] at ai;omega) (G.on M).1 (G.on M).2.2 (Nat.ne_of_gt G.2.2)
 have H3:Hid (∀W,St W w.heap.size (jnL ps)->Below w.heap.size w W->Calls prog 200 #[.pointer (some ⟨w.heap.size,0,none⟩)] W fun e K=>e= .returned (.string (baOf (shaB (jnL ps))))/\Below W.heap.size W K):=fun W h2 M=>
  sum_any w.heap.size (jnL ps) W h2 om (G.on M).1 (G.on M).2.2
 clear G hx hB hl;go_enter func209,ntmps209;go_wp2_with (go_at_call 198;(with_reducible refine al.out.mono ?_);rintro e w0 ⟨rfl,am⟩;subst am)
 go_loopw [9] (fun i wr=>∃k:Nat,k<=n/\i= .int .i64 k/\Hid (St wr w.heap.size (jnL (ps.take k)))/\Hid (Below w.heap.size w wr)/\Hid (w.heap.size < wr.heap.size)) (fun i _=>n - (intOf i).toNat)
 case atStart=>exact ⟨0,by omega,rfl,newSt_St w,bl,by show _ < _;simp⟩
 case round=>
  obtain ⟨k,hk,rfl,HS,HR,U⟩:=hrel
  by_cases hlt:k < n
  ·obtain ⟨b1,o1,x,rfl,_,hg,hc⟩:=(HX.out.up HR.out ah.out).2.at_ (k:=k) yba;have ap:(k:Int) < (n:Int):=by omega
   have ao:(0:Int)<=(k:Int):=by omega
   have HT:Hid (jnL (ps.take (k+1))=jnL (ps.take k)++sB x):=by show _=_;rw [yby hg,yel]
   have ag:Hid ((jnL (ps.take k)++sB x).length<=549755813887):=by show _<=_;rw [<-HT.out];exact lT (jnL_take_le ps (k+1)) HL.out
   clear hg
   go_wp2_with (first
    |((with_reducible refine yb8 (o:=⟨some 15,_,_,_,_,_⟩) rfl (.tmp 14) rfl x rfl ?_);intro L z J T H;(have N:Hid (Below w.heap.size w z):=bt HR.out H.out);(have ac:=lh (H2.out _ (jnL (ps.take k)) x L z (HS.out.but (But.of_below (p:=fun _=>False) H.out) (fun h=>h)) N.out U.out J.out T.out ag.out));(have ak:Hid (wr.heap.size<=z.heap.size):=H.out.size);clear J T H)
    |(go_at_call 199;(with_reducible refine ac.out.mono ?_);rintro e W2 ⟨rfl,Y,O⟩;(have af:=lh Y);(have aj:Hid (Below w.heap.size w W2):=N.out.trans (O.below N.out.size (fun i hi=>Nat.le_of_eq hi.symm)));(have aa:Hid (w.heap.size < W2.heap.size):=Nat.lt_of_lt_of_le (Nat.lt_of_lt_of_le U.out ak.out) O.size);clear Y O))
   go_roundw
   case rel=>exact ⟨k+1,by omega,by go_num,by rw [HT.out];exact af,aj,aa⟩
   case measure=>simp [intOf];omega
  ·obtain rfl:k=n:=by omega
   have HE:Hid (jnL (ps.take k)=jnL ps):=by show _=_;rw [List.take_of_length_le ya4]
   rw [HE.out] at HS;go_wp2_with (go_at_call 200;(with_reducible refine (H3.out _ HS.out HR.out).mono ?_);rintro e w3 ⟨rfl,Z⟩;have ae:=lh Z;clear Z);go_ret;exact ⟨rfl,bt HR.out ae.out⟩
theorem sB_app (a b:ByteArray):sB (a++b)=sB a++sB b:=by
 unfold sB;rw [ByteArray.data_append,Array.toList_append,List.map_append]
theorem ba_eqU {a b:ByteArray} (h:sB a=sB b):a=b:=by
 obtain ⟨⟨x⟩⟩:=a;obtain ⟨⟨y⟩⟩:=b;unfold sB at h;simp only at h
 congr 2
 exact List.map_inj_right (f:=fun b:UInt8=>(b.toNat:Int)) (fun u v G=>by
  have:u.toNat=v.toNat:=by omega
  exact UInt8.toNat_inj.1 this) |>.1 h
theorem baOf_snoc (ps:List ByteArray) (x:ByteArray):baOf (jnL ps)++x=baOf (jnL (ps++[x])):=by
 apply ba_eqU;rw [sB_app,ybL (ycZ _),ybL (ycZ _),yel]
theorem baOf_lenU (ps:List ByteArray):(baOf (jnL ps)).size=(jnL ps).length:=by rw [<-ybS,ybL (ycZ _)]
theorem rjoin_any (A:Option Addr) (n c B:Nat) (ps:List ByteArray) (w:World) (T:Sl fT w B A n ps) (hB:B<=w.heap.size) (hn:n<=1000000) (hl:(jnL ps).length<=1000000):
 Calls prog 183 #[.slice A n c] w fun e L=>e= .returned (.string (baOf (shaB (jnL ps))))/\Below w.heap.size w L:=by
 have HX:=lh T;have HXN:Hid (ps.length=n):=T.1;have z:=lh hB;have HL:=lh hl
 have H3:Hid (∀W G M,Sl fB W W.heap.size G (baOf (jnL ps)).size (sB (baOf (jnL ps)))->Calls prog 123 #[.slice G (baOf (jnL ps)).size M] W fun e L=>e= .returned (.string (baOf (shaB (jnL ps))))/\Below W.heap.size W L):=fun W G M h=>by
  rw [ybL (ycZ _)] at h;exact ydA G _ M W.heap.size (jnL ps) W h nl (by rw [baOf_lenU];omega) (ycZ _)
 clear T hB hl;go_enter func183,ntmps183;go_wp2
 go_loopw [3,8] (fun u i wr=>∃k:Nat,k<=n/\i= .int .i64 k/\Hid (u= .string (baOf (jnL (ps.take k))))/\Hid (Below w.heap.size w wr)) (fun _ i _=>n - (intOf i).toNat)
 case atStart=>exact ⟨0,by omega,rfl,by show _=_;rfl,Below.refl _ _⟩
 case round=>
  obtain ⟨k,hk,rfl,O,HR⟩:=hrel
  by_cases hlt:k < n
  ·obtain ⟨b1,o1,x,rfl,_,N,hc⟩:=(HX.out.up HR.out z.out).2.at_ (k:=k) yba;have ag:(k:Int) < (n:Int):=by omega
   have af:(0:Int)<=(k:Int):=by omega
   have Z:Hid (baOf (jnL (ps.take k))++x=baOf (jnL (ps.take (k+1)))):=by show _=_;rw [yby N,baOf_snoc]
   have aa:¬9223372036854775807 < (baOf (jnL (ps.take k))).size+x.size:=by
    have h1:=lT (jnL_take_le ps (k+1)) HL.out;rw [yby N,yel,List.length_append,ybS] at h1;rw [baOf_lenU];omega
   obtain rfl:=O.out;clear N;generalize baOf (jnL (ps.take k))=acc at Z aa;go_wp2;go_roundw;case rel=>exact ⟨k+1,by omega,by go_num,by show _=_;rw [<-Z.out],HR⟩
   case measure=>simp [intOf];omega
  ·obtain rfl:k=n:=by omega
   have HE:Hid (jnL (ps.take k)=jnL ps):=by show _=_;rw [List.take_of_length_le ya4]
   rw [HE.out] at O;obtain rfl:=O.out
   go_wp2_with (first
    |((with_reducible refine yb8 (o:=⟨some 17,_,_,_,_,_⟩) rfl (.tmp 16) rfl (baOf (jnL ps)) rfl ?_);intro cb W1 J U H;(have ae:Hid (Below w.heap.size w W1):=bt HR.out H.out);(have Y:=lh (H3.out W1 _ cb J.out));clear J U H)
    |(go_at_call 123;(with_reducible refine Y.out.mono ?_);rintro e W2 ⟨rfl,K⟩;(have ac:Hid (Below w.heap.size w W2):=bt ae.out K);clear K))
   go_ret;exact ⟨rfl,ac.out⟩
def ndS (a b:ByteArray):ByteArray:=baOf (shaB (jnL [⟨#[1]⟩,a,b]))
theorem nd_sl (w:World) (a b:ByteArray):Sl fT (w.alloc (.cells #[.string ⟨#[1]⟩,.string a,.string b] 9)) (w.alloc (.cells #[.string ⟨#[1]⟩,.string a,.string b] 9)).heap.size (some ⟨w.heap.size,0,none⟩) 3 [⟨#[1]⟩,a,b]:=
 ⟨rfl,SL.of_block (t:=9) (fr:=(0,0)) (zy w _) sI⟩
theorem jn3 (a b:ByteArray):(jnL [⟨#[1]⟩,a,b]).length=1+a.size+b.size:=by
 unfold jnL;simp only [List.flatMap_cons,List.flatMap_nil,List.length_append,List.length_nil,ybS];show 1+(a.size+(b.size+0))=_;omega
theorem yc0 (a b:ByteArray) (w:World) (K:Glob w) (ha:a.size<=400000) (N:b.size<=400000):
 Calls prog 168 #[.string a,.string b] w fun e L=>e= .returned (.string (ndS a b))/\Below w.heap.size w L:=by
 have G:Below w.heap.size w (w.alloc (.cells #[.string ⟨#[1]⟩,.string a,.string b] 9)):=bl;have M:=lh (mjoin_any _ 3 3 _ _ _ (K.on G) (nd_sl w a b) nl de (by rw [jn3];omega));have HB:=lh G;clear K G;go_enter func168,ntmps168;go_wp2_with (go_at_call 209;(with_reducible refine M.out.mono ?_);rintro e O ⟨rfl,H⟩;have J:=lh H;clear H);go_ret;exact ⟨rfl,bt HB.out J.out⟩
theorem yc1 (a b:ByteArray) (w:World) (ha:a.size<=400000) (M:b.size<=400000):
 Calls prog 125 #[.string a,.string b] w fun e K=>e= .returned (.string (ndS a b))/\Below w.heap.size w K:=by
 have G:Below w.heap.size w (w.alloc (.cells #[.string ⟨#[1]⟩,.string a,.string b] 9)):=bl;have L:=lh (rjoin_any _ 3 3 _ _ _ (nd_sl w a b) nl de (by rw [jn3];omega));have HB:=lh G;clear G;go_enter func125,ntmps125;go_wp2_with (go_at_call 183;(with_reducible refine L.out.mono ?_);rintro e N ⟨rfl,H⟩;have J:=lh H;clear H);go_ret;exact ⟨rfl,bt HB.out J.out⟩
theorem ydc (a b:ByteArray):(ndS a b).size=32:=by
 unfold ndS;rw [<-ybS,ybL (ycJ _),ycv]
theorem len64_any (x:Nat) (G:x < 256) (w:World):Calls prog 230 #[.int .u64 x] w fun e J=>e= .returned (.int .i64 (bitLen x))/\w=J:=by
 have h1:¬(4294967296:Int)<=(x:Int):=by omega
 have h2:¬(65536:Int)<=(x:Int):=by omega
 have K:¬(256:Int)<=(x:Int):=by omega
 have H:IntKind.u8.wrap (x:Int)=x:=by unfold IntKind.wrap;simp [IntKind.bits,IntKind.signed];omega
 go_enter func230,ntmps230;go_wp2;go_ret;refine ⟨?_,rfl⟩
 have ht:∀(s:ByteArray) (h:x < s.size),s[x]=s.data.getD x 0:=fun s h=>by
  show s.data[x]=_;rw [Array.getD,dif_pos (show x < s.data.size from h)];rfl
 rw [ht];clear ht h1 h2 K H;refine congrArg (fun z:Int=>Ending.returned (Value.int .i64 z)) (?_:_=((bitLen x:Nat):Int));obtain ⟨a,rfl⟩:∃a:Fin 256,a.val=x:=⟨⟨x,G⟩,rfl⟩
 clear G
 revert a
 decide+kernel
theorem len_any (x:Nat) (H:x < 256) (w:World):Calls prog 177 #[.int .u64 x] w fun e G=>e= .returned (.int .i64 (bitLen x))/\w=G:=by
 have J:=lh (len64_any x H w);go_enter func177,ntmps177;go_wp2_with (go_at_call 230;(with_reducible refine J.out.mono ?_);rintro e w1 ⟨rfl,rfl⟩);go_ret;exact ⟨rfl,rfl⟩
def spl (n:Nat):Nat:=2 ^ (bitLen (n - 1) - 1)
theorem ycD {n:Nat} (h1:2<=n) (h2:n<=256):1<=bitLen (n - 1)/\bitLen (n - 1)<=8/\1<=spl n/\spl n < n/\n<=2*spl n:=by
 have G:∀a:Fin 257,2<=a.val->1<=bitLen (a.val - 1)/\bitLen (a.val - 1)<=8/\1<=spl a.val/\spl a.val < a.val/\a.val<=2*spl a.val:=by decide+kernel
 exact G ⟨n,by omega⟩ h1
theorem msplit_any (n:Nat) (h1:2<=n) (h2:n<=256) (w:World):Calls prog 167 #[.int .i64 n] w fun e N=>e= .returned (.int .i64 (spl n))/\w=N:=by
 obtain ⟨J,H,_⟩:=ycD h1 h2;obtain ⟨m,rfl⟩:∃m,n=m+1:=⟨n - 1,by omega⟩
 have O:IntKind.u64.wrap (m:Int)=m:=by unfold IntKind.wrap;simp [IntKind.bits,IntKind.signed];omega
 have K:=lh (len_any m om w);have T:((m+1:Nat):Int) - 1=m:=by omega
 have hs:spl (m+1)=2 ^ (bitLen m - 1):=rfl;rw [Nat.add_sub_cancel] at J H;rw [hs];obtain ⟨L,M⟩:=gX (bitLen m);rw [M] at J H K ⊢;clear hs M;have G:L=1∨L=2∨L=3∨L=4∨L=5∨L=6∨L=7∨L=8:=by omega
 rcases G with rfl |rfl |rfl |rfl |rfl |rfl |rfl |rfl
 all_goals
  go_enter func167,ntmps167;go_wp2_with (go_at_call 177;(with_reducible refine K.out.mono ?_);rintro e w1 ⟨rfl,rfl⟩);go_ret;exact ⟨by first |rfl |decide,rfl⟩
theorem rsplit_any (n:Nat) (h1:2<=n) (h2:n<=256) (w:World):Calls prog 124 #[.int .i64 n] w fun e W=>e= .returned (.int .i64 (spl n))/\w=W:=by
 obtain ⟨Y,U,_,K,L⟩:=ycD h1 h2;have hs:spl n=2 ^ (bitLen (n - 1) - 1):=rfl;obtain ⟨l,hl⟩:=gX (bitLen (n - 1) - 1);rw [hl] at hs;have aa:l<=7:=by omega
 rw [hs] at K L ⊢;obtain ⟨H,T⟩:=gX (2 ^ l);rw [T] at K L ⊢;have J:Hid (2 ^ l=H/\H < n/\n<=2*H):=⟨T,K,L⟩;clear hs hl Y U T K L;go_enter func124,ntmps124;go_wp2
 go_loopw [3] (fun i wr=>∃j:Nat,j<=l/\i= .int .i64 ((2 ^ j:Nat):Int)/\w=wr) (fun i _=>n - (intOf i).toNat)
 case atStart=>exact ⟨0,by omega,rfl,rfl⟩
 case round=>
  obtain ⟨j,hj,rfl,rfl⟩:=hrel;obtain ⟨_,K,L⟩:=J.out;have M:2 ^ j<=H:=by rw [<-J.out.1];exact Nat.pow_le_pow_right de hj
  have N:1<=2 ^ j:=Nat.one_le_two_pow;have G:2 ^ (j+1)=2 ^ j*2:=Nat.pow_succ 2 j
  by_cases hlt:j < l
  ·have z:2 ^ (j+1)<=2 ^ l:=Nat.pow_le_pow_right de hlt;obtain ⟨a,ha⟩:=gX (2 ^ j);rw [ha] at M N G ⊢;clear ha;generalize 2 ^ l=b at*;have Z:(a:Int) < (n:Int) - (a:Int):=by omega
   go_wp2;go_roundw;case rel=>exact ⟨j+1,by omega,by rw [G];go_num,by first |rfl |trivial⟩
   case measure=>simp [intOf];omega
  ·obtain rfl:j=l:=by omega
   have O:2 ^ j=H:=J.out.1;clear G M J;rw [O] at N ⊢;clear O;have Z:¬(H:Int) < (n:Int) - (H:Int):=by omega
   go_wp2;go_ret;exact ⟨rfl,rfl⟩
def perB (b:Nat):Nat:=8 / b
def dig (b:Nat) (xs:List Int) (i:Nat):Nat:=(xs.getD (i / perB b) 0).toNat / 2 ^ (8 - b*(i % perB b+1)) % 2 ^ b
def digs (b:Nat) (xs:List Int) (n:Nat):List Int:=(List.range n).map fun i=>(dig b xs i:Int)
theorem digs_succ (b:Nat) (xs:List Int) (n:Nat):digs b xs (n+1)=digs b xs n++[(dig b xs n:Int)]:=by
 unfold digs;rw [List.range_succ,List.map_append];rfl
theorem ycM (b:Nat) (xs:List Int) (n:Nat):(digs b xs n).length=n:=by simp [digs]
theorem dig_lt (b:Nat) (xs:List Int) (i:Nat):dig b xs i < 2 ^ b:=Nat.mod_lt _ (Nat.two_pow_pos b)
def cks (b:Nat) (xs:List Int):Nat->Nat
 |0=>0
 |n+1=>cks b xs n+(2 ^ b - 1 - dig b xs n)
theorem cks_le (b:Nat) (xs:List Int):∀n,cks b xs n<=n*(2 ^ b - 1)
 |0=>by simp [cks]
 |n+1=>by
  have:=cks_le b xs n;rw [cks,Nat.succ_mul];omega
def cdig (b c k j:Nat):Nat:=k / 2 ^ (b*(c - 1 - j)) % 2 ^ b
def cdigs (b c k n:Nat):List Int:=(List.range n).map fun j=>(cdig b c k j:Int)
theorem cdigs_succ (b c k n:Nat):cdigs b c k (n+1)=cdigs b c k n++[(cdig b c k n:Int)]:=by
 unfold cdigs;rw [List.range_succ,List.map_append];rfl
theorem cdigs_len (b c k n:Nat):(cdigs b c k n).length=n:=by simp [cdigs]
theorem cdig_lt (b c k j:Nat):cdig b c k j < 2 ^ b:=Nat.mod_lt _ (Nat.two_pow_pos b)
def mN (b:Nat):Nat:=256 / b
def cN (b:Nat):Nat:=if b=1 then 9 else if b=2 then 5 else 3
def dgF (b:Nat) (xs:List Int):List Int:=digs b xs (mN b)++cdigs b (cN b) (cks b xs (mN b)) (cN b)
theorem dgF_len (b:Nat) (xs:List Int):(dgF b xs).length=mN b+cN b:=by
 unfold dgF;rw [List.length_append,ycM,cdigs_len]
theorem dgF_rng (b:Nat) (xs:List Int):∀d∈dgF b xs,0<=d/\d<=2 ^ b - 1:=by
 intro d hd;have hp:((2 ^ b:Nat):Int)=2 ^ b:=by simp
 unfold dgF digs cdigs at hd;rw [List.mem_append] at hd;rcases hd with hd |hd
 ·obtain ⟨i,_,rfl⟩:=List.mem_map.1 hd;have:=dig_lt b xs i;omega
 ·obtain ⟨i,_,rfl⟩:=List.mem_map.1 hd;have:=cdig_lt b (cN b) (cks b xs (mN b)) i;omega
def bitN (xs:List Int) (i:Nat):Nat:=(xs.getD (i / 8) 0).toNat / 2 ^ (7 - i % 8) % 2
def rdg (b:Nat) (xs:List Int) (i:Nat):Nat->Nat
 |0=>0
 |k+1=>2*rdg b xs i k+bitN xs (i*b+k)
theorem rdg_eq (b:Nat) (xs:List Int) (i:Nat) (W:b=1∨b=2∨b=4) (Y:∀x∈xs,0<=x/\x < 256):rdg b xs i b=dig b xs i:=by
 have L:∀q,(xs.getD q 0).toNat < 256:=fun q=>by
  rw [List.getD_eq_getElem?_getD]
  cases h:xs[q]? with
  |none=>simp
  |some x=>
   have:=Y x (List.mem_of_getElem? h);simp;omega
 rcases W with rfl |rfl |rfl
 ·have q:=L (i / 8);unfold dig perB;simp only [rdg,bitN];have G:(i*1+0) / 8=i / 8:=by omega
  have J:(i*1+0) % 8=i % 8:=by omega
  rw [G,J];have H:8 - 1*(i % (8 / 1)+1)=7 - i % 8:=by omega
  rw [H];simp
 ·have q:=L (i / 4);unfold dig perB;simp only [rdg,bitN];have G:(i*2+0) / 8=i / 4:=by omega
  have J:(i*2+0) % 8=2*(i % 4):=by omega
  have H:(i*2+1) / 8=i / 4:=by omega
  have K:(i*2+1) % 8=2*(i % 4)+1:=by omega
  rw [G,J,H,K];show 2*(2*0+_)+_=(xs.getD (i / 4) 0).toNat / 2 ^ (8 - 2*(i % 4+1)) % 4;have O:i % 4 < 4:=Nat.mod_lt _ de;generalize (xs.getD (i / 4) 0).toNat=x at*;generalize i % 4=j at*;have:j=0∨j=1∨j=2∨j=3:=by omega
  rcases this with rfl |rfl |rfl |rfl<;>(simp only [Nat.reduceMul,Nat.reduceAdd,Nat.reduceSub,Nat.reducePow];omega)
 ·have q:=L (i / 2);unfold dig perB;simp only [rdg,bitN];have G:(i*4+0) / 8=i / 2:=by omega
  have J:(i*4+0) % 8=4*(i % 2):=by omega
  have H:(i*4+1) / 8=i / 2:=by omega
  have K:(i*4+1) % 8=4*(i % 2)+1:=by omega
  have M:(i*4+2) / 8=i / 2:=by omega
  have N:(i*4+2) % 8=4*(i % 2)+2:=by omega
  have T:(i*4+3) / 8=i / 2:=by omega
  have U:(i*4+3) % 8=4*(i % 2)+3:=by omega
  rw [G,J,H,K,M,N,T,U];show 2*(2*(2*(2*0+_)+_)+_)+_=(xs.getD (i / 2) 0).toNat / 2 ^ (8 - 4*(i % 2+1)) % 16;have O:i % 2 < 2:=Nat.mod_lt _ de;generalize (xs.getD (i / 2) 0).toNat=x at*;generalize i % 2=j at*;have:j=0∨j=1:=by omega
  rcases this with rfl |rfl<;>(simp only [Nat.reduceMul,Nat.reduceAdd,Nat.reduceSub,Nat.reducePow];omega)
def chF (c f:Nat):Nat->ByteArray->ByteArray
 |0,x=>x
 |k+1,x=>baOf (shaB (sB "chain".toUTF8++enc c++enc (f+k)++sB (chF c f k x)))
theorem yem (c f:Nat) (x:ByteArray) (hx:x.size=32):∀k,(chF c f k x).size=32
 |0=>hx
 |k+1=>by
  rw [chF,<-ybS,ybL (ycJ _),ycv]
def endsF (b:Nat) (ds:List Int) (ps:List ByteArray) (n:Nat):List ByteArray:=
 (List.range n).map fun i=>chF i (ds.getD i 0).toNat (2 ^ b - 1 - (ds.getD i 0).toNat) (ps.getD i ⟨#[]⟩)
theorem endsF_succ (b:Nat) (G:List Int) (ps:List ByteArray) (n:Nat):endsF b G ps (n+1)=endsF b G ps n++[chF n (G.getD n 0).toNat (2 ^ b - 1 - (G.getD n 0).toNat) (ps.getD n ⟨#[]⟩)]:=by
 unfold endsF;rw [List.range_succ,List.map_append];rfl
theorem yc2 (b:Nat) (ds:List Int) (ps:List ByteArray) (n:Nat):(endsF b ds ps n).length=n:=by simp [endsF]
def pubF (b:Nat) (ds:List Int) (ps:List ByteArray):ByteArray:=baOf (shaB (sB "public".toUTF8++jnL (endsF b ds ps ps.length)))
def clF:ByteArray->Nat->List ByteArray->ByteArray
 |x,_,[]=>x
 |x,i,p::ps=>clF (if i % 2=0 then ndS x p else ndS p x) (i / 2) ps
def upF:Nat->ByteArray->Nat->Nat->List ByteArray->ByteArray × Bool
 |k,x,i,n,ps=>
  if n=1 then (x,decide (ps.length=0))
  else if ps.length=0 then (⟨#[]⟩,false)
  else match k with
   |0=>(⟨#[]⟩,false)
   |k+1=>
    if i < spl n then (ndS (upF k x i (spl n) ps.dropLast).1 (ps.getLastD ⟨#[]⟩),(upF k x i (spl n) ps.dropLast).2)
    else (ndS (ps.getLastD ⟨#[]⟩) (upF k x (i - spl n) (n - spl n) ps.dropLast).1,(upF k x (i - spl n) (n - spl n) ps.dropLast).2)
theorem apG_any (A:Option Addr) (m c B:Nat) (xs:List Int) (n:Nat) (w:World) (hx:Sl fB w B A m xs) (hB:B<=w.heap.size) (hm:m<=1000) (hn:n < 18446744073709551616):
 Calls prog 70 #[.slice A m c,.int .u64 n] w fun e H=>∃v,e= .returned v/\Own fB 5 H w.heap.size v (xs++enc n)/\Below w.heap.size w H:=by
 obtain ⟨z,hi,M,N,J⟩:=info_parts Tryz.infoB;have HI:=lh hi;have T:=lh M;have U:=lh N;have af:=lh J;have aa:xs.length=m:=hx.1
 have HC:Hid (∀v W,Own fB 5 W w.heap.size v xs->Below w.heap.size w W->Calls prog 135 #[v,.int .u64 n] W fun e H=>∃K,e= .returned K/\Own fB 5 H w.heap.size K (xs++enc n)/\Below w.heap.size w H):=fun v W hO G=>
  (yc7 v xs n W w.heap.size hO G.size hn om).mono (fun e H ⟨K,h1,h2,h3,_⟩=>⟨K,h1,h2,G.trans (h3.below G.size (fun i hi=>(ol hO i hi).1))⟩)
 have HX:=lh (fun W (G:Below w.heap.size w W)=>hx.up G hB);have ak:Hid (((([]:List Int)).length+xs.length)*1<=140737488355328):=by show _<=_;simp;omega
 have ae:Hid ((([]:List Int)).length+xs.length<=maxLen):=by show _<=_;simp;unfold maxLen;omega
 have HM:Hid ((m:Int)+10=((m+10:Nat):Int)):=by show _=_;omega
 have ac:Hid (z.bytes*(m+10)<=281474976710656):=by show _<=_;rw [J];omega
 have ai:Hid (m+10<=maxLen):=by show _<=_;unfold maxLen;omega
 have al:¬(9223372036854775807:Int) < (m:Int)+10:=by omega
 clear hi M N J hx aa hB;go_enter func70,ntmps70
 go_wp2_with (first
  |(at_make;(refine wpList_make_own w (o:=⟨some 8,_,_,_,_,_⟩) rfl _ _ 40 rfl w.heap.size 5 z (.int .u8 0) 1 underlying40 HI.out T.out U.out _ _ _ (m+10) rfl rfl HM.out ac.out ai.out nl ?_);intro w1 L Y;(have O:Hid (Own fB 5 w1 w.heap.size (.slice (some ⟨w.heap.size,0,none⟩) 0 (m+10:Nat)) []):=L);(have HB1:Hid (Below w.heap.size w w1):=ybm Y (fun k hk=>by cases hk) nl);(have HS1:Hid (w.heap.size<=w1.heap.size):=HB1.out.size);clear L Y)
  |(at_builtin;(with_reducible refine ybE (o:=⟨some 10,_,_,_,_,_⟩) rfl (.tmp 8) (.tmp 9) 40 rfl 5 z (.int .u8 0) 1 underlying40 HI.out T.out U.out af.out rfl _ ([]:List Int) w.heap.size rfl O.out A m c B xs rfl (HX.out w1 HB1.out) fB1 ak.out ae.out HS1.out ?_);intro v2 w2 ah ag am;(have aj:Hid (Below w.heap.size w w2):=HB1.out.trans (ybm ag.out (fun j hj=>(ol O.out j hj).1) HS1.out));(have Z:Hid (Own fB 5 w2 w.heap.size v2 xs):=ah.out))
  |(go_at_call 135;(with_reducible refine (HC.out _ w2 Z.out aj.out).mono ?_);rintro e w3 ⟨v3,rfl,ho,G⟩))
 go_ret;exact ⟨_,rfl,ho,G⟩
theorem ssum_any (A:Option Addr) (n c B:Nat) (xs:List Int) (w:World) (J:Glob w) (M:Sl fB w B A n xs) (hc:n<=c) (hB:B<=w.heap.size) (hl:n<=549755813887) (L:Byt xs) (hA:∀a,A=some a->a.block < w.heap.size):
 Calls prog 154 #[.slice A n c] w fun e K=>e= .returned (.string (baOf (shaB xs)))/\Below w.heap.size w K:=by
 have aa:=lh (stNew_any w J);have ae:=lh L;have H:Below w.heap.size w (w.alloc newSt):=bl
 have H2:Hid (Calls prog 199 #[.pointer (some ⟨w.heap.size,0,none⟩),.slice A n c] (w.alloc newSt) fun e K=>e= .returned (.tuple #[])/\St K w.heap.size xs/\But (fun k=>k=w.heap.size) (w.alloc newSt) K):=
  ycV w.heap.size [] xs A n c B (w.alloc newSt) (newSt_St w) (M.up H hB) hc (lT hB H.size) L (fun a ha=>Nat.ne_of_lt (hA a ha)) (by rw [M.1];simp;omega) (J.on H).1 (J.on H).2.2 (Nat.ne_of_gt J.2.2)
 have H3:Hid (∀G,St G w.heap.size xs->Below w.heap.size w G->Calls prog 200 #[.pointer (some ⟨w.heap.size,0,none⟩)] G fun e K=>e= .returned (.string (baOf (shaB xs)))/\Below G.heap.size G K):=fun G h2 Y=>
  sum_any w.heap.size xs G h2 (by rw [M.1];omega) (J.on Y).1 (J.on Y).2.2
 have N:=lh H;clear J M L hA H;go_enter func154,ntmps154
 go_wp2_with (first
  |(go_at_call 198;(with_reducible refine aa.out.mono ?_);rintro e w0 ⟨rfl,ac⟩;subst ac)
  |(go_at_call 199;(with_reducible refine H2.out.mono ?_);rintro e G ⟨rfl,O,U⟩;(have z:=lh O);(have T:Hid (Below w.heap.size w G):=N.out.trans (U.below N.out.size (fun i hi=>Nat.le_of_eq hi.symm)));clear O U)
  |(go_at_call 200;(with_reducible refine (H3.out G z.out T.out).mono ?_);rintro e w3 ⟨rfl,W⟩;(have Z:=lh W);clear W))
 go_ret;exact ⟨rfl,bt T.out Z.out⟩
def BitN (b:Int) (β:Nat):Prop:=(b=1/\β=1)∨(b=2/\β=2)∨(b=4/\β=4)
abbrev cPm (b:Int):Array Value:=#[.int .i64 b,.int .i64 32]
def lsF (β:Nat):Int:=if β=1 then 1 else if β=2 then 3 else 15
def cNI (β:Nat):Int:=if β=1 then 9 else if β=2 then 5 else 3
def mNI (β:Nat):Int:=if β=1 then 256 else if β=2 then 128 else 64
theorem olast_any (b:Int) (β:Nat) (H:BitN b β) (w:World):Calls prog 245 #[.agg (cPm b)] w fun e G=>e= .returned (.int .i64 (lsF β))/\Below w.heap.size w G:=by
 have HB:Hid (Below w.heap.size w (w.alloc (.cells (cPm b) 268))):=bl;rcases H with ⟨rfl,rfl⟩ |⟨rfl,rfl⟩ |⟨rfl,rfl⟩
 all_goals
  go_enter func245,ntmps245;go_wp2;go_ret;exact ⟨rfl,HB.out⟩
theorem ovalid_any (b:Int) (β:Nat) (H:BitN b β) (w:World):Calls prog 263 #[.agg (cPm b)] w fun e G=>e= .returned (.bool true)/\Below w.heap.size w G:=by
 have HB:Hid (Below w.heap.size w (w.alloc (.cells (cPm b) 268))):=bl;have J:∀w,(Instr.index 324 (.agg #[.int .i64 1,.int .i64 2,.int .i64 4,.int .i64 8]) (.int .i64 0)).run prog w= .ok (.int .i64 1) w:=fun _=>by kernel_rfl
 have K:∀w,(Instr.index 324 (.agg #[.int .i64 1,.int .i64 2,.int .i64 4,.int .i64 8]) (.int .i64 1)).run prog w= .ok (.int .i64 2) w:=fun _=>by kernel_rfl
 have L:∀w,(Instr.index 324 (.agg #[.int .i64 1,.int .i64 2,.int .i64 4,.int .i64 8]) (.int .i64 2)).run prog w= .ok (.int .i64 4) w:=fun _=>by kernel_rfl
 rcases H with ⟨rfl,rfl⟩ |⟨rfl,rfl⟩ |⟨rfl,rfl⟩
 all_goals
  go_enter func263,ntmps263;go_wp2;refine wp_loop_rounds 3 ?_;rw [rounds_succ];go_wp2
  (try rw [rounds_succ])
  go_wp2
  (try rw [rounds_succ])
  go_wp2;go_ret;exact ⟨rfl,HB.out⟩
theorem counts_any (b:Int) (β:Nat) (J:BitN b β) (w:World):Calls prog 264 #[.agg (cPm b)] w fun e L=>e= .returned (.tuple #[.int .i64 (mNI β),.int .i64 (cNI β)])/\Below w.heap.size w L:=by
 have HB:Hid (Below w.heap.size w (w.alloc (.cells (cPm b) 268))):=bl;have G:=lh (fun W=>olast_any b β J W);have hs:(w.alloc (.cells (cPm b) 268)).heap.size=w.heap.size+1:=by simp
 have HC:Hid (∀V,Below (w.heap.size+1) (w.alloc (.cells (cPm b) 268)) V->V.cell? ⟨w.heap.size,0,none⟩=some (.int .i64 b)/\V.cell? ⟨w.heap.size,1,none⟩=some (.int .i64 32)):=fun V M=>by
  have q:=(M.block w.heap.size (Nat.lt_succ_self _)).trans (zy w _);refine ⟨?_,?_⟩<;>(rw [cell_of_row V _ _ _ _ _ q];rfl)
 have N:=lh hs;rcases J with ⟨rfl,rfl⟩ |⟨rfl,rfl⟩ |⟨rfl,rfl⟩
 all_goals
  clear hs
  first |rw [show lsF 1=1 from rfl] at G |rw [show lsF 2=3 from rfl] at G |rw [show lsF 4=15 from rfl] at G
  go_enter func264,ntmps264;go_wp2_with (go_at_call 245;(with_reducible refine (G.out _).mono ?_);rintro e K ⟨rfl,H⟩;(have HB1:Hid (Below (w.heap.size+1) (w.alloc (.cells (cPm _) 268)) K):=N.out▸H);(have O:=HC.out K HB1.out);obtain ⟨c0,c1⟩:=O;clear H);refine wp_loop_rounds 10 ?_
  repeat (rw [rounds_succ];go_wp2)
  go_ret2;exact ⟨rfl,HB.out.trans (HB1.out.mono (Nat.le_succ _))⟩
theorem yc3 {w:World} {base base':Nat} {e:TypeId} {size:Nat} {v:Value} {n:Nat} {xs:List Value} (h:w.ownsRow base e size v n xs) (L:base'<=base):w.ownsRow base' e size v n xs:=by
 refine ⟨h.1,?_⟩;rcases h.2 with hn |⟨g,cap,H,K,J,G⟩
 ·exact .inl hn
 ·exact .inr ⟨g,cap,H,K,Nat.le_trans L J,G⟩
theorem sB_getD {s:ByteArray} {i:Nat} (h:i < s.size):(sB s).getD i 0=(s[i].toNat:Int):=by
 unfold sB;rw [List.getD_eq_getElem?_getD,List.getElem?_map,Array.getElem?_toList,Array.getElem?_eq_getElem (by exact h)];rfl
theorem dig_at {s:ByteArray} {n j:Nat} (β G:Nat) (hp:perB β=G) (h:n < s.size) (hj:j < G):dig β (sB s) (n*G+j)=s[n].toNat / 2 ^ (8 - β*(j+1)) % 2 ^ β:=by
 unfold dig;rw [hp]
 have J:(n*G+j) / G=n:=by
  rw [Nat.mul_comm,Nat.mul_add_div om,Nat.div_eq_of_lt hj,Nat.add_zero]
 have H:(n*G+j) % G=j:=by
  rw [Nat.mul_comm,Nat.mul_add_mod,Nat.mod_eq_of_lt hj]
 rw [J,H,sB_getD h];rfl
theorem band_1 {a:Nat} (h:a < 1024):bits .and .i64 (a:Int) 1=((a % 2:Nat):Int):=by
 have hall:∀a:Fin 1024,bits .and .i64 (a.val:Int) 1=((a.val % 2:Nat):Int):=by decide+kernel
 exact hall ⟨a,h⟩
theorem band_2 {a:Nat} (h:a < 1024):bits .and .i64 (a:Int) 3=((a % 4:Nat):Int):=by
 have hall:∀a:Fin 1024,bits .and .i64 (a.val:Int) 3=((a.val % 4:Nat):Int):=by decide+kernel
 exact hall ⟨a,h⟩
theorem band_4 {a:Nat} (h:a < 1024):bits .and .i64 (a:Int) 15=((a % 16:Nat):Int):=by
 have hall:∀a:Fin 1024,bits .and .i64 (a.val:Int) 15=((a.val % 16:Nat):Int):=by decide+kernel
 exact hall ⟨a,h⟩
theorem band_any {β P L C M T:Nat} (G:(β=1/\P=8/\L=1/\C=9/\M=256/\T=265)∨(β=2/\P=4/\L=3/\C=5/\M=128/\T=133)∨(β=4/\P=2/\L=15/\C=3/\M=64/\T=67)) {a:Nat} (h:a < 1024):bits .and .i64 (a:Int) (L:Int)=((a % 2 ^ β:Nat):Int):=by
 rcases G with ⟨rfl,rfl,rfl,rfl,rfl,rfl⟩ |⟨rfl,rfl,rfl,rfl,rfl,rfl⟩ |⟨rfl,rfl,rfl,rfl,rfl,rfl⟩
 ·exact band_1 h
 ·exact band_2 h
 ·exact band_4 h
theorem digits_any (b:Int) (β:Nat) (hb:BitN b β) (s:ByteArray) (hs:s.size=32) (w:World):
 Calls prog 243 #[.agg (cPm b),.string s] w fun e w'=>∃v,e= .returned (.tuple #[v,.int .i64 0])/\Own I 3 w' w.heap.size v (dgF β (sB s))/\Below w.heap.size w w':=by
 obtain ⟨P,L,C,M,T,aJ⟩:∃P L C M T:Nat,(β=1/\P=8/\L=1/\C=9/\M=256/\T=265)∨(β=2/\P=4/\L=3/\C=5/\M=128/\T=133)∨(β=4/\P=2/\L=15/\C=3/\M=64/\T=67):=by
  rcases hb with ⟨_,rfl⟩ |⟨_,rfl⟩ |⟨_,rfl⟩
  ·exact ⟨8,1,9,256,265,.inl ⟨rfl,rfl,rfl,rfl,rfl,rfl⟩⟩
  ·exact ⟨4,3,5,128,133,.inr (.inl ⟨rfl,rfl,rfl,rfl,rfl,rfl⟩)⟩
  ·exact ⟨2,15,3,64,67,.inr (.inr ⟨rfl,rfl,rfl,rfl,rfl,rfl⟩)⟩
 obtain rfl:b=(β:Int):=by rcases hb with ⟨rfl,rfl⟩ |⟨rfl,rfl⟩ |⟨rfl,rfl⟩<;>rfl
 have HCS:=lh aJ;clear aJ;have bE:β<=4:=yaG;have bJ:1<=β:=yaG;have bC:L<=15:=yaG;have bG:C<=9:=yaG;have br:M<=256:=yaG;have ah:Hid (2 ^ β=L+1):=yaJ;obtain ⟨i0,hi,aH,aY,aP⟩:=info_parts Tryz.info3;have HI:=lh hi;have aA:=lh aH;have aB:=lh aY;have aq:=lh aP;have HB:Hid (Below w.heap.size w (w.alloc (.cells (cPm (β:Int)) 268))):=bl;have HL:=lh (fun W=>olast_any _ β hb W);have bm:=lh (fun W=>ovalid_any _ β hb W);have a0:=lh (fun W=>counts_any _ β hb W);obtain ⟨H,ac⟩:∃H:World,H=w.alloc (.cells (cPm (β:Int)) 268):=⟨_,rfl⟩
 have aE:H.heap.size=w.heap.size+1:=by rw [ac];simp
 have aV:H.heap[w.heap.size]? =some (.cells (cPm (β:Int)) 268 (0,0)):=by rw [ac];exact zy w _
 have HC:Hid (∀V,Below (w.heap.size+1) H V->V.cell? ⟨w.heap.size,0,none⟩=some (.int .i64 (β:Int))/\V.cell? ⟨w.heap.size,1,none⟩=some (.int .i64 32)):=fun V hv=>by
  have q:=(hv.block w.heap.size (Nat.lt_succ_self _)).trans aV;refine ⟨?_,?_⟩<;>(rw [cell_of_row V _ _ _ _ _ q];rfl)
 rw [<-ac] at HB;have HS:=lh aE;have HWE:=lh ac;have bD:(s.size:Int)=32:=by omega
 have bB:((s.size:Int) != 32)=false:=by simp [hs]
 have bp:=lh hs;clear aV aE hi aH aY aP ac hs;rw [show lsF β=(L:Int) from yaJ] at HL;rw [show mNI β=(M:Int) from yaJ,show cNI β=(C:Int) from yaJ] at a0;obtain ⟨c0,c1⟩:=HC.out H bR;have HM:Hid ((M:Int)+(C:Int)=((T:Nat):Int)):=yaJ;have hT:T<=265:=yaG;have aW:Hid (i0.bytes*T<=281474976710656):=by show _<=_;rw [aq.out];omega
 have aZ:Hid (T<=maxLen):=by show _<=_;unfold maxLen;omega
 go_enter func243,ntmps243;go_upto_region 1 with fail
 rw [<-HWE.out]
 go_upto_region 7 with (first
  |(go_at_call 263;(with_reducible refine (bm.out _).mono ?_);rintro e w1 ⟨rfl,am⟩;(have HB1:Hid (Below (w.heap.size+1) H w1):=HS.out▸am);(obtain ⟨c0,c1⟩:=HC.out w1 HB1.out);clear am)
  |(go_at_call 264;(with_reducible refine (a0.out _).mono ?_);rintro e w2 ⟨rfl,aK⟩;(have ai:Hid (Below (w.heap.size+1) H w2):=HB1.out.trans (aK.mono (HS.out▸HB1.out.size)));(obtain ⟨c0,c1⟩:=HC.out w2 ai.out);clear aK)
  |(at_make;(refine wpList_make_own w2 (o:=⟨some 32,_,_,_,_,_⟩) rfl _ _ 27 rfl (w.heap.size+1) 3 i0 (.int .i64 0) 1 underlying27 HI.out aA.out aB.out _ _ _ T rfl rfl HM.out aW.out aZ.out (HS.out▸ai.out.size) ?_);intro w3 aN aL;(have bo:Hid (Own I 3 w3 (w.heap.size+1) (.slice (some ⟨w2.heap.size,0,none⟩) 0 T) []):=aN)))
 have bg:Hid (Below (w.heap.size+1) H w3):=ai.out.trans (ybm aL (fun k hk=>by cases hk) (HS.out▸ai.out.size));clear aN aL HM aW aZ hT
 go_loopw [8,9,35] (fun v k i wr=>∃n:Nat,n<=32/\i= .int .i64 n/\(∃c:Nat,k= .int .i64 c/\c<=960/\Hid (cks β (sB s) (n*P)=c))/\Hid (Own I 3 wr (w.heap.size+1) v (digs β (sB s) (n*P)))/\Hid (Below (w.heap.size+1) H wr)) (fun _ _ i _=>32 - (intOf i).toNat)
 case atStart=>exact ⟨0,by omega,rfl,⟨0,rfl,by omega,(by show _=_;rw [Nat.zero_mul];rfl)⟩,(by show Own ..;rw [Nat.zero_mul];exact bo.out),bg⟩
 case round=>
  obtain ⟨n,hn,rfl,⟨c,rfl,al,HK⟩,N,HBr⟩:=hrel
  by_cases hlt:n < 32
  ·
   have a2:(n:Int) < 32:=by omega
   obtain ⟨c0,c1⟩:=HC.out wr HBr.out;go_upto_region 10 with fail
   have aQ:Hid (Own I 3 wr (w.heap.size+1) u8 (digs β (sB s) (n*P+0))):=N;have aM:Hid ((8:Int) - (β:Int)=8 - ((β*(0+1):Nat):Int)):=by show _=_;rw [Nat.zero_add,Nat.mul_one]
   have aS:Hid (cks β (sB s) (n*P+0)=c):=HK;obtain ⟨wo,rfl⟩:∃wo:World,wo=wr:=⟨_,rfl⟩
   go_loopw [8,9,11] (fun v k i wr=>∃j:Nat,j<=P/\i= .int .i64 (8 - ((β*(j+1):Nat):Int))/\(∃c:Nat,k= .int .i64 c/\c<=960/\Hid (cks β (sB s) (n*P+j)=c))/\Hid (Own I 3 wr (w.heap.size+1) v (digs β (sB s) (n*P+j)))/\Hid (Below (w.heap.size+1) H wr)) (fun _ _ i _=>(intOf i+1).toNat)
   case atStart=>exact ⟨0,by omega,congrArg (Value.int .i64) aM.out,⟨c,rfl,al,aS⟩,aQ,HBr⟩
   case round=>
    clear aQ aS N HK HBr al aM;obtain ⟨j,hj,rfl,⟨c,rfl,al,HK⟩,N,HBr⟩:=hrel;obtain ⟨c0,c1⟩:=HC.out wr HBr.out;have bi:Hid (β*(j+1+1)=β*(j+1)+β):=Nat.mul_succ β (j+1)
    by_cases a4:j < P
    ·
     obtain ⟨G,Y⟩:∃G:Nat,G=8 - β*(j+1):=⟨_,rfl⟩
     have aG:β*(j+1)<=8:=yaG;have z:(8 - ((β*(j+1):Nat):Int))=(G:Int):=by omega
     have aO:=lh Y;rw [z];have am:1<=β*(j+1):=yaG;have bw:G<=7:=by omega
     have bq:n < s.size:=by rw [bp.out];exact hlt
     obtain ⟨x,hx⟩:∃x:Nat,s[n].toNat=x:=⟨_,rfl⟩
     have bu:x<=255:=by have:=s[n].toNat_lt;omega
     have be:IntKind.i64.wrap (x:Int)=x:=IntWalk.i64_in _ om;obtain ⟨d,hd⟩:∃d:Nat,dig β (sB s) (n*P+j)=d:=⟨_,rfl⟩
     have O:d=x / 2 ^ G % 2 ^ β:=by rw [<-hd,dig_at β P yaJ bq a4,hx,Y]
     have bf:d<=L:=by rw [O];have h1:=Nat.mod_lt (x / 2 ^ G) (Nat.two_pow_pos β);rw [ah.out] at h1 ⊢;exact Nat.le_of_lt_succ h1
     have ap:bits .and .i64 ((x:Int) / 2 ^ G) (L:Int)=(d:Int):=by
      have h1:x / 2 ^ G < 1024:=Nat.lt_of_le_of_lt (Nat.div_le_self _ _) om;rw [O];have h2:=band_any HCS.out h1;simpa using h2
     have HD:=lh hd
     have aD:Hid (cks β (sB s) (n*P+(j+1))=c+(L - d)):=by
      show _=_;rw [<-Nat.add_assoc,cks,HK.out,hd,ah.out,Nat.add_sub_cancel]
     have a6:c+(L - d)<=960:=by
      have h1:=cks_le β (sB s) (n*P+(j+1));rw [aD.out,ah.out,Nat.add_sub_cancel] at h1;exact lT h1 yaG
     have ak:Hid (digs β (sB s) (n*P+(j+1))=digs β (sB s) (n*P+j)++[(d:Int)]):=by
      show _=_;rw [<-Nat.add_assoc,digs_succ,hd]
     have a7:n*P+j<=256:=yaG;have ao:Hid (((digs β (sB s) (n*P+j)).length+1)*8<=140737488355328):=by show _<=_;rw [ycM];omega
     have aw:Hid ((digs β (sB s) (n*P+j)).length+1<=maxLen):=by show _<=_;rw [ycM];unfold maxLen;omega
     have HBc:=HBr;have ae:Hid (w.heap.size+1<=wr.heap.size):=HS.out▸HBr.out.size;clear Y z O hd HK a7 aG am;go_upto_region 12 with fail
     refine rH (S:=(fun w'=>w'.cell? ⟨w.heap.size,0,none⟩=some (.int .i64 (β:Int))/\w'.cell? ⟨w.heap.size,1,none⟩=some (.int .i64 32))) ybi yar (fun Z=>?_)
     (iterate 7 refine tkA ?_)
     refine rd1 7 (fun K U=>?_)
     (go_simp;go_at_call 245;(with_reducible refine (HL.out _).mono ?_);rintro e w4 ⟨rfl,J⟩;(have HBc:Hid (Below (w.heap.size+1) H w4):=HBr.out.trans (Below.mono (Below.trans (B:=wr.heap.size) yaH J) ae.out));(have HS4:Hid (w.heap.size+1<=w4.heap.size):=lT ae.out J.size);(have aj:Hid (Own I 3 w4 (w.heap.size+1) u8 (digs β (sB s) (n*P+j))):=N.out.on (Below.trans (B:=wr.heap.size) yaH J));clear J;go_wp2_with fail)
     refine U.out _ _ yar (fun a1=>?_);clear U K Z
     try simp only [pt]
     (iterate 2 refine tkA ?_)
     refine wpAnyH_done ybi ?_ _;clear ap be;obtain ⟨c0,c1⟩:=HC.out w4 HBc.out;go_upto_region 14 with (at_builtin;(with_reducible refine ybw (o:=⟨some 59,_,_,_,_,_⟩) rfl (.tmp 56) (.tmp 58) 27 rfl 3 i0 (.int .i64 0) 8 underlying27 HI.out aA.out aB.out aq.out rfl _ (digs β (sB s) (n*P+j)) (w.heap.size+1) rfl aj.out (d:Int) 1 rfl I1 ao.out aw.out HS4.out ?_);intro v5 w5 a5 HG5 bI;(have az:Hid (Below (w.heap.size+1) H w5):=HBc.out.trans (ybm HG5.out (fun j hj=>(ol aj.out j hj).1) HS4.out)))
     obtain ⟨c0,c1⟩:=HC.out w5 az.out;have aT:(c:Int)+((L:Int) - (d:Int))=((c+(L - d):Nat):Int):=by omega
     have bz:((L:Int) - (d:Int))<=15:=by omega
     have bx:0<=((L:Int) - (d:Int)):=by omega
     have a8:=lh aT;clear aT;go_wp2_with (go_at_call 245;(with_reducible refine (HL.out _).mono ?_);rintro e w6 ⟨rfl,au⟩;(have HB6:Hid (Below (w.heap.size+1) H w6):=az.out.trans (au.mono (HS.out▸az.out.size)));(have bh:Hid (Own I 3 w6 (w.heap.size+1) v5 (digs β (sB s) (n*P+(j+1)))):=ak.out▸(a5.out.on au));(obtain ⟨c0,c1⟩:=HC.out w6 HB6.out);clear au);refine ⟨?rel,?measure⟩;case rel=>exact ⟨j+1,by omega,by (have:=aO.out;have:=bi.out;have aG:β*(j+1)<=8:=yaG;refine congrArg (Value.int .i64) ?_;omega),⟨c+(L - d),by rw [a8.out],a6,aD⟩,bh,HB6⟩
     case measure=>(have:=aO.out;simp [intOf]<;>omega)
    ·obtain rfl:P=j:=by omega
     have aa:Hid (Own I 3 wr (w.heap.size+1) u8 (digs β (sB s) ((n+1)*P))):=by show Own ..;rw [Nat.succ_mul];exact N.out
     have bk:Hid (cks β (sB s) ((n+1)*P)=c):=by show _=_;rw [Nat.succ_mul];exact HK.out
     have a3:¬(0:Int)<=8 - (β:Int)*((P:Int)+1):=yaG;go_wp2;refine ⟨?rel,?measure⟩;case rel=>exact ⟨n+1,by omega,by go_num,⟨c,rfl,al,bk⟩,aa,HBr⟩
     case measure=>(simp [intOf]<;>omega)
  ·
   obtain rfl:n=32:=by omega
   have aR:Hid (32*P=M):=yaJ;have aC:Hid (Own I 3 wr (w.heap.size+1) u8 (digs β (sB s) M)):=by have h:=N.out;rw [aR.out] at h;exact h
   have bb:Hid (cks β (sB s) M=c):=by have h:=HK.out;rw [aR.out] at h;exact h
   clear N HK;have a2:¬((32:Nat):Int) < 32:=by omega
   obtain ⟨c0,c1⟩:=HC.out wr HBr.out;go_upto_region 17 with fail
   have aF:Hid (Own I 3 wr (w.heap.size+1) u8 (digs β (sB s) M++cdigs β C c 0)):=by show Own ..;rw [show cdigs β C c 0=[] from rfl,List.append_nil];exact aC.out
   obtain ⟨wo,rfl⟩:∃wo:World,wo=wr:=⟨_,rfl⟩
   go_loopw [8,13] (fun v i wr=>∃j:Nat,j<=C/\i= .int .i64 ((C:Int) - 1 - (j:Int))/\Hid (Own I 3 wr (w.heap.size+1) v (digs β (sB s) M++cdigs β C c j))/\Hid (Below (w.heap.size+1) H wr)) (fun _ i _=>(intOf i+1).toNat)
   case atStart=>exact ⟨0,by omega,by simp,aF,HBr⟩
   case round=>
    clear aF HBr aC c0 c1;obtain ⟨j,hj,rfl,N,HBr⟩:=hrel;obtain ⟨c0,c1⟩:=HC.out wr HBr.out
    by_cases bH:j < C
    ·
     obtain ⟨pl,ar⟩:∃pl:Nat,pl=C - 1 - j:=⟨_,rfl⟩
     have ax:((C:Int) - 1 - (j:Int))=(pl:Int):=by omega
     have aI:=lh ar;have bA:pl<=8:=by omega
     obtain ⟨G,Y⟩:∃G:Nat,G=β*pl:=⟨_,rfl⟩
     have z:(pl:Int)*(β:Int)=(G:Int):=by rw [Y,Int.mul_comm];simp
     have bv:G<=32:=yaG;have a9:IntKind.i64.wrap (G:Int)=G:=IntWalk.i64_in _ om;rw [ax];obtain ⟨d,hd⟩:∃d:Nat,cdig β C c j=d:=⟨_,rfl⟩
     have O:d=c / 2 ^ G % 2 ^ β:=by rw [<-hd,Y,ar];rfl
     have bf:d<=L:=by rw [O];have h1:=Nat.mod_lt (c / 2 ^ G) (Nat.two_pow_pos β);rw [ah.out] at h1 ⊢;exact Nat.le_of_lt_succ h1
     have ap:bits .and .i64 ((c:Int) / 2 ^ G) (L:Int)=(d:Int):=by
      have h1:c / 2 ^ G < 1024:=Nat.lt_of_le_of_lt (Nat.div_le_self _ _) om;rw [O];have h2:=band_any HCS.out h1;simpa using h2
     have ak:Hid (digs β (sB s) M++cdigs β C c (j+1)=(digs β (sB s) M++cdigs β C c j)++[(d:Int)]):=by
      show _=_;rw [cdigs_succ,hd,List.append_assoc]
     obtain ⟨ls,ay⟩:=gX (digs β (sB s) M++cdigs β C c j);have aX:Hid (ls.length=M+j):=by show _=_;rw [<-ay,List.length_append,ycM,cdigs_len]
     rw [ay] at N ak;have ao:Hid ((ls.length+1)*8<=140737488355328):=by show _<=_;rw [aX.out];omega
     have aw:Hid (ls.length+1<=maxLen):=by show _<=_;rw [aX.out];unfold maxLen;omega
     have HBc:=HBr;have ae:Hid (w.heap.size+1<=wr.heap.size):=HS.out▸HBr.out.size;clear Y O hd ar ax ay;go_upto_region 19 with fail
     refine rH (S:=(fun w'=>w'.cell? ⟨w.heap.size,0,none⟩=some (.int .i64 (β:Int))/\w'.cell? ⟨w.heap.size,1,none⟩=some (.int .i64 32))) ybi yah (fun Z=>?_)
     (iterate 8 refine tkA ?_)
     refine rd1 8 (fun K U=>?_)
     (go_simp;go_at_call 245;(with_reducible refine (HL.out _).mono ?_);rintro e w4 ⟨rfl,J⟩;(have HBc:Hid (Below (w.heap.size+1) H w4):=HBr.out.trans (Below.mono (Below.trans (B:=wr.heap.size) yaH J) ae.out));(have HS4:Hid (w.heap.size+1<=w4.heap.size):=lT ae.out J.size);(have aj:Hid (Own I 3 w4 (w.heap.size+1) u8 (ls)):=N.out.on (Below.trans (B:=wr.heap.size) yaH J));clear J;go_wp2_with fail)
     refine U.out _ _ yah (fun ag=>?_);clear U K Z
     try simp only [pt]
     refine tkY 9 ?_;refine rd1 10 (fun K U=>?_);go_simp;refine U.out _ _ yah (fun af=>?_);clear U K ag
     try simp only [pt]
     refine rd1 11 (fun K U=>?_)
     ((refine ycC (f:=I) (.tmp 73) (.tmp 83) 27 rfl rfl 3 i0 (.int .i64 0) 8 underlying27 HI.out aA.out aB.out aq.out rfl ls (w.heap.size+1) ?hown [(d:Int)] ?hrow I1 ao.out aw.out ?hbase ?_);(case hown=>exact aj.out.alloc _);(case hrow=>exact ⟨_,_,1,1,rfl,rfl,SL.of_block (t:=3) (fr:=(0,0)) (zy _ _) (Nat.lt_succ_self _)⟩);(case hbase=>have:=HS4.out;simp;omega);(intro v7 w7 bj HG7 bF HB7);(have HBd:Hid (Below (w.heap.size+1) H w7):=HB7.out (w.heap.size+1) H (HBc.out.alloc HS4.out _) nl))
     refine U.out _ _ yah (fun aU=>?_);clear U K af
     try simp only [pt]
     refine tkY 12 ?_;refine wpAnyH_done ybi ?_ _;clear ap z a9;obtain ⟨c0,c1⟩:=HC.out w7 HBd.out;have aa:Hid (Own I 3 w7 (w.heap.size+1) v7 (digs β (sB s) M++cdigs β C c (j+1))):=ak.out▸bj.out;go_wp2;refine ⟨?rel,?measure⟩;case rel=>exact ⟨j+1,by omega,(by (have:=aI.out;refine congrArg (Value.int .i64) ?_;omega)),aa,HBd⟩
     case measure=>(have:=aI.out;simp [intOf]<;>omega)
    ·obtain rfl:C=j:=by omega
     have aa:Hid (Own I 3 wr (w.heap.size+1) u8 (dgF β (sB s))):=by
      show Own ..
      have h:dgF β (sB s)=digs β (sB s) M++cdigs β C c C:=by
       rw [<-bb.out];unfold dgF;rw [show mN β=M from yaJ,show cN β=C from yaJ]
      rw [h];exact N.out
     have a3:¬(0:Int)<=(C:Int) - 1 - (C:Int):=by omega
     go_wp2;go_ret2;exact ⟨_,rfl,yc3 aa.out (Nat.le_succ _),HB.out.trans (HBr.out.mono (Nat.le_succ _))⟩
