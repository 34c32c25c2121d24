import Derived.Test.YtpdledjgbgalcaaGreatDoorPd
import Derived.Test.YtpdledjgbgalcaaGreatDoorPe
namespace Go.Proofs.YtpdledjgbgalcaaGreatDoor
set_option maxRecDepth 100000
set_option maxHeartbeats 4000000
open Go.RowKit Go.Lib Go.Proofs.Tryz
set_option linter.unusedVariables false
set_option linter.unusedSimpArgs false
def inB (p:Int):Bool:=decide (0<=p/\p<=11)
theorem yb5 (x a b:Int) (w:World):Calls prog 42 #[.int .i64 x,.int .i64 a,.int .i64 b] w fun e G=>e= .returned (.bool (decide (a<=x/\x<=b)))/\w=G:=by
 by_cases h1:a<=x
 ·by_cases h2:x<=b
  ·go_enter func42,ntmps42;go_wp2;go_ret;exact ⟨ybg (by simp [h1,h2]),rfl⟩
  ·go_enter func42,ntmps42;go_wp2;go_ret;exact ⟨ybg (by simp [h1,h2]),rfl⟩
 ·go_enter func42,ntmps42;go_wp2;go_ret
  exact ⟨ybg (by have:¬a<=x:=by omega
                 simp [this]),rfl⟩
theorem apU_any (n:Nat) (w:World) (hn:n < 18446744073709551616):
 Calls prog 70 #[.slice none 0 0,.int .u64 n] w fun e G=>∃v,e= .returned v/\Own fB 5 G w.heap.size v (enc n)/\Below w.heap.size w G:=by
 obtain ⟨i0,hi,K,N,O⟩:=info_parts Tryz.infoB;have HI:=lh hi;have T:=lh K;have Y:=lh N;have Z:=lh O
 have HC:Hid (∀v W,Own fB 5 W w.heap.size v []->Below w.heap.size w W->Calls prog 135 #[v,.int .u64 n] W fun e G=>∃J,e= .returned J/\Own fB 5 G w.heap.size J (enc n)/\Below w.heap.size w G):=fun v W z H=>
  (ycY v [] n W w.heap.size z H.size hn sI).mono (fun e G ⟨J,h1,h2,h3,_⟩=>⟨J,h1,h2,H.trans (h3.below H.size (fun i hi=>(ol z i hi).1))⟩)
 clear hi K N O;go_enter func70,ntmps70
 go_wp2_with (first
  |(at_make
    refine wpList_make_own w (o:=⟨some 8,_,_,_,_,_⟩) rfl _ _ 40 rfl w.heap.size 5 i0 (.int .u8 0) 1 underlying40 HI.out T.out Y.out _ _ 10 10 rfl rfl rfl (by rw [Z.out];decide) ya5 nl ?_;intro w1 M L;have U:Hid (Own fB 5 w1 w.heap.size (.slice (some ⟨w.heap.size,0,none⟩) 0 10) []):=M;have HB1:Hid (Below w.heap.size w w1):=ybe L (fun k hk=>by cases hk) nl;have HS1:Hid (w.heap.size<=w1.heap.size):=HB1.out.size
    clear M L)
  |(go_at_call 135;(with_reducible refine (HC.out _ w1 U.out HB1.out).mono ?_);rintro e w3 ⟨v3,rfl,ho,H⟩))
 go_ret;exact ⟨_,rfl,ho,H⟩
theorem encV_len (xs:List Int) (h:ybs xs=true):(encV xs).length<=130:=by
 unfold encV;have h1:=ybm (nrm xs).length;have h2:=encL_len (nrm xs);have H:=nrm_len xs;have G:=valid_len h;rw [List.length_append];omega
theorem encV_byt (xs:List Int):Byt (encV xs):=by
 unfold encV;refine Byt.app (ybG _) ?_;intro b hb;obtain ⟨x,_,h⟩:=List.mem_flatMap.1 hb;exact ybG _ b h
theorem enc_small {p:Nat} (h:p < 128):enc p=[(p:Int)]:=by simp [enc,encF,h]
theorem numF_small {p:Nat} (h:p < 128) (bs:List Int):numF ((p:Int)::bs) 10 0 0 0=((p:Int),0,1):=by
 have h1:¬(128:Int)<=(p:Int):=by omega
 have h2:(p:Int) % 128=p:=by omega
 simp [numF,h1,h2]
def MeetPost (p:Int) (xs:List Int) (w:World) (e:Ending) (w':World):Prop:=
 ((inB p&&ybs xs)=true/\Slc2 fB (p::encV xs) 0 w e w')∨((inB p&&ybs xs)=false/\e= .returned (.tuple #[.slice none 0 0,.int .i64 1])/\Below w.heap.size w w')
theorem emeet_any (p:Int) (A:Option Addr) (n:Nat) (xs:List Int) (c:Nat) (w:World) (B:Nat) (hx:Sl I w B A n xs) (hB:B<=w.heap.size) (hl:n<=1000000):
 Calls prog 31 #[.int .i64 p,.slice A n c] w (MeetPost p xs w):=by
 obtain ⟨i0,hi,N,Z,z⟩:=info_parts Tryz.infoB;have HI:=lh hi;have ai:=lh N;have ao:=lh Z;have ap:=lh z;have HC:=lh (encode_any A n xs c w B hx hB hl);have M:=lh (fun W=>yb5 p 0 11 W);clear hi N Z z hx
 by_cases hp:0<=p/\p<=11
 ·obtain ⟨q,rfl⟩:∃q:Nat,p=(q:Int):=⟨p.toNat,by omega⟩
  have hd:decide ((0:Int)<=(q:Int)/\(q:Int)<=11)=true:=decide_eq_true hp;have hq:q < 128:=by omega
  have L:Hid (inB (q:Int)=true):=hd;have HQ:Hid (enc q=[(q:Int)]):=enc_small hq;rw [hd] at M;have au:(q:Int) % 18446744073709551616=(q:Int):=by omega
  have ah:=lh (fun W=>apU_any q W om);clear hp hd;go_enter func31,ntmps31
  go_upto_region 4 with (first
   |(go_at_call 42;(with_reducible refine (M.out _).mono ?_);rintro e w1 ⟨rfl,rfl⟩)
   |(go_at_call 69;(with_reducible refine HC.out.mono ?_)
     rintro e w1 (⟨K,A1,n1,c1,rfl,ak,G,H⟩ |⟨K,A1,n1,c1,rfl,ak,G,H⟩)))
  ·have HV:=lh K;have HB1:=lh H;have HS1:=lh G;have aw:=encV_len xs K;have ax:Hid ((encV xs).length=n1):=G.1;clear K H G
   go_wp2_with (first
    |(go_at_call 70;(with_reducible refine (ah.out _).mono ?_);rintro e w2 ⟨v2,rfl,O,J⟩
      have Y:=lh O;have ag:=lh J;have aa:Hid (Sl fB w2 w1.heap.size A1 n1 (encV xs)):=HS1.out.up J nl;have ae:Hid (((enc q).length+(encV xs).length)*1<=140737488355328):=by show _<=_;have:=ybm q;omega
      have aj:Hid ((enc q).length+(encV xs).length<=maxLen):=by show _<=_;have:=ybm q;unfold maxLen;omega
      have U:Hid (w1.heap.size<=w2.heap.size):=J.size
      clear O J)
    |(at_builtin;(with_reducible refine ybD (o:=⟨some 22,_,_,_,_,_⟩) rfl (.tmp 20) (.tmp 21) 40 rfl 5 i0 (.int .u8 0) 1 underlying40 HI.out ai.out ao.out ap.out rfl _ (enc q) w1.heap.size rfl Y.out _ _ _ w1.heap.size (encV xs) rfl aa.out fB1 ae.out aj.out U.out ?_);intro v3 w3 aq HG3 ar
      have am:Hid (Below w1.heap.size w1 w3):=ag.out.trans (ybe HG3.out (fun j hj=>(ol Y.out j hj).1) U.out)))
   go_ret2;obtain ⟨A3,c3,af,ac,T,_⟩:=aq.out.shape;refine .inl ⟨by rw [L.out,HV.out];rfl,A3,(enc q++encV xs).length,c3,by rw [<-af];rfl,ac,⟨by rw [HQ.out];rfl,?_⟩,bt HB1.out am.out⟩;rw [HQ.out] at T;exact T
  ·have HV:=lh K;have HB1:=lh H;clear K H G;go_wp2;go_ret2;exact .inr ⟨by rw [HV.out,Bool.and_false],rfl,HB1.out⟩
 ·have hd:decide ((0:Int)<=p/\p<=11)=false:=decide_eq_false hp;have L:Hid (inB p=false):=hd;rw [hd] at M;clear hp hd HC;go_enter func31,ntmps31
  go_wp2_with (first
   |(go_at_call 42;(with_reducible refine (M.out _).mono ?_);rintro e w1 ⟨rfl,rfl⟩))
  go_ret2;exact .inr ⟨by rw [L.out];rfl,rfl,Below.refl _ _⟩
theorem ydS {w:World} {b:Nat} {t:TypeId} {fr:Nat × Nat} {s:ByteArray} {cap B:Nat} (h:w.heap[b]? =some (.cells (bytesRow s cap) t fr)) (J:b < B):Sl fB w B (some ⟨b,0,none⟩) s.size (sB s):=
 ⟨ybI s,fun _=>⟨b,0,rfl,J,fun k x G=>by
     rw [Nat.zero_add,cell_of_row w b k _ _ _ h];unfold sB at G;rw [List.getElem?_map,Array.getElem?_toList] at G
     have H:k < s.data.size:=by
      rcases Nat.lt_or_ge k s.data.size with c |c
      ·exact c
      ·rw [Array.getElem?_eq_none c] at G;cases G
     rw [Array.getElem?_eq_getElem H] at G;cases G
     exact bytesRow_at s cap k H⟩⟩
theorem yb0 {w:World} {ops:Array Oper} {G:List Oper} {o:Oper} {a:Act} {Q:Exit->Act->World->Prop} (H:o.guard=none) (x:Operand) (L:o.op= .convert 9 40 x) (s:ByteArray) (J:a.eval x= .string s)
 (h:∀c W,Hid (Sl fB W W.heap.size (some ⟨w.heap.size,0,none⟩) s.size (sB s))->Hid (s.size<=c)->Hid (Below w.heap.size w W)->wpList prog ops Q G (a.put o.dst (.slice (some ⟨w.heap.size,0,none⟩) s.size c)) W):wpList prog ops Q (o::G) a w:=by
 refine wpList_plain H fun _ K=>?_;unfold Oper.wp execOp;simp only [L,J,Sem.run_bind,run_bytes_of_string (P:=prog) w 9 40 5 s underlying9 underlying40 underlying5,Result.andThen_ok];refine K _ _ (h _ _ (ydS (zy w.drew _) sI) (grownCap_ge w s.size 0 _) ?_);exact (Below.drew bR).alloc nl _
def jnL (ps:List ByteArray):List Int:=ps.flatMap sB
theorem yd6 (ps:List ByteArray) (x:ByteArray):jnL (ps++[x])=jnL ps++sB x:=by simp [jnL]
theorem ycN (ps:List ByteArray):Byt (jnL ps):=fun x hx=>by
 obtain ⟨s,_,h2⟩:=List.mem_flatMap.1 hx;exact ycw s x h2
theorem jnL_take_le (ps:List ByteArray) (k:Nat):(jnL (ps.take k)).length<=(jnL ps).length:=by
 have h:jnL ps=jnL (ps.take k)++jnL (ps.drop k):=by
  unfold jnL;rw [<-List.flatMap_append,List.take_append_drop]
 rw [h,List.length_append];omega
theorem mjoin_any (A:Option Addr) (n c B:Nat) (ps:List ByteArray) (w:World) (G:Glob w) (hx:Sl fT w B A n ps) (hB:B<=w.heap.size) (hn:n<=1000000) (hl:(jnL ps).length<=549755813887):
 Calls prog 209 #[.slice A n c] w fun e K=>e= .returned (.string (baOf (shaB (jnL ps))))/\Below w.heap.size w K:=by
 have ak:=lh (stNew_any w G);have HX:=lh hx;have HXN:Hid (ps.length=n):=hx.1;have ao:=lh hB;have HL:=lh hl
 have H2:Hid (∀w1 bs x L W,St W w.heap.size bs->Below w.heap.size w W->w.heap.size < w1->Sl fB W W.heap.size (some ⟨w1,0,none⟩) x.size (sB x)->x.size<=L->(bs++sB x).length<=549755813887->Calls prog 199 #[.pointer (some ⟨w.heap.size,0,none⟩),.slice (some ⟨w1,0,none⟩) x.size L] W fun e K=>e= .returned (.tuple #[])/\St K w.heap.size (bs++sB x)/\But (fun k=>k=w.heap.size) W K):=fun w1 bs x L W hs N hlt H hc ai=>
  ycM w.heap.size bs (sB x) _ x.size L W.heap.size W hs H hc nl (ycw x) (fun a ha=>by injection ha with ha;subst ha;exact Nat.ne_of_gt hlt) (by rw [List.length_append] at ai;omega) (G.on N).1 (G.on N).2.2 (Nat.ne_of_gt G.2.2)
 have H3:Hid (∀W,St W w.heap.size (jnL ps)->Below w.heap.size w W->Calls prog 200 #[.pointer (some ⟨w.heap.size,0,none⟩)] W fun e K=>e= .returned (.string (baOf (shaB (jnL ps))))/\Below W.heap.size W K):=fun W h2 N=>
  sum_any w.heap.size (jnL ps) W h2 om (G.on N).1 (G.on N).2.2
 clear G hx hB hl;go_enter func209,ntmps209;go_wp2_with (go_at_call 198;(with_reducible refine ak.out.mono ?_);rintro e w0 ⟨rfl,am⟩;subst am)
 go_loopw [9] (fun i wr=>∃k:Nat,k<=n/\i= .int .i64 k/\Hid (St wr w.heap.size (jnL (ps.take k)))/\Hid (Below w.heap.size w wr)/\Hid (w.heap.size < wr.heap.size)) (fun i _=>n - (intOf i).toNat)
 case atStart=>exact ⟨0,by omega,rfl,newSt_St w,bl,by show _ < _;simp⟩
 case round=>
  obtain ⟨k,hk,rfl,z,HR,Z⟩:=hrel
  by_cases hlt:k < n
  ·obtain ⟨b1,o1,x,rfl,_,hg,hc⟩:=(HX.out.up HR.out ao.out).2.at_ (k:=k) ya3;have ap:(k:Int) < (n:Int):=by omega
   have aq:(0:Int)<=(k:Int):=by omega
   have HT:Hid (jnL (ps.take (k+1))=jnL (ps.take k)++sB x):=by show _=_;rw [ybq hg,yd6]
   have ae:Hid ((jnL (ps.take k)++sB x).length<=549755813887):=by show _<=_;rw [<-HT.out];exact lT (jnL_take_le ps (k+1)) HL.out
   clear hg
   go_wp2_with (first
    |((with_reducible refine yb0 (o:=⟨some 15,_,_,_,_,_⟩) rfl (.tmp 14) rfl x rfl ?_);intro L W1 H U J;(have M:Hid (Below w.heap.size w W1):=bt HR.out J.out);(have ag:=lh (H2.out _ (jnL (ps.take k)) x L W1 (z.out.but (But.of_below (p:=fun _=>False) J.out) (fun h=>h)) M.out Z.out H.out U.out ae.out));(have aj:Hid (wr.heap.size<=W1.heap.size):=J.out.size);clear H U J)
    |(go_at_call 199;(with_reducible refine ag.out.mono ?_);rintro e W2 ⟨rfl,Y,O⟩;(have ac:=lh Y);(have af:Hid (Below w.heap.size w W2):=M.out.trans (O.below M.out.size (fun i hi=>Nat.le_of_eq hi.symm)));(have aa:Hid (w.heap.size < W2.heap.size):=Nat.lt_of_lt_of_le (Nat.lt_of_lt_of_le Z.out aj.out) O.size);clear Y O))
   go_roundw
   case rel=>exact ⟨k+1,by omega,by go_num,by rw [HT.out];exact ac,af,aa⟩
   case measure=>simp [intOf];omega
  ·obtain rfl:k=n:=by omega
   have HE:Hid (jnL (ps.take k)=jnL ps):=by show _=_;rw [List.take_of_length_le yaX]
   rw [HE.out] at z;go_wp2_with (go_at_call 200;(with_reducible refine (H3.out _ z.out HR.out).mono ?_);rintro e w3 ⟨rfl,T⟩;have ah:=lh T;clear T);go_ret;exact ⟨rfl,bt HR.out ah.out⟩
theorem sB_app (a b:ByteArray):sB (a++b)=sB a++sB b:=by
 unfold sB;rw [ByteArray.data_append,Array.toList_append,List.map_append]
theorem ba_eqU {a b:ByteArray} (h:sB a=sB b):a=b:=by
 obtain ⟨⟨x⟩⟩:=a;obtain ⟨⟨y⟩⟩:=b;unfold sB at h;simp only at h
 congr 2
 exact List.map_inj_right (f:=fun b:UInt8=>(b.toNat:Int)) (fun u v G=>by
  have:u.toNat=v.toNat:=by omega
  exact UInt8.toNat_inj.1 this) |>.1 h
theorem baOf_snoc (ps:List ByteArray) (x:ByteArray):baOf (jnL ps)++x=baOf (jnL (ps++[x])):=by
 apply ba_eqU;rw [sB_app,ybC (ycN _),ybC (ycN _),yd6]
theorem baOf_lenU (ps:List ByteArray):(baOf (jnL ps)).size=(jnL ps).length:=by rw [<-ybI,ybC (ycN _)]
theorem rjoin_any (A:Option Addr) (n c B:Nat) (ps:List ByteArray) (w:World) (M:Sl fT w B A n ps) (hB:B<=w.heap.size) (hn:n<=1000000) (hl:(jnL ps).length<=1000000):
 Calls prog 183 #[.slice A n c] w fun e T=>e= .returned (.string (baOf (shaB (jnL ps))))/\Below w.heap.size w T:=by
 have HX:=lh M;have HXN:Hid (ps.length=n):=M.1;have Y:=lh hB;have HL:=lh hl
 have H3:Hid (∀W G L,Sl fB W W.heap.size G (baOf (jnL ps)).size (sB (baOf (jnL ps)))->Calls prog 123 #[.slice G (baOf (jnL ps)).size L] W fun e T=>e= .returned (.string (baOf (shaB (jnL ps))))/\Below W.heap.size W T):=fun W G L h=>by
  rw [ybC (ycN _)] at h;exact ydl G _ L W.heap.size (jnL ps) W h nl (by rw [baOf_lenU];omega) (ycN _)
 clear M hB hl;go_enter func183,ntmps183;go_wp2
 go_loopw [3,8] (fun u i wr=>∃k:Nat,k<=n/\i= .int .i64 k/\Hid (u= .string (baOf (jnL (ps.take k))))/\Hid (Below w.heap.size w wr)) (fun _ i _=>n - (intOf i).toNat)
 case atStart=>exact ⟨0,by omega,rfl,by show _=_;rfl,Below.refl _ _⟩
 case round=>
  obtain ⟨k,hk,rfl,O,HR⟩:=hrel
  by_cases hlt:k < n
  ·obtain ⟨b1,o1,x,rfl,_,N,hc⟩:=(HX.out.up HR.out Y.out).2.at_ (k:=k) ya3;have af:(k:Int) < (n:Int):=by omega
   have ag:(0:Int)<=(k:Int):=by omega
   have HT:Hid (baOf (jnL (ps.take k))++x=baOf (jnL (ps.take (k+1)))):=by show _=_;rw [ybq N,baOf_snoc]
   have ae:¬9223372036854775807 < (baOf (jnL (ps.take k))).size+x.size:=by
    have h1:=lT (jnL_take_le ps (k+1)) HL.out;rw [ybq N,yd6,List.length_append,ybI] at h1;rw [baOf_lenU];omega
   obtain rfl:=O.out;clear N;generalize baOf (jnL (ps.take k))=acc at HT ae;go_wp2;go_roundw;case rel=>exact ⟨k+1,by omega,by go_num,by show _=_;rw [<-HT.out],HR⟩
   case measure=>simp [intOf];omega
  ·obtain rfl:k=n:=by omega
   have HE:Hid (jnL (ps.take k)=jnL ps):=by show _=_;rw [List.take_of_length_le yaX]
   rw [HE.out] at O;obtain rfl:=O.out
   go_wp2_with (first
    |((with_reducible refine yb0 (o:=⟨some 17,_,_,_,_,_⟩) rfl (.tmp 16) rfl (baOf (jnL ps)) rfl ?_);intro cb z H aa J;(have Z:Hid (Below w.heap.size w z):=bt HR.out J.out);(have ac:=lh (H3.out z _ cb H.out));clear H aa J)
    |(go_at_call 123;(with_reducible refine ac.out.mono ?_);rintro e W2 ⟨rfl,K⟩;(have U:Hid (Below w.heap.size w W2):=bt Z.out K);clear K))
   go_ret;exact ⟨rfl,U.out⟩
def ndS (a b:ByteArray):ByteArray:=baOf (shaB (jnL [⟨#[1]⟩,a,b]))
theorem nd_sl (w:World) (a b:ByteArray):Sl fT (w.alloc (.cells #[.string ⟨#[1]⟩,.string a,.string b] 9)) (w.alloc (.cells #[.string ⟨#[1]⟩,.string a,.string b] 9)).heap.size (some ⟨w.heap.size,0,none⟩) 3 [⟨#[1]⟩,a,b]:=
 ⟨rfl,SL.of_block (t:=9) (fr:=(0,0)) (zy w _) sI⟩
theorem jn3 (a b:ByteArray):(jnL [⟨#[1]⟩,a,b]).length=1+a.size+b.size:=by
 unfold jnL;simp only [List.flatMap_cons,List.flatMap_nil,List.length_append,List.length_nil,ybI];show 1+(a.size+(b.size+0))=_;omega
theorem ycO (a b:ByteArray) (w:World) (J:Glob w) (ha:a.size<=400000) (N:b.size<=400000):
 Calls prog 168 #[.string a,.string b] w fun e M=>e= .returned (.string (ndS a b))/\Below w.heap.size w M:=by
 have G:Below w.heap.size w (w.alloc (.cells #[.string ⟨#[1]⟩,.string a,.string b] 9)):=bl;have L:=lh (mjoin_any _ 3 3 _ _ _ (J.on G) (nd_sl w a b) nl de (by rw [jn3];omega));have HB:=lh G;clear J G;go_enter func168,ntmps168;go_wp2_with (go_at_call 209;(with_reducible refine L.out.mono ?_);rintro e O ⟨rfl,H⟩;have K:=lh H;clear H);go_ret;exact ⟨rfl,bt HB.out K.out⟩
theorem ycP (a b:ByteArray) (w:World) (ha:a.size<=400000) (M:b.size<=400000):
 Calls prog 125 #[.string a,.string b] w fun e L=>e= .returned (.string (ndS a b))/\Below w.heap.size w L:=by
 have H:Below w.heap.size w (w.alloc (.cells #[.string ⟨#[1]⟩,.string a,.string b] 9)):=bl;have K:=lh (rjoin_any _ 3 3 _ _ _ (nd_sl w a b) nl de (by rw [jn3];omega));have HB:=lh H;clear H;go_enter func125,ntmps125;go_wp2_with (go_at_call 183;(with_reducible refine K.out.mono ?_);rintro e N ⟨rfl,G⟩;have J:=lh G;clear G);go_ret;exact ⟨rfl,bt HB.out J.out⟩
theorem yc1 (a b:ByteArray):(ndS a b).size=32:=by
 unfold ndS;rw [<-ybI,ybC (ycG _),ycq]
theorem len64_any (x:Nat) (G:x < 256) (w:World):Calls prog 230 #[.int .u64 x] w fun e H=>e= .returned (.int .i64 (bitLen x))/\w=H:=by
 have h1:¬(4294967296:Int)<=(x:Int):=by omega
 have h2:¬(65536:Int)<=(x:Int):=by omega
 have K:¬(256:Int)<=(x:Int):=by omega
 have J:IntKind.u8.wrap (x:Int)=x:=by unfold IntKind.wrap;simp [IntKind.bits,IntKind.signed];omega
 go_enter func230,ntmps230;go_wp2;go_ret;refine ⟨?_,rfl⟩
 have ht:∀(s:ByteArray) (h:x < s.size),s[x]=s.data.getD x 0:=fun s h=>by
  show s.data[x]=_;rw [Array.getD,dif_pos (show x < s.data.size from h)];rfl
 rw [ht];clear ht h1 h2 K J;refine congrArg (fun z:Int=>Ending.returned (Value.int .i64 z)) (?_:_=((bitLen x:Nat):Int));obtain ⟨a,rfl⟩:∃a:Fin 256,a.val=x:=⟨⟨x,G⟩,rfl⟩
 clear G
 revert a
 decide+kernel
theorem len_any (x:Nat) (J:x < 256) (w:World):Calls prog 177 #[.int .u64 x] w fun e H=>e= .returned (.int .i64 (bitLen x))/\w=H:=by
 have G:=lh (len64_any x J w);go_enter func177,ntmps177;go_wp2_with (go_at_call 230;(with_reducible refine G.out.mono ?_);rintro e w1 ⟨rfl,rfl⟩);go_ret;exact ⟨rfl,rfl⟩
def spl (n:Nat):Nat:=2 ^ (bitLen (n - 1) - 1)
theorem ycy {n:Nat} (h1:2<=n) (h2:n<=256):1<=bitLen (n - 1)/\bitLen (n - 1)<=8/\1<=spl n/\spl n < n/\n<=2*spl n:=by
 have G:∀a:Fin 257,2<=a.val->1<=bitLen (a.val - 1)/\bitLen (a.val - 1)<=8/\1<=spl a.val/\spl a.val < a.val/\a.val<=2*spl a.val:=by decide+kernel
 exact G ⟨n,by omega⟩ h1
theorem msplit_any (n:Nat) (h1:2<=n) (h2:n<=256) (w:World):Calls prog 167 #[.int .i64 n] w fun e N=>e= .returned (.int .i64 (spl n))/\w=N:=by
 obtain ⟨M,H,_⟩:=ycy h1 h2;obtain ⟨m,rfl⟩:∃m,n=m+1:=⟨n - 1,by omega⟩
 have O:IntKind.u64.wrap (m:Int)=m:=by unfold IntKind.wrap;simp [IntKind.bits,IntKind.signed];omega
 have K:=lh (len_any m om w);have T:((m+1:Nat):Int) - 1=m:=by omega
 have hs:spl (m+1)=2 ^ (bitLen m - 1):=rfl;rw [Nat.add_sub_cancel] at M H;rw [hs];obtain ⟨L,J⟩:=gx (bitLen m);rw [J] at M H K ⊢;clear hs J;have G:L=1∨L=2∨L=3∨L=4∨L=5∨L=6∨L=7∨L=8:=by omega
 rcases G with rfl |rfl |rfl |rfl |rfl |rfl |rfl |rfl
 all_goals
  go_enter func167,ntmps167;go_wp2_with (go_at_call 177;(with_reducible refine K.out.mono ?_);rintro e w1 ⟨rfl,rfl⟩);go_ret;exact ⟨by first |rfl |decide,rfl⟩
theorem rsplit_any (n:Nat) (h1:2<=n) (h2:n<=256) (w:World):Calls prog 124 #[.int .i64 n] w fun e W=>e= .returned (.int .i64 (spl n))/\w=W:=by
 obtain ⟨Y,U,_,L,K⟩:=ycy h1 h2;have hs:spl n=2 ^ (bitLen (n - 1) - 1):=rfl;obtain ⟨l,hl⟩:=gx (bitLen (n - 1) - 1);rw [hl] at hs;have aa:l<=7:=by omega
 rw [hs] at L K ⊢;obtain ⟨H,T⟩:=gx (2 ^ l);rw [T] at L K ⊢;have J:Hid (2 ^ l=H/\H < n/\n<=2*H):=⟨T,L,K⟩;clear hs hl Y U T L K;go_enter func124,ntmps124;go_wp2
 go_loopw [3] (fun i wr=>∃j:Nat,j<=l/\i= .int .i64 ((2 ^ j:Nat):Int)/\w=wr) (fun i _=>n - (intOf i).toNat)
 case atStart=>exact ⟨0,by omega,rfl,rfl⟩
 case round=>
  obtain ⟨j,hj,rfl,rfl⟩:=hrel;obtain ⟨_,L,K⟩:=J.out;have O:2 ^ j<=H:=by rw [<-J.out.1];exact Nat.pow_le_pow_right de hj
  have N:1<=2 ^ j:=Nat.one_le_two_pow;have G:2 ^ (j+1)=2 ^ j*2:=Nat.pow_succ 2 j
  by_cases hlt:j < l
  ·have z:2 ^ (j+1)<=2 ^ l:=Nat.pow_le_pow_right de hlt;obtain ⟨a,ha⟩:=gx (2 ^ j);rw [ha] at O N G ⊢;clear ha;generalize 2 ^ l=b at*;have Z:(a:Int) < (n:Int) - (a:Int):=by omega
   go_wp2;go_roundw;case rel=>exact ⟨j+1,by omega,by rw [G];go_num,by first |rfl |trivial⟩
   case measure=>simp [intOf];omega
  ·obtain rfl:j=l:=by omega
   have M:2 ^ j=H:=J.out.1;clear G O J;rw [M] at N ⊢;clear M;have Z:¬(H:Int) < (n:Int) - (H:Int):=by omega
   go_wp2;go_ret;exact ⟨rfl,rfl⟩
def perB (b:Nat):Nat:=8 / b
def dig (b:Nat) (xs:List Int) (i:Nat):Nat:=(xs.getD (i / perB b) 0).toNat / 2 ^ (8 - b*(i % perB b+1)) % 2 ^ b
def digs (b:Nat) (xs:List Int) (n:Nat):List Int:=(List.range n).map fun i=>(dig b xs i:Int)
theorem ycz (b:Nat) (xs:List Int) (n:Nat):digs b xs (n+1)=digs b xs n++[(dig b xs n:Int)]:=by
 unfold digs;rw [List.range_succ,List.map_append];rfl
theorem ybx (b:Nat) (xs:List Int) (n:Nat):(digs b xs n).length=n:=by simp [digs]
theorem dig_lt (b:Nat) (xs:List Int) (i:Nat):dig b xs i < 2 ^ b:=Nat.mod_lt _ (Nat.two_pow_pos b)
def cks (b:Nat) (xs:List Int):Nat->Nat
 |0=>0
 |n+1=>cks b xs n+(2 ^ b - 1 - dig b xs n)
theorem cks_le (b:Nat) (xs:List Int):∀n,cks b xs n<=n*(2 ^ b - 1)
 |0=>by simp [cks]
 |n+1=>by
  have:=cks_le b xs n;rw [cks,Nat.succ_mul];omega
def cdig (b c k j:Nat):Nat:=k / 2 ^ (b*(c - 1 - j)) % 2 ^ b
def cdigs (b c k n:Nat):List Int:=(List.range n).map fun j=>(cdig b c k j:Int)
theorem ych (b c k n:Nat):cdigs b c k (n+1)=cdigs b c k n++[(cdig b c k n:Int)]:=by
 unfold cdigs;rw [List.range_succ,List.map_append];rfl
theorem yck (b c k n:Nat):(cdigs b c k n).length=n:=by simp [cdigs]
theorem cdig_lt (b c k j:Nat):cdig b c k j < 2 ^ b:=Nat.mod_lt _ (Nat.two_pow_pos b)
def mN (b:Nat):Nat:=256 / b
def cN (b:Nat):Nat:=if b=1 then 9 else if b=2 then 5 else 3
def dgF (b:Nat) (xs:List Int):List Int:=digs b xs (mN b)++cdigs b (cN b) (cks b xs (mN b)) (cN b)
theorem dgF_len (b:Nat) (xs:List Int):(dgF b xs).length=mN b+cN b:=by
 unfold dgF;rw [List.length_append,ybx,yck]
theorem dgF_rng (b:Nat) (xs:List Int):∀d∈dgF b xs,0<=d/\d<=2 ^ b - 1:=by
 intro d hd;have hp:((2 ^ b:Nat):Int)=2 ^ b:=by simp
 unfold dgF digs cdigs at hd;rw [List.mem_append] at hd;rcases hd with hd |hd
 ·obtain ⟨i,_,rfl⟩:=List.mem_map.1 hd;have:=dig_lt b xs i;omega
 ·obtain ⟨i,_,rfl⟩:=List.mem_map.1 hd;have:=cdig_lt b (cN b) (cks b xs (mN b)) i;omega
def bitN (xs:List Int) (i:Nat):Nat:=(xs.getD (i / 8) 0).toNat / 2 ^ (7 - i % 8) % 2
def rdg (b:Nat) (xs:List Int) (i:Nat):Nat->Nat
 |0=>0
 |k+1=>2*rdg b xs i k+bitN xs (i*b+k)
theorem rdg_eq (b:Nat) (xs:List Int) (i:Nat) (O:b=1∨b=2∨b=4) (M:∀x∈xs,0<=x/\x < 256):rdg b xs i b=dig b xs i:=by
 have K:∀q,(xs.getD q 0).toNat < 256:=fun q=>by
  rw [List.getD_eq_getElem?_getD]
  cases h:xs[q]? with
  |none=>simp
  |some x=>
   have:=M x (List.mem_of_getElem? h);simp;omega
 rcases O with rfl |rfl |rfl
 ·have q:=K (i / 8);unfold dig perB;simp only [rdg,bitN];have H:(i*1+0) / 8=i / 8:=by omega
  have J:(i*1+0) % 8=i % 8:=by omega
  rw [H,J];have G:8 - 1*(i % (8 / 1)+1)=7 - i % 8:=by omega
  rw [G];simp
 ·have q:=K (i / 4);unfold dig perB;simp only [rdg,bitN];have H:(i*2+0) / 8=i / 4:=by omega
  have J:(i*2+0) % 8=2*(i % 4):=by omega
  have G:(i*2+1) / 8=i / 4:=by omega
  have L:(i*2+1) % 8=2*(i % 4)+1:=by omega
  rw [H,J,G,L];show 2*(2*0+_)+_=(xs.getD (i / 4) 0).toNat / 2 ^ (8 - 2*(i % 4+1)) % 4;have N:i % 4 < 4:=Nat.mod_lt _ de;generalize (xs.getD (i / 4) 0).toNat=x at*;generalize i % 4=j at*;have:j=0∨j=1∨j=2∨j=3:=by omega
  rcases this with rfl |rfl |rfl |rfl<;>(simp only [Nat.reduceMul,Nat.reduceAdd,Nat.reduceSub,Nat.reducePow];omega)
 ·have q:=K (i / 2);unfold dig perB;simp only [rdg,bitN];have H:(i*4+0) / 8=i / 2:=by omega
  have J:(i*4+0) % 8=4*(i % 2):=by omega
  have G:(i*4+1) / 8=i / 2:=by omega
  have L:(i*4+1) % 8=4*(i % 2)+1:=by omega
  have U:(i*4+2) / 8=i / 2:=by omega
  have Y:(i*4+2) % 8=4*(i % 2)+2:=by omega
  have T:(i*4+3) / 8=i / 2:=by omega
  have W:(i*4+3) % 8=4*(i % 2)+3:=by omega
  rw [H,J,G,L,U,Y,T,W];show 2*(2*(2*(2*0+_)+_)+_)+_=(xs.getD (i / 2) 0).toNat / 2 ^ (8 - 4*(i % 2+1)) % 16;have N:i % 2 < 2:=Nat.mod_lt _ de;generalize (xs.getD (i / 2) 0).toNat=x at*;generalize i % 2=j at*;have:j=0∨j=1:=by omega
  rcases this with rfl |rfl<;>(simp only [Nat.reduceMul,Nat.reduceAdd,Nat.reduceSub,Nat.reducePow];omega)
def chF (c f:Nat):Nat->ByteArray->ByteArray
 |0,x=>x
 |k+1,x=>baOf (shaB (sB "chain".toUTF8++enc c++enc (f+k)++sB (chF c f k x)))
theorem yd7 (c f:Nat) (x:ByteArray) (hx:x.size=32):∀k,(chF c f k x).size=32
 |0=>hx
 |k+1=>by
  rw [chF,<-ybI,ybC (ycG _),ycq]
def endsF (b:Nat) (ds:List Int) (ps:List ByteArray) (n:Nat):List ByteArray:=
 (List.range n).map fun i=>chF i (ds.getD i 0).toNat (2 ^ b - 1 - (ds.getD i 0).toNat) (ps.getD i ⟨#[]⟩)
theorem endsF_succ (b:Nat) (G:List Int) (ps:List ByteArray) (n:Nat):endsF b G ps (n+1)=endsF b G ps n++[chF n (G.getD n 0).toNat (2 ^ b - 1 - (G.getD n 0).toNat) (ps.getD n ⟨#[]⟩)]:=by
 unfold endsF;rw [List.range_succ,List.map_append];rfl
theorem ycQ (b:Nat) (ds:List Int) (ps:List ByteArray) (n:Nat):(endsF b ds ps n).length=n:=by simp [endsF]
def pubF (b:Nat) (ds:List Int) (ps:List ByteArray):ByteArray:=baOf (shaB (sB "public".toUTF8++jnL (endsF b ds ps ps.length)))
def clF:ByteArray->Nat->List ByteArray->ByteArray
 |x,_,[]=>x
 |x,i,p::ps=>clF (if i % 2=0 then ndS x p else ndS p x) (i / 2) ps
def upF:Nat->ByteArray->Nat->Nat->List ByteArray->ByteArray × Bool
 |k,x,i,n,ps=>
  if n=1 then (x,decide (ps.length=0))
  else if ps.length=0 then (⟨#[]⟩,false)
  else match k with
   |0=>(⟨#[]⟩,false)
   |k+1=>
    if i < spl n then (ndS (upF k x i (spl n) ps.dropLast).1 (ps.getLastD ⟨#[]⟩),(upF k x i (spl n) ps.dropLast).2)
    else (ndS (ps.getLastD ⟨#[]⟩) (upF k x (i - spl n) (n - spl n) ps.dropLast).1,(upF k x (i - spl n) (n - spl n) ps.dropLast).2)
theorem apG_any (A:Option Addr) (m c B:Nat) (xs:List Int) (n:Nat) (w:World) (z:Sl fB w B A m xs) (hB:B<=w.heap.size) (hm:m<=1000) (hn:n < 18446744073709551616):
 Calls prog 70 #[.slice A m c,.int .u64 n] w fun e H=>∃v,e= .returned v/\Own fB 5 H w.heap.size v (xs++enc n)/\Below w.heap.size w H:=by
 obtain ⟨i0,hi,L,Y,J⟩:=info_parts Tryz.infoB;have HI:=lh hi;have M:=lh L;have U:=lh Y;have ak:=lh J;have ah:xs.length=m:=z.1
 have HC:Hid (∀v W,Own fB 5 W w.heap.size v xs->Below w.heap.size w W->Calls prog 135 #[v,.int .u64 n] W fun e H=>∃K,e= .returned K/\Own fB 5 H w.heap.size K (xs++enc n)/\Below w.heap.size w H):=fun v W hO G=>
  (ycY v xs n W w.heap.size hO G.size hn om).mono (fun e H ⟨K,h1,h2,h3,_⟩=>⟨K,h1,h2,G.trans (h3.below G.size (fun i hi=>(ol hO i hi).1))⟩)
 have HX:=lh (fun W (G:Below w.heap.size w W)=>z.up G hB);have ac:Hid (((([]:List Int)).length+xs.length)*1<=140737488355328):=by show _<=_;simp;omega
 have ag:Hid ((([]:List Int)).length+xs.length<=maxLen):=by show _<=_;simp;unfold maxLen;omega
 have HM:Hid ((m:Int)+10=((m+10:Nat):Int)):=by show _=_;omega
 have am:Hid (i0.bytes*(m+10)<=281474976710656):=by show _<=_;rw [J];omega
 have ai:Hid (m+10<=maxLen):=by show _<=_;unfold maxLen;omega
 have ap:¬(9223372036854775807:Int) < (m:Int)+10:=by omega
 clear hi L Y J z ah hB;go_enter func70,ntmps70
 go_wp2_with (first
  |(at_make;(refine wpList_make_own w (o:=⟨some 8,_,_,_,_,_⟩) rfl _ _ 40 rfl w.heap.size 5 i0 (.int .u8 0) 1 underlying40 HI.out M.out U.out _ _ _ (m+10) rfl rfl HM.out am.out ai.out nl ?_);intro w1 T O;(have N:Hid (Own fB 5 w1 w.heap.size (.slice (some ⟨w.heap.size,0,none⟩) 0 (m+10:Nat)) []):=T);(have HB1:Hid (Below w.heap.size w w1):=ybe O (fun k hk=>by cases hk) nl);(have HS1:Hid (w.heap.size<=w1.heap.size):=HB1.out.size);clear T O)
  |(at_builtin;(with_reducible refine ybD (o:=⟨some 10,_,_,_,_,_⟩) rfl (.tmp 8) (.tmp 9) 40 rfl 5 i0 (.int .u8 0) 1 underlying40 HI.out M.out U.out ak.out rfl _ ([]:List Int) w.heap.size rfl N.out A m c B xs rfl (HX.out w1 HB1.out) fB1 ac.out ag.out HS1.out ?_);intro v2 Z af aj ao;(have ae:Hid (Below w.heap.size w Z):=HB1.out.trans (ybe aj.out (fun j hj=>(ol N.out j hj).1) HS1.out));(have aa:Hid (Own fB 5 Z w.heap.size v2 xs):=af.out))
  |(go_at_call 135;(with_reducible refine (HC.out _ Z aa.out ae.out).mono ?_);rintro e w3 ⟨v3,rfl,ho,G⟩))
 go_ret;exact ⟨_,rfl,ho,G⟩
theorem ssum_any (A:Option Addr) (n c B:Nat) (xs:List Int) (w:World) (J:Glob w) (M:Sl fB w B A n xs) (hc:n<=c) (hB:B<=w.heap.size) (hl:n<=549755813887) (L:Byt xs) (hA:∀a,A=some a->a.block < w.heap.size):
 Calls prog 154 #[.slice A n c] w fun e K=>e= .returned (.string (baOf (shaB xs)))/\Below w.heap.size w K:=by
 have aa:=lh (stNew_any w J);have ae:=lh L;have H:Below w.heap.size w (w.alloc newSt):=bl
 have H2:Hid (Calls prog 199 #[.pointer (some ⟨w.heap.size,0,none⟩),.slice A n c] (w.alloc newSt) fun e K=>e= .returned (.tuple #[])/\St K w.heap.size xs/\But (fun k=>k=w.heap.size) (w.alloc newSt) K):=
  ycM w.heap.size [] xs A n c B (w.alloc newSt) (newSt_St w) (M.up H hB) hc (lT hB H.size) L (fun a ha=>Nat.ne_of_lt (hA a ha)) (by rw [M.1];simp;omega) (J.on H).1 (J.on H).2.2 (Nat.ne_of_gt J.2.2)
 have H3:Hid (∀G,St G w.heap.size xs->Below w.heap.size w G->Calls prog 200 #[.pointer (some ⟨w.heap.size,0,none⟩)] G fun e K=>e= .returned (.string (baOf (shaB xs)))/\Below G.heap.size G K):=fun G h2 z=>
  sum_any w.heap.size xs G h2 (by rw [M.1];omega) (J.on z).1 (J.on z).2.2
 have T:=lh H;clear J M L hA H;go_enter func154,ntmps154
 go_wp2_with (first
  |(go_at_call 198;(with_reducible refine aa.out.mono ?_);rintro e w0 ⟨rfl,ac⟩;subst ac)
  |(go_at_call 199;(with_reducible refine H2.out.mono ?_);rintro e G ⟨rfl,U,W⟩;(have Y:=lh U);(have N:Hid (Below w.heap.size w G):=T.out.trans (W.below T.out.size (fun i hi=>Nat.le_of_eq hi.symm)));clear U W)
  |(go_at_call 200;(with_reducible refine (H3.out G Y.out N.out).mono ?_);rintro e w3 ⟨rfl,O⟩;(have Z:=lh O);clear O))
 go_ret;exact ⟨rfl,bt N.out Z.out⟩
def BitN (b:Int) (β:Nat):Prop:=(b=1/\β=1)∨(b=2/\β=2)∨(b=4/\β=4)
abbrev cPm (b:Int):Array Value:=#[.int .i64 b,.int .i64 32]
def lsF (β:Nat):Int:=if β=1 then 1 else if β=2 then 3 else 15
def cNI (β:Nat):Int:=if β=1 then 9 else if β=2 then 5 else 3
def mNI (β:Nat):Int:=if β=1 then 256 else if β=2 then 128 else 64
theorem ycR (b:Int) (β:Nat) (G:BitN b β) (w:World):Calls prog 245 #[.agg (cPm b)] w fun e H=>e= .returned (.int .i64 (lsF β))/\Below w.heap.size w H:=by
 have HB:Hid (Below w.heap.size w (w.alloc (.cells (cPm b) 268))):=bl;rcases G with ⟨rfl,rfl⟩ |⟨rfl,rfl⟩ |⟨rfl,rfl⟩
 all_goals
  go_enter func245,ntmps245;go_wp2;go_ret;exact ⟨rfl,HB.out⟩
theorem ydD (b:Int) (β:Nat) (G:BitN b β) (w:World):Calls prog 263 #[.agg (cPm b)] w fun e H=>e= .returned (.bool true)/\Below w.heap.size w H:=by
 have HB:Hid (Below w.heap.size w (w.alloc (.cells (cPm b) 268))):=bl;have K:∀w,(Instr.index 324 (.agg #[.int .i64 1,.int .i64 2,.int .i64 4,.int .i64 8]) (.int .i64 0)).run prog w= .ok (.int .i64 1) w:=fun _=>by kernel_rfl
 have J:∀w,(Instr.index 324 (.agg #[.int .i64 1,.int .i64 2,.int .i64 4,.int .i64 8]) (.int .i64 1)).run prog w= .ok (.int .i64 2) w:=fun _=>by kernel_rfl
 have L:∀w,(Instr.index 324 (.agg #[.int .i64 1,.int .i64 2,.int .i64 4,.int .i64 8]) (.int .i64 2)).run prog w= .ok (.int .i64 4) w:=fun _=>by kernel_rfl
 rcases G with ⟨rfl,rfl⟩ |⟨rfl,rfl⟩ |⟨rfl,rfl⟩
 all_goals
  go_enter func263,ntmps263;go_wp2;refine wp_loop_rounds 3 ?_;rw [rounds_succ];go_wp2
  (try rw [rounds_succ])
  go_wp2
  (try rw [rounds_succ])
  go_wp2;go_ret;exact ⟨rfl,HB.out⟩
theorem ydE (b:Int) (β:Nat) (J:BitN b β) (w:World):Calls prog 264 #[.agg (cPm b)] w fun e M=>e= .returned (.tuple #[.int .i64 (mNI β),.int .i64 (cNI β)])/\Below w.heap.size w M:=by
 have HB:Hid (Below w.heap.size w (w.alloc (.cells (cPm b) 268))):=bl;have G:=lh (fun W=>ycR b β J W);have hs:(w.alloc (.cells (cPm b) 268)).heap.size=w.heap.size+1:=by simp
 have HC:Hid (∀V,Below (w.heap.size+1) (w.alloc (.cells (cPm b) 268)) V->V.cell? ⟨w.heap.size,0,none⟩=some (.int .i64 b)/\V.cell? ⟨w.heap.size,1,none⟩=some (.int .i64 32)):=fun V O=>by
  have q:=(O.block w.heap.size (Nat.lt_succ_self _)).trans (zy w _);refine ⟨?_,?_⟩<;>(rw [cell_of_row V _ _ _ _ _ q];rfl)
 have L:=lh hs;rcases J with ⟨rfl,rfl⟩ |⟨rfl,rfl⟩ |⟨rfl,rfl⟩
 all_goals
  clear hs
  first |rw [show lsF 1=1 from rfl] at G |rw [show lsF 2=3 from rfl] at G |rw [show lsF 4=15 from rfl] at G
  go_enter func264,ntmps264;go_wp2_with (go_at_call 245;(with_reducible refine (G.out _).mono ?_);rintro e K ⟨rfl,H⟩;(have HB1:Hid (Below (w.heap.size+1) (w.alloc (.cells (cPm _) 268)) K):=L.out▸H);(have N:=HC.out K HB1.out);obtain ⟨c0,c1⟩:=N;clear H);refine wp_loop_rounds 10 ?_
  repeat (rw [rounds_succ];go_wp2)
  go_ret2;exact ⟨rfl,HB.out.trans (HB1.out.mono (Nat.le_succ _))⟩
