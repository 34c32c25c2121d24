import Derived.Test.YtpdledjgbgalcaaGreatDoorPq
import Derived.Test.YtpdledjgbgalcaaGreatDoorPk
namespace Go.Proofs.YtpdledjgbgalcaaGreatDoor
set_option maxRecDepth 100000
set_option maxHeartbeats 16000000
open Go.RowKit Go.Lib Go.Proofs.Tryz
set_option linter.unusedVariables false
set_option linter.unusedSimpArgs false
theorem mis_any (x:ByteArray) (G:x.size=32) (w:World):Calls prog 147 #[.string x] w fun e H=>e= .returned (.bool true)/\w=H:=by
 have h1:((x.size:Int)==32)=true:=by simp [G]
 go_enter func147,ntmps147;go_wp2;go_ret;exact ⟨rfl,rfl⟩
theorem masums_any (A:Option Addr) (n c B:Nat) (ys:List ByteArray) (w:World) (G:Sl fT w B A n ys) (hn:n<=1000000) (J:∀s∈ys,s.size=32):
 Calls prog 148 #[.slice A n c] w fun e L=>e= .returned (.bool true)/\w=L:=by
 have M:=lh G;have HXN:Hid (ys.length=n):=G.1;have K:=lh J;clear G J;go_enter func148,ntmps148;go_wp2
 go_loopw [7] (fun i wr=>(∃k:Nat,k<=n/\i= .int .i64 k)/\w=wr) (fun i _=>n - (intOf i).toNat)
 case atStart=>exact ⟨⟨0,by omega,rfl⟩,rfl⟩
 case round=>
  obtain ⟨⟨k,z,rfl⟩,rfl⟩:=hrel
  by_cases hlt:k < n
  ·obtain ⟨Z,T,x,rfl,_,H,Y⟩:=M.out.2.at_ (k:=k) ya3;have N:(k:Int) < (n:Int):=by omega
   have O:(0:Int)<=(k:Int):=by omega
   have HC:=lh (fun W=>mis_any x (K.out x (List.mem_of_getElem? H)) W);clear H;go_wp2_with (go_at_call 147;(with_reducible refine (HC.out _).mono ?_);rintro e U ⟨rfl,rfl⟩);refine ⟨?rel,?measure⟩;case rel=>exact ⟨⟨k+1,by omega,by go_num⟩,by first |rfl |trivial⟩
   case measure=>(simp [intOf]<;>omega)
  ·obtain rfl:k=n:=by omega
   go_wp2;go_ret;exact ⟨rfl,by first |rfl |trivial⟩
def mvB (x:ByteArray) (i n:Nat) (ps:List ByteArray) (rt:ByteArray):Bool:=(upF 8 x i n ps).2&&decide ((upF 8 x i n ps).1=rt)
theorem mverify_any (x:ByteArray) (i n:Nat) (A:Option Addr) (m c B:Nat) (ps:List ByteArray) (rt:ByteArray) (w:World) (N:Glob w) (J:x.size=32) (hr:rt.size=32) (O:i < n) (hn:n<=256) (hp:Sl fT w B A m ps) (T:B<=w.heap.size) (M:m<=c) (Y:m<=8) (G:∀s∈ps,s.size=32):
 Calls prog 88 #[.string x,.int .i64 i,.int .i64 n,.slice A m c,.string rt] w fun e U=>e= .returned (.bool (mvB x i n ps rt))/\Below w.heap.size w U:=by
 have z:=lh (fun W=>mis_any x J W);have HR:=lh (fun W=>mis_any rt hr W);have HP:=lh (masums_any A m c B ps w hp om G);have HC:=lh (climb_any 8 x i n A m c B ps w N J O hn hp T M Y om G);have K:Hid (mvB x i n ps rt=((upF 8 x i n ps).2&&decide ((upF 8 x i n ps).1=rt))):=rfl;obtain ⟨⟨r,ok⟩,L⟩:=gx (upF 8 x i n ps);rw [L] at HC K;rw [K.out];have h1:decide ((i:Int) < 0)=false:=by simp
 have h2:decide ((n:Int)<=(i:Int))=false:=by simp;omega
 have h3:decide (n<=i)=false:=by simp;omega
 rw [beqN r rt];clear N hp G J hr L K;cases ok
 all_goals
  go_enter func88,ntmps88
  go_wp2_with (first
   |(go_at_call 147;(first |(with_reducible refine (z.out _).mono ?_) |(with_reducible refine (HR.out _).mono ?_));rintro e Z ⟨rfl,rfl⟩)
   |(go_at_call 148;(with_reducible refine HP.out.mono ?_);rintro e Z ⟨rfl,rfl⟩)
   |(go_at_call 149;(with_reducible refine HC.out.mono ?_);rintro e w6 ⟨rfl,H⟩;(have HB6:=lh H);clear H))
  go_ret;exact ⟨by rfl,HB6.out⟩
theorem rverify_any (x:ByteArray) (i n:Nat) (A:Option Addr) (m c B:Nat) (ps:List ByteArray) (rt:ByteArray) (w:World) (K:x.size=32) (hr:rt.size=32) (W:i < n) (hn:n<=256) (hp:Sl fT w B A m ps) (M:B<=w.heap.size) (T:m<=c) (Y:m<=8) (H:∀s∈ps,s.size=32):
 Calls prog 95 #[.string x,.int .i64 i,.int .i64 n,.slice A m c,.string rt] w fun e N=>e= .returned (.bool (mvB x i n ps rt))/\Below w.heap.size w N:=by
 have G:Below w.heap.size w (w.alloc (.cells #[.string x,.string rt] 9)):=bl
 have Z:Hid (Calls prog 155 #[.slice (some ⟨w.heap.size,0,none⟩) 2 2] (w.alloc (.cells #[.string x,.string rt] 9)) fun e N=>e= .returned (.bool true)/\(w.alloc (.cells #[.string x,.string rt] 9))=N):=
  rsums_any _ 2 2 _ [x,rt] _ (two_sl w x rt) om (fun s h=>by
   rcases List.mem_cons.1 h with rfl |h
   ·exact K
   ·rcases List.mem_cons.1 h with rfl |h
    ·exact hr
    ·cases h)
 have HP:=lh (rsums_any A m c B ps _ (hp.up G M) om H);have HC:=lh (rup_any 8 x i n A m c B ps _ K W hn (hp.up G M) (lT M G.size) T Y om H);have HB:=lh G;have L:Hid (mvB x i n ps rt=((upF 8 x i n ps).2&&decide ((upF 8 x i n ps).1=rt))):=rfl;obtain ⟨⟨r,z⟩,O⟩:=gx (upF 8 x i n ps);rw [O] at HC L;rw [L.out];have h1:decide ((i:Int) < 0)=false:=by simp
 have h2:decide ((n:Int)<=(i:Int))=false:=by simp;omega
 have h3:decide (n<=i)=false:=by simp;omega
 rw [beqN r rt];clear hp H K hr O L G;cases z
 all_goals
  go_enter func95,ntmps95
  go_wp2_with (first
   |(go_at_call 155;(first |(with_reducible refine Z.out.mono ?_) |(with_reducible refine HP.out.mono ?_));rintro e w5 ⟨rfl,U⟩;subst U)
   |(go_at_call 156;(with_reducible refine HC.out.mono ?_);rintro e w6 ⟨rfl,J⟩;(have HB6:=lh (bt HB.out J));clear J))
  go_ret;exact ⟨by rfl,HB6.out⟩
theorem Wc.sl {α:Type} {f:α->Value} {g base:Nat} {v:Value} {G w:World} {bs:List Int} {B n:Nat} {A:Option Addr} {xs:List α} (h:Wc g base v G bs w) (H:Sl f G B A n xs) (K:B<=G.heap.size) (hf:∀k,k < B->¬foot g v k):Sl f w B A n xs:=⟨H.1,fun hn=>by
 obtain ⟨b,J,e,hlt,L⟩:=H.2 hn
 exact ⟨b,J,e,hlt,L.keep (h.keep (hf b hlt) (Nat.lt_of_lt_of_le hlt K))⟩⟩
theorem Wc.behind {g base:Nat} {v:Value} {G w:World} {bs:List Int} {o:Obj} (h:Wc g base v (G.alloc o) bs w):Wc g base v G bs w:=by
 obtain ⟨K,h1,h2,H⟩:=h;refine ⟨K,h1,((But.refl _ G).alloc o).trans h2 (fun i hi=> .inl hi),?_⟩;rcases H with h |⟨k,h,J⟩
 ·exact .inl h
 ·exact .inr ⟨k,h,Nat.le_trans sI J⟩
theorem Wc.comp {g base:Nat} {v K:Value} {G w J:World} {bs':List Int} (H:But (foot g v) G w) (hn:NewRow v K G) (k:Wc g base K w bs' J):Wc g base v G bs' J:=by
 obtain ⟨N,M,O,L⟩:=k;exact ⟨N,M,H.wr hn O,hn.trans L H.size⟩
def encSg (hd vt:Nat) (s:ByteArray) (ix sz dy sr:Nat):List Int:=enc hd++(enc vt++(sB s++(enc ix++(enc sz++(enc dy++enc sr)))))
theorem wsigned_any (g base:Nat) (v:Value) (bs:List Int) (hd vt ix sz dy sr:Nat) (s rt:ByteArray) (ct pl si:Int) (pa pb pc:Hd) (w:World) (hw:Wr w g base v bs) (hs:s.size=32) (hN:hd<=1099511627776/\vt<=1099511627776/\ix<=1099511627776/\sz<=1099511627776/\dy<=1099511627776/\sr<=1099511627776) (aq:bs.length<=900000):
 Calls prog 150 #[.pointer (some ⟨g,0,none⟩),.agg #[.int .i64 (hd:Int),.int .i64 (vt:Int),.string s,.int .i64 (ix:Int),.int .i64 (sz:Int),.int .i64 (dy:Int),.int .i64 (sr:Int),.int .i64 ct,.int .i64 pl,.string rt,.slice pa.a pa.n pa.c,.int .i64 si,.slice pb.a pb.n pb.c,.slice pc.a pc.n pc.c]] w (WPost g base v (bs++encSg hd vt s ix sz dy sr) w):=by
 obtain ⟨W,z⟩:∃W:World,W=w.alloc (.cells #[.int .i64 (hd:Int),.int .i64 (vt:Int),.string s,.int .i64 (ix:Int),.int .i64 (sz:Int),.int .i64 (dy:Int),.int .i64 (sr:Int),.int .i64 ct,.int .i64 pl,.string rt,.slice pa.a pa.n pa.c,.int .i64 si,.slice pb.a pb.n pb.c,.slice pc.a pc.n pc.c] 35):=⟨_,rfl⟩
 have hK:W.heap[w.heap.size]? =some (.cells #[.int .i64 (hd:Int),.int .i64 (vt:Int),.string s,.int .i64 (ix:Int),.int .i64 (sz:Int),.int .i64 (dy:Int),.int .i64 (sr:Int),.int .i64 ct,.int .i64 pl,.string rt,.slice pa.a pa.n pa.c,.int .i64 si,.slice pb.a pb.n pb.c,.slice pc.a pc.n pc.c] 35 (0,0)):=by rw [z];exact zy w _
 have ah:Wc g base v W bs W:=by rw [z];exact Wc.start (hw.alloc _)
 have hF:=hw.fresh
 have HK:Hid (∀bs' V,Wc g base v W bs' V->V.cell? ⟨w.heap.size,0,none⟩=some (.int .i64 (hd:Int))/\V.cell? ⟨w.heap.size,1,none⟩=some (.int .i64 (vt:Int))/\V.cell? ⟨w.heap.size,2,none⟩=some (.string s)/\V.cell? ⟨w.heap.size,3,none⟩=some (.int .i64 (ix:Int))/\V.cell? ⟨w.heap.size,4,none⟩=some (.int .i64 (sz:Int))/\V.cell? ⟨w.heap.size,5,none⟩=some (.int .i64 (dy:Int))/\V.cell? ⟨w.heap.size,6,none⟩=some (.int .i64 (sr:Int))):=fun bs' V h=>by
  have hq:=(h.keep hF (lb hK)).trans hK;refine ⟨?_,?_,?_,?_,?_,?_,?_⟩<;>(rw [cell_of_row V _ _ _ _ _ hq];rfl)
 have HP:Hid (∀bs' V,Wc g base v W bs' V->WPost g base v bs' w (.returned (.tuple #[])) V):=fun bs' V h=>by rw [z] at h;exact h.behind.post
 have HWE:=lh z;have H0:=lh ah;obtain ⟨c0,c1,c2,c3,c4,O,T⟩:=HK.out _ _ H0.out;obtain ⟨n0,n1,n2,n3,n4,n5⟩:=hN;have m0:(hd:Int) % 18446744073709551616=hd:=by omega
 have m1:(vt:Int) % 18446744073709551616=vt:=by omega
 have ar:(sB s).length=32:=(ybI s).trans hs;have ak:=lh (H0.out.step (P:=prog) (fun J G _=>ybX g base J bs hd W G om om));rw [z] at c0 c1 c2 c3 c4 O T;clear hw hK ah hF z;go_enter func150,ntmps150;go_wp2_with fail;rw [<-HWE.out];refine ak.out.mono ?_;rintro e V1 ⟨rfl,h1⟩;clear c0 c1 c2 c3 c4 O T;obtain ⟨c0,c1,c2,c3,c4,O,T⟩:=HK.out _ _ h1;have ao:=lh (h1.step (P:=prog) (fun J G _=>ybX g base J _ vt V1 G om (by have:=ybm hd;simp only [List.length_append];omega)));clear h1;go_wp2_with fail;refine ao.out.mono ?_;rintro e V2 ⟨rfl,h2⟩;clear c0 c1 c2 c3 c4 O T;obtain ⟨c0,c1,c2,c3,c4,O,T⟩:=HK.out _ _ h2;have aj:=lh (h2.step (P:=prog) (fun J G _=>wsum_any g base J _ s V2 G hs (by have:=ybm hd;have:=ybm vt;simp only [List.length_append];omega)));clear h2;go_wp2_with fail;refine aj.out.mono ?_;rintro e N ⟨rfl,h3⟩;clear c0 c1 c2 c3 c4 O T;obtain ⟨c0,c1,c2,c3,c4,O,T⟩:=HK.out _ _ h3;obtain ⟨L,hL⟩:∃L,L=bs++enc hd++enc vt++sB s:=⟨_,rfl⟩
 rw [<-hL] at h3;have au:L.length<=900060:=by rw [hL];have:=ybm hd;have:=ybm vt;simp only [List.length_append];omega
 obtain ⟨U,ac,ae,af⟩:=h3;obtain ⟨K,M⟩:∃V:World,V=N.alloc (.cells #[.int .i64 (ix:Int),.int .i64 (sz:Int),.int .i64 (dy:Int),.int .i64 (sr:Int)] 3):=⟨_,rfl⟩
 have H4:Hid (Wc g base U K L K):=by show Wc _ _ _ _ _ _;rw [M];exact Wc.start (ac.alloc _)
 have aa:K.heap[N.heap.size]? =some (.cells #[.int .i64 (ix:Int),.int .i64 (sz:Int),.int .i64 (dy:Int),.int .i64 (sr:Int)] 3 (0,0)):=by rw [M];exact zy N _
 have ag:=ac.fresh;have HQ:Hid (∀bs' V,Wc g base U K bs' V->V.heap[N.heap.size]? =some (.cells #[.int .i64 (ix:Int),.int .i64 (sz:Int),.int .i64 (dy:Int),.int .i64 (sr:Int)] 3 (0,0))):=fun bs' V h=>(h.keep ag (lb aa)).trans aa;have ap:Hid (∀bs' V,Wc g base U K bs' V->Wc g base v W bs' V):=fun bs' V h=>Wc.comp (by rw [M];exact ae.alloc _) af h;have am:=lh M;have ai:=lh hL;clear ac ae af M aa ag hL;go_wp2_with fail;clear c0 c1 c2 c3 c4 O T;rw [<-am.out]
 go_loopw [32] (fun i wr=>∃k:Nat,k<=4/\i= .int .i64 k/\Hid (Wc g base U K (L++(([ix,sz,dy,sr]:List Nat).take k).flatMap enc) wr)) (fun i _=>4 - (intOf i).toNat)
 case atStart=>exact ⟨0,by omega,rfl,by show Wc _ _ _ _ _ _;simpa using H4.out⟩
 case round=>
  obtain ⟨k,hk,rfl,HR⟩:=hrel;rcases (show k=0∨k=1∨k=2∨k=3∨k=4 by omega) with rfl |rfl |rfl |rfl |rfl
  ·have m:(ix:Int) % 18446744073709551616=ix:=by omega
   have y:wr.cell? ⟨N.heap.size,0,none⟩=some (.int .i64 (ix:Int)):=by rw [cell_of_row wr _ 0 _ _ _ (HQ.out _ _ HR.out)];rfl
   have HC:=lh (HR.out.step (P:=prog) (fun J G _=>ybX g base J _ ix wr G om yaO));go_wp2_with fail;refine HC.out.mono ?_;rintro e Z ⟨rfl,H⟩
   have Y:Hid (Wc g base U K (L++(([ix,sz,dy,sr]:List Nat).take 1).flatMap enc) Z):=by
    show Wc _ _ _ _ _ _;have e:L++(([ix,sz,dy,sr]:List Nat).take 0).flatMap enc++enc ix=L++(([ix,sz,dy,sr]:List Nat).take 1).flatMap enc:=by simp [List.flatMap_cons]
    rw [e] at H;exact H
   clear H y m;go_wp2;refine ⟨?rel,?measure⟩;case rel=>exact ⟨1,by omega,rfl,Y⟩
   case measure=>simp [intOf]
  ·have m:(sz:Int) % 18446744073709551616=sz:=by omega
   have y:wr.cell? ⟨N.heap.size,1,none⟩=some (.int .i64 (sz:Int)):=by rw [cell_of_row wr _ 1 _ _ _ (HQ.out _ _ HR.out)];rfl
   have HC:=lh (HR.out.step (P:=prog) (fun J G _=>ybX g base J _ sz wr G om yaO));go_wp2_with fail;refine HC.out.mono ?_;rintro e Z ⟨rfl,H⟩
   have Y:Hid (Wc g base U K (L++(([ix,sz,dy,sr]:List Nat).take 2).flatMap enc) Z):=by
    show Wc _ _ _ _ _ _;have e:L++(([ix,sz,dy,sr]:List Nat).take 1).flatMap enc++enc sz=L++(([ix,sz,dy,sr]:List Nat).take 2).flatMap enc:=by simp [List.flatMap_cons]
    rw [e] at H;exact H
   clear H y m;go_wp2;refine ⟨?rel,?measure⟩;case rel=>exact ⟨2,by omega,rfl,Y⟩
   case measure=>simp [intOf]
  ·have m:(dy:Int) % 18446744073709551616=dy:=by omega
   have y:wr.cell? ⟨N.heap.size,2,none⟩=some (.int .i64 (dy:Int)):=by rw [cell_of_row wr _ 2 _ _ _ (HQ.out _ _ HR.out)];rfl
   have HC:=lh (HR.out.step (P:=prog) (fun J G _=>ybX g base J _ dy wr G om yaO));go_wp2_with fail;refine HC.out.mono ?_;rintro e Z ⟨rfl,H⟩
   have Y:Hid (Wc g base U K (L++(([ix,sz,dy,sr]:List Nat).take 3).flatMap enc) Z):=by
    show Wc _ _ _ _ _ _;have e:L++(([ix,sz,dy,sr]:List Nat).take 2).flatMap enc++enc dy=L++(([ix,sz,dy,sr]:List Nat).take 3).flatMap enc:=by simp [List.flatMap_cons]
    rw [e] at H;exact H
   clear H y m;go_wp2;refine ⟨?rel,?measure⟩;case rel=>exact ⟨3,by omega,rfl,Y⟩
   case measure=>simp [intOf]
  ·have m:(sr:Int) % 18446744073709551616=sr:=by omega
   have y:wr.cell? ⟨N.heap.size,3,none⟩=some (.int .i64 (sr:Int)):=by rw [cell_of_row wr _ 3 _ _ _ (HQ.out _ _ HR.out)];rfl
   have HC:=lh (HR.out.step (P:=prog) (fun J G _=>ybX g base J _ sr wr G om yaO));go_wp2_with fail;refine HC.out.mono ?_;rintro e Z ⟨rfl,H⟩
   have Y:Hid (Wc g base U K (L++(([ix,sz,dy,sr]:List Nat).take 4).flatMap enc) Z):=by
    show Wc _ _ _ _ _ _;have e:L++(([ix,sz,dy,sr]:List Nat).take 3).flatMap enc++enc sr=L++(([ix,sz,dy,sr]:List Nat).take 4).flatMap enc:=by simp [List.flatMap_cons]
    rw [e] at H;exact H
   clear H y m;go_wp2;refine ⟨?rel,?measure⟩;case rel=>exact ⟨4,by omega,rfl,Y⟩
   case measure=>simp [intOf]
  ·go_wp2
   go_end0
   have h:=HP.out _ _ (ap.out _ _ HR.out)
   have e:L++(([ix,sz,dy,sr]:List Nat).take 4).flatMap enc=bs++encSg hd vt s ix sz dy sr:=by
    rw [ai.out];simp [encSg,List.flatMap_cons]
   rw [e] at h;exact h
theorem encSg_len (hd vt ix sz dy sr:Nat) (s:ByteArray) (hs:s.size=32):(encSg hd vt s ix sz dy sr).length<=92:=by
 unfold encSg;have h1:=ybm hd;have h2:=ybm vt;have K:=ybm ix;have H:=ybm sz;have G:=ybm dy;have L:=ybm sr;have J:=ybI s;simp only [List.length_append];omega
theorem yb2 {r:Rcp} {ps qs rs:List ByteArray} (h:vaB r ps qs rs=true):(0<=r.hd/\r.hd<=11)/\(0<=r.vt/\r.vt<=11)/\r.s.size=32/\(0<=r.ix/\r.ix<=15)/\(1<=r.sz/\r.sz<=65536)/\(0<=r.dy/\r.dy<=999999)/\(0<=r.sr/\r.sr<=1099511627776)/\(1<=r.ct/\r.ct<=256)/\(0<=r.pl/\r.pl<=r.ct - 1)/\r.rt.size=32/\(ps.length<=8/\∀z∈ps,z.size=32)/\(rs.length<=8/\∀z∈rs,z.size=32)/\(qs.length<=300/\∀z∈qs,z.size=32)/\(0<=r.si/\r.si<=255):=by
 unfold vaB pvB rgB arB at h;simp only [Bool.and_eq_true,decide_eq_true_eq] at h;obtain ⟨Z,⟨a2,U,Y,W⟩,T,a7,a8,a9,H,⟨J,O⟩,⟨M,G⟩,⟨L,N⟩,K⟩:=h;exact ⟨Z,a2,U,Y,W,T,a7,a8,a9,H,⟨J,ycc.1 O⟩,⟨M,ycc.1 G⟩,⟨L,ycc.1 N⟩,K⟩
def encS (r:Rcp):List Int:=encSg r.hd.toNat r.vt.toNat r.s r.ix.toNat r.sz.toNat r.dy.toNat r.sr.toNat
theorem ycI {a b:List Int} (ha:Byt a) (hb:Byt b):Byt (a++b):=fun x hx=>by
 rcases List.mem_append.1 hx with h |h
 ·exact ha x h
 ·exact hb x h
theorem encSg_byt (hd vt ix sz dy sr:Nat) (s:ByteArray):Byt (encSg hd vt s ix sz dy sr):=
 ycI (ybG hd) (ycI (ybG vt) (ycI (ycw s) (ycI (ybG ix) (ycI (ybG sz) (ycI (ybG dy) (ybG sr))))))
theorem encSg_pos (hd vt ix sz dy sr:Nat) (s:ByteArray) (hs:s.size=32):0 < (encSg hd vt s ix sz dy sr).length:=by
 unfold encSg;simp only [List.length_append,ybI,hs];omega
theorem leaf_any (r:Rcp) (ps qs rs:List ByteArray) (w:World) (hG:Glob w) (hv:vaB r ps qs rs=true):
 Calls prog 89 #[.agg (cR r)] w fun e w'=>e= .returned (.string (leafS (encS r)))/\Below w.heap.size w w':=by
 obtain ⟨G,H⟩:∃G:World,G=w.alloc (.cells (cR r) tR):=⟨_,rfl⟩
 have ac:Below w.heap.size w G:=by rw [H];exact bl
 have Y:G.heap.size=w.heap.size+1:=by rw [H];simp
 have Z:G.heap[w.heap.size]? =some (.cells (cR r) tR (0,0)):=by rw [H];exact zy w _
 have HWE:=lh H;obtain ⟨y0,y1,N,y3,y4,y5,y6,_⟩:=yb2 hv;obtain ⟨hd,vt,s,ix,sz,dy,sr,ct,pl,rt,pa,si,pb,pc⟩:=r;dsimp only at y0 y1 N y3 y4 y5 y6;obtain ⟨hd,rfl⟩:∃k:Nat,hd=k:=⟨hd.toNat,by omega⟩
 obtain ⟨vt,rfl⟩:∃k:Nat,vt=k:=⟨vt.toNat,by omega⟩
 obtain ⟨ix,rfl⟩:∃k:Nat,ix=k:=⟨ix.toNat,by omega⟩
 obtain ⟨sz,rfl⟩:∃k:Nat,sz=k:=⟨sz.toNat,by omega⟩
 obtain ⟨dy,rfl⟩:∃k:Nat,dy=k:=⟨dy.toNat,by omega⟩
 obtain ⟨sr,rfl⟩:∃k:Nat,sr=k:=⟨sr.toNat,by omega⟩
 obtain ⟨W3,J⟩:∃W3:World,W3=G.alloc (.cells #[.slice none 0 0,.int .i64 0] 217):=⟨_,rfl⟩
 have M:Below G.heap.size G W3:=by rw [J];exact bl
 have L:Below w.heap.size w W3:=bt ac M;have U:W3.heap[w.heap.size]? =some (.cells (cR ⟨hd,vt,s,ix,sz,dy,sr,ct,pl,rt,pa,si,pb,pc⟩) tR (0,0)):=(M.block _ om).trans Z;have h0:Wc G.heap.size (G.heap.size+1) (.slice none 0 0) W3 [] W3:=by rw [J];exact Wc.start (Wr.new G)
 have ae:=h0.step (P:=prog) (fun v' ap _=>wsigned_any G.heap.size (G.heap.size+1) v' _ hd vt ix sz dy sr s rt ct pl si pa pb pc W3 ap N om sI);have au:=lh ae;have am:=lh (yb3 U);have ao:=lh J;have HS1:=lh Y;have ah:=encSg_len hd vt ix sz dy sr s N;have ag:=encSg_pos hd vt ix sz dy sr s N
 have HBW:Hid (∀bs V,Wc G.heap.size (G.heap.size+1) (.slice none 0 0) W3 bs V->Below w.heap.size w V):=fun bs V h=>by
  obtain ⟨v1,_,hb,_⟩:=h
  exact L.trans (hb.below L.size (fun i hi=>by
   rcases hi with rfl |hi
   ·omega
   ·cases hi))
 have aj:Hid (∀(V:World) O K T,Below w.heap.size w V->Sl fB V V.heap.size O K (encSg hd vt s ix sz dy sr)->K<=T->Calls prog 151 #[.slice O K T] V fun e w'=>e= .returned (.string (leafS (encS ⟨hd,vt,s,ix,sz,dy,sr,ct,pl,rt,pa,si,pb,pc⟩)))/\Below V.heap.size V w'):=fun V O K T hb hs hc=>
  ydm O K T V.heap.size _ V (hG.on hb) hs hc nl (by have:=hs.1;omega) (encSg_byt _ _ _ _ _ _ _) (own_hA hs (by have:=hs.1;omega))
 have ai:Hid (∀V,Wc G.heap.size (G.heap.size+1) (.slice none 0 0) W3 ([]++encSg hd vt s ix sz dy sr) V->Calls prog 78 #[.pointer (some ⟨G.heap.size,0,none⟩)] V (Slc2 fB ([]++encSg hd vt s ix sz dy sr) 0 V)):=fun V h=>by
  obtain ⟨v9,aq,_,_⟩:=h;exact wdone_any _ _ v9 _ V aq (by rw [List.nil_append];omega)
 clear hv y0 y1 N y3 y4 y5 y6 H ac Y Z J M L U h0 ae ah ag hG;go_enter func89,ntmps89;go_upto_region 1 with fail
 rw [<-HWE.out];go_wp2_with fail;refine (ycE G).mono ?_;rintro e V1 ⟨rfl,aa⟩;rw [<-ao.out] at aa;subst aa
 go_wp2_with (first
  |(with_reducible refine wpList_load_mid (op:=⟨some 8,_,_,_,_,_⟩) rfl tR (.tmp 1) rfl w.heap.size 0 rfl (cR ⟨hd,vt,s,ix,sz,dy,sr,ct,pl,rt,pa,si,pb,pc⟩).toList _ am.out underlying35 rfl (ybJ ⟨hd,vt,s,ix,sz,dy,sr,ct,pl,rt,pa,si,pb,pc⟩) ?_)
  |(go_at_call 150;(with_reducible refine au.out.mono ?_)))
 rintro e V2 ⟨rfl,h2⟩;have HD:=lh (ai.out V2 h2);have ak:=lh (HBW.out _ V2 h2);clear h2;go_wp2_with fail;refine HD.out.mono ?_;rintro e VX ⟨A9,n9,c9,rfl,q1,q2,q3⟩;have z:=lh (bt ak.out q3);have af:=lh (aj.out VX A9 n9 c9 z.out q2 q1);clear q1 q2 q3;go_wp2_with (go_at_call 151;(with_reducible refine af.out.mono ?_);rintro e w9 ⟨rfl,W⟩;(have ar:=lh (bt z.out W));clear W);go_ret;exact ⟨rfl,ar.out⟩
def encB (rt:ByteArray) (ct:Nat):List Int:=((enc 8++[114,101,99,101,105,112,116,115])++sB rt)++enc ct
theorem encB_len (rt:ByteArray) (ct:Nat) (h:rt.size=32):(encB rt ct).length<=60/\32<=(encB rt ct).length:=by
 unfold encB;simp only [List.length_append,ybI,h];have h1:=ybm 8;have h2:=ybm ct;simp only [List.length_cons,List.length_nil];omega
theorem encB_byt (rt:ByteArray) (ct:Nat):Byt (encB rt ct):=
 ycI (ycI (ycI (ybG 8) (by
    intro z G
    (rcases List.mem_cons.1 G with rfl |G; ·omega);(rcases List.mem_cons.1 G with rfl |G; ·omega);(rcases List.mem_cons.1 G with rfl |G; ·omega);(rcases List.mem_cons.1 G with rfl |G; ·omega);(rcases List.mem_cons.1 G with rfl |G; ·omega);(rcases List.mem_cons.1 G with rfl |G; ·omega);(rcases List.mem_cons.1 G with rfl |G; ·omega);(rcases List.mem_cons.1 G with rfl |G; ·omega);cases G)) (ycw rt)) (ybG ct)
def btS (rt:ByteArray) (ct:Nat):ByteArray:=baOf (shaB (encB rt ct))
theorem btS_size (rt:ByteArray) (ct:Nat):(btS rt ct).size=32:=by unfold btS;rw [<-ybI,ybC (ycG _),ycq]
theorem batch_any (rt:ByteArray) (ct:Nat) (w:World) (hG:Glob w) (H:rt.size=32) (au:ct<=256):
 Calls prog 91 #[.string rt,.int .i64 ct] w fun e J=>e= .returned (.string (btS rt ct))/\Below w.heap.size w J:=by
 obtain ⟨W3,K⟩:∃W3:World,W3=w.alloc (.cells #[.slice none 0 0,.int .i64 0] 217):=⟨_,rfl⟩
 have M:Below w.heap.size w W3:=by rw [K];exact bl
 have h0:Wc w.heap.size (w.heap.size+1) (.slice none 0 0) W3 [] W3:=by rw [K];exact Wc.start (Wr.new w)
 have ai:=lh K
 have HBW:Hid (∀bs V,Wc w.heap.size (w.heap.size+1) (.slice none 0 0) W3 bs V->Below w.heap.size w V):=fun bs V h=>by
  obtain ⟨v1,_,hb,_⟩:=h
  exact M.trans (hb.below M.size (fun i hi=>by
   rcases hi with rfl |hi
   ·omega
   ·cases hi))
 have H1:=lh (h0.step (P:=prog) (fun N G _=>wtext_any w.heap.size (w.heap.size+1) N _ ⟨#[114,101,99,101,105,112,116,115]⟩ W3 G de sI));have am:=ybm 8;have ao:=ybm ct
 have z:Hid (∀V,Wc w.heap.size (w.heap.size+1) (.slice none 0 0) W3 ([]++(enc 8++[114,101,99,101,105,112,116,115])) V->Calls prog 77 #[.pointer (some ⟨w.heap.size,0,none⟩),.string rt] V fun e J=>e= .returned (.tuple #[])/\Wc w.heap.size (w.heap.size+1) (.slice none 0 0) W3 (([]++(enc 8++[114,101,99,101,105,112,116,115]))++sB rt) J):=fun V h=>
  h.step (P:=prog) (fun N G _=>wsum_any w.heap.size (w.heap.size+1) N _ rt V G H (by simp only [List.length_append,List.length_nil,List.length_cons];omega))
 have aa:Hid (∀V,Wc w.heap.size (w.heap.size+1) (.slice none 0 0) W3 (([]++(enc 8++[114,101,99,101,105,112,116,115]))++sB rt) V->Calls prog 73 #[.pointer (some ⟨w.heap.size,0,none⟩),.int .u64 ct] V fun e J=>e= .returned (.tuple #[])/\Wc w.heap.size (w.heap.size+1) (.slice none 0 0) W3 ((([]++(enc 8++[114,101,99,101,105,112,116,115]))++sB rt)++enc ct) J):=fun V h=>
  h.step (P:=prog) (fun N G _=>ybX w.heap.size (w.heap.size+1) N _ ct V G om (by simp only [List.length_append,List.length_nil,List.length_cons,ybI,H];omega))
 have ag:Hid (∀V,Wc w.heap.size (w.heap.size+1) (.slice none 0 0) W3 ((([]++(enc 8++[114,101,99,101,105,112,116,115]))++sB rt)++enc ct) V->Calls prog 78 #[.pointer (some ⟨w.heap.size,0,none⟩)] V (Slc2 fB (encB rt ct) 0 V)):=fun V h=>by
  obtain ⟨v9,aj,_,_⟩:=h;have h9:Wr V w.heap.size (w.heap.size+1) v9 (encB rt ct):=aj;exact wdone_any _ _ v9 _ V h9 (by have:=encB_len rt ct H;omega)
 have ah:Hid (∀(V:World) O L T,Below w.heap.size w V->Sl fB V V.heap.size O L (encB rt ct)->L<=T->Calls prog 154 #[.slice O L T] V fun e J=>e= .returned (.string (btS rt ct))/\Below V.heap.size V J):=fun V O L T hb hs hc=>by
  have hl:=encB_len rt ct H;exact ssum_any O L T V.heap.size _ V (hG.on hb) hs hc nl (by have:=hs.1;omega) (encB_byt rt ct) (own_hA hs (by have:=hs.1;omega))
 have ar:(ct:Int) % 18446744073709551616=ct:=by omega
 clear hG K M h0 am ao H;go_enter func91,ntmps91;go_wp2_with fail;refine (ycE w).mono ?_;rintro e V1 ⟨rfl,Y⟩;rw [<-ai.out] at Y;subst Y;go_wp2_with fail;refine H1.out.mono ?_;rintro e V2 ⟨rfl,h2⟩;have aq:=lh (z.out V2 h2);clear h2;go_wp2_with fail;refine aq.out.mono ?_;rintro e V3 ⟨rfl,h3⟩;have ak:=lh (aa.out V3 h3);clear h3;go_wp2_with fail;refine ak.out.mono ?_;rintro e V4 ⟨rfl,Z⟩;have af:=lh (ag.out V4 Z);have ac:=lh (HBW.out _ V4 Z);clear Z;go_wp2_with fail;refine af.out.mono ?_;rintro e VX ⟨A9,n9,c9,rfl,q1,q2,q3⟩;have W:=lh (bt ac.out q3);have ae:=lh (ah.out VX A9 n9 c9 W.out q2 q1);clear q1 q2 q3;go_wp2_with (go_at_call 154;(with_reducible refine ae.out.mono ?_);rintro e w9 ⟨rfl,U⟩;(have ap:=lh (bt W.out U));clear U);go_ret;exact ⟨rfl,ap.out⟩
theorem ybV (n:Int) (w:World) (h0:0<=n) (h1:n<=9223372036854775807):
 Calls prog 164 #[.int .i64 n] w fun e G=>e= .returned (aVl (vN n))/\Below w.heap.size w G:=by
 have H:n % 18446744073709551616=n:=by omega
 go_enter func164,ntmps164;go_wp2_with (refine ybl (o:=⟨none,.store 188 (.tmp 2) (.tmp 5),_,_,_,_⟩) rfl 188 (.tmp 2) (.tmp 5) rfl 188 _ (fVl (vN n)).toArray rfl rfl Tryz.sizeVl rfl (fVl_all _) ?_);exact bodyPost_ret (results_cell_row rfl _ _ _ _ (fVl (vN n)).toArray _ _ rfl (zy w _) underlying188 rfl Tryz.sizeVl) rfl ⟨rfl,bl⟩
theorem ssumv_any (s:ByteArray) (w:World):
 Calls prog 163 #[.string s] w fun e G=>e= .returned (aVl (vS s))/\Below w.heap.size w G:=by
 go_enter func163,ntmps163;go_wp2_with (refine ybl (o:=⟨none,.store 188 (.tmp 2) (.tmp 4),_,_,_,_⟩) rfl 188 (.tmp 2) (.tmp 4) rfl 188 _ (fVl (vS s)).toArray rfl rfl Tryz.sizeVl rfl (fVl_all _) ?_);exact bodyPost_ret (results_cell_row rfl _ _ _ _ (fVl (vS s)).toArray _ _ rfl (zy w _) underlying188 rfl Tryz.sizeVl) rfl ⟨rfl,bl⟩
def vlG (hd vt:Nat) (s:ByteArray) (ix sz dy sr:Nat):List Vl:=[vN hd,vN vt,vS s,vN ix,vN sz,vN dy,vN sr]
theorem flat_G (hd vt:Nat) (s:ByteArray) (ix sz dy sr:Nat):(vlG hd vt s ix sz dy sr).flatMap encR=encSg hd vt s ix sz dy sr:=by
 unfold vlG encSg;simp only [List.flatMap_cons,List.flatMap_nil,encR_N,encR_S,List.append_nil,Int.toNat_natCast]
theorem ssigned_any (hd vt ix sz dy sr:Nat) (s rt:ByteArray) (ct pl si:Int) (pa pb pc:Hd) (w:World) (hN:hd<=1099511627776/\vt<=1099511627776/\ix<=1099511627776/\sz<=1099511627776/\dy<=1099511627776/\sr<=1099511627776):
 Calls prog 188 #[.agg #[.int .i64 (hd:Int),.int .i64 (vt:Int),.string s,.int .i64 (ix:Int),.int .i64 (sz:Int),.int .i64 (dy:Int),.int .i64 (sr:Int),.int .i64 ct,.int .i64 pl,.string rt,.slice pa.a pa.n pa.c,.int .i64 si,.slice pb.a pb.n pb.c,.slice pc.a pc.n pc.c]] w fun e J=>∃u,e= .returned u/\VA w J u (vlG hd vt s ix sz dy sr):=by
 obtain ⟨H,K⟩:∃H:World,H=w.alloc (.cells #[.int .i64 (hd:Int),.int .i64 (vt:Int),.string s,.int .i64 (ix:Int),.int .i64 (sz:Int),.int .i64 (dy:Int),.int .i64 (sr:Int),.int .i64 ct,.int .i64 pl,.string rt,.slice pa.a pa.n pa.c,.int .i64 si,.slice pb.a pb.n pb.c,.slice pc.a pc.n pc.c] 35):=⟨_,rfl⟩
 have Y:Below w.heap.size w H:=by rw [K];exact bl
 have ac:H.heap.size=w.heap.size+1:=by rw [K];simp
 have Z:H.heap[w.heap.size]? =some (.cells #[.int .i64 (hd:Int),.int .i64 (vt:Int),.string s,.int .i64 (ix:Int),.int .i64 (sz:Int),.int .i64 (dy:Int),.int .i64 (sr:Int),.int .i64 ct,.int .i64 pl,.string rt,.slice pa.a pa.n pa.c,.int .i64 si,.slice pb.a pb.n pb.c,.slice pc.a pc.n pc.c] 35 (0,0)):=by rw [K];exact zy w _
 have U:Hid (∀V,Below H.heap.size H V->V.cell? ⟨w.heap.size,0,none⟩=some (.int .i64 (hd:Int))/\V.cell? ⟨w.heap.size,1,none⟩=some (.int .i64 (vt:Int))/\V.cell? ⟨w.heap.size,2,none⟩=some (.string s)/\V.cell? ⟨w.heap.size,3,none⟩=some (.int .i64 (ix:Int))/\V.cell? ⟨w.heap.size,4,none⟩=some (.int .i64 (sz:Int))/\V.cell? ⟨w.heap.size,5,none⟩=some (.int .i64 (dy:Int))/\V.cell? ⟨w.heap.size,6,none⟩=some (.int .i64 (sr:Int))):=fun V hb=>by
  have h:=(hb.block w.heap.size om).trans Z;refine ⟨?_,?_,?_,?_,?_,?_,?_⟩<;>(rw [cell_of_row V _ _ _ _ _ h];rfl)
 obtain ⟨n0,n1,n2,n3,n4,n5⟩:=hN;have z:Hid (0<=(hd:Int)/\(hd:Int)<=9223372036854775807):=by show _/\_;omega
 have M:Hid (0<=(vt:Int)/\(vt:Int)<=9223372036854775807):=by show _/\_;omega
 have W:Hid (0<=(ix:Int)/\(ix:Int)<=9223372036854775807):=by show _/\_;omega
 have T:Hid (0<=(sz:Int)/\(sz:Int)<=9223372036854775807):=by show _/\_;omega
 have O:Hid (0<=(dy:Int)/\(dy:Int)<=9223372036854775807):=by show _/\_;omega
 have N:Hid (0<=(sr:Int)/\(sr:Int)<=9223372036854775807):=by show _/\_;omega
 have HB1:=lh Y;have HWE:=lh K;have HB:Hid (Below H.heap.size H H):=Below.refl _ _;clear Y ac Z K n0 n1 n2 n3 n4 n5;go_enter func188,ntmps188;go_upto_region 1 with fail
 rw [<-HWE.out];have ae:=U.out _ HB.out
 go_region_held3 (fun J=>J.cell? ⟨w.heap.size,0,none⟩=some (.int .i64 (hd:Int))/\J.cell? ⟨w.heap.size,1,none⟩=some (.int .i64 (vt:Int))/\J.cell? ⟨w.heap.size,2,none⟩=some (.string s)/\J.cell? ⟨w.heap.size,3,none⟩=some (.int .i64 (ix:Int))/\J.cell? ⟨w.heap.size,4,none⟩=some (.int .i64 (sz:Int))/\J.cell? ⟨w.heap.size,5,none⟩=some (.int .i64 (dy:Int))/\J.cell? ⟨w.heap.size,6,none⟩=some (.int .i64 (sr:Int))) (first |exact U.out _ HB.out |go_keep) (first
  |(go_at_call 164;(with_reducible (refine (ybV (hd:Int) _ (z.out).1 (z.out).2).mono ?_));rintro e L ⟨rfl,G⟩;(have HB:=lh (HB.out.trans (Below.mono (Below.trans yaN G) HB.out.size)));clear G)
  |(go_at_call 164;(with_reducible (refine (ybV (vt:Int) _ (M.out).1 (M.out).2).mono ?_));rintro e L ⟨rfl,G⟩;(have HB:=lh (HB.out.trans (Below.mono (Below.trans yaN G) HB.out.size)));clear G)
  |(go_at_call 164;(with_reducible (refine (ybV (ix:Int) _ (W.out).1 (W.out).2).mono ?_));rintro e L ⟨rfl,G⟩;(have HB:=lh (HB.out.trans (Below.mono (Below.trans yaN G) HB.out.size)));clear G)
  |(go_at_call 164;(with_reducible (refine (ybV (sz:Int) _ (T.out).1 (T.out).2).mono ?_));rintro e L ⟨rfl,G⟩;(have HB:=lh (HB.out.trans (Below.mono (Below.trans yaN G) HB.out.size)));clear G)
  |(go_at_call 164;(with_reducible (refine (ybV (dy:Int) _ (O.out).1 (O.out).2).mono ?_));rintro e L ⟨rfl,G⟩;(have HB:=lh (HB.out.trans (Below.mono (Below.trans yaN G) HB.out.size)));clear G)
  |(go_at_call 164;(with_reducible (refine (ybV (sr:Int) _ (N.out).1 (N.out).2).mono ?_));rintro e L ⟨rfl,G⟩;(have HB:=lh (HB.out.trans (Below.mono (Below.trans yaN G) HB.out.size)));clear G)
  |(go_at_call 163;(with_reducible (refine (ssumv_any s _).mono ?_));rintro e L ⟨rfl,G⟩;(have HB:=lh (HB.out.trans (Below.mono (Below.trans yaN G) HB.out.size)));clear G))
 go_wp2_with fail
 clear ae;have aa:Hid (VA w _ _ (vlG hd vt s ix sz dy sr)):=VA.start (bt HB1.out HB.out) (cs:=#[.int .i64 1,.int .u64 hd,.int .i64 0,.bool false,.string ⟨#[]⟩,.int .i64 0,.int .i64 1,.int .u64 vt,.int .i64 0,.bool false,.string ⟨#[]⟩,.int .i64 0,.int .i64 6,.int .u64 0,.int .i64 0,.bool false,.string s,.int .i64 0,.int .i64 1,.int .u64 ix,.int .i64 0,.bool false,.string ⟨#[]⟩,.int .i64 0,.int .i64 1,.int .u64 sz,.int .i64 0,.bool false,.string ⟨#[]⟩,.int .i64 0,.int .i64 1,.int .u64 dy,.int .i64 0,.bool false,.string ⟨#[]⟩,.int .i64 0,.int .i64 1,.int .u64 sr,.int .i64 0,.bool false,.string ⟨#[]⟩,.int .i64 0]) (m:=7) rfl rfl de;go_ret;exact ⟨_,rfl,aa.out⟩
theorem rc_nat {r:Rcp} {ps qs rs:List ByteArray} (N:vaB r ps qs rs=true):∃hd vt ix sz dy sr:Nat,r=⟨hd,vt,r.s,ix,sz,dy,sr,r.ct,r.pl,r.rt,r.pa,r.si,r.pb,r.pc⟩/\hd<=11/\vt<=11/\r.s.size=32/\ix<=15/\sz<=65536/\dy<=999999/\sr<=1099511627776:=by
 obtain ⟨L,K,G,O,H,J,M,_⟩:=yb2 N;obtain ⟨hd,vt,s,ix,sz,dy,sr,ct,pl,rt,pa,si,pb,pc⟩:=r;dsimp only at L K G O H J M ⊢;refine ⟨hd.toNat,vt.toNat,ix.toNat,sz.toNat,dy.toNat,sr.toNat,?_,by omega,by omega,G,by omega,by omega,by omega,by omega⟩
 congr 1<;>omega
theorem vlOk_G {hd vt ix sz dy sr:Nat} {s:ByteArray} (hs:s.size=32) (h:hd<=11/\vt<=11/\ix<=15/\sz<=65536/\dy<=999999/\sr<=1099511627776):∀x∈vlG hd vt s ix sz dy sr,VlOk x:=fun x G=>by
 obtain ⟨h0,h1,h2,H,J,K⟩:=h;unfold vlG at G;simp only [List.mem_cons,List.not_mem_nil,or_false] at G;rcases G with rfl |rfl |rfl |rfl |rfl |rfl |rfl
 ·exact vlOk_N ⟨by omega,by omega⟩
 ·exact vlOk_N ⟨by omega,by omega⟩
 ·exact vlOk_S hs
 ·exact vlOk_N ⟨by omega,by omega⟩
 ·exact vlOk_N ⟨by omega,by omega⟩
 ·exact vlOk_N ⟨by omega,by omega⟩
 ·exact vlOk_N ⟨by omega,by omega⟩
theorem rsigned_any (r:Rcp) (ps qs rs:List ByteArray) (w:World) (hv:vaB r ps qs rs=true):
 Calls prog 158 #[.agg (cR r)] w fun e H=>∃A n c,e= .returned (.slice A n c)/\n<=c/\Sl fB H H.heap.size A n (encS r)/\Below w.heap.size w H:=by
 obtain ⟨hd,vt,ix,sz,dy,sr,hr,g0,g1,g2,g3,g4,g5,g6⟩:=rc_nat hv;rw [hr];obtain ⟨aw,az,s,ay,ax,au,ar,ct,pl,rt,pa,si,pb,pc⟩:=r;dsimp only at g2 ⊢;clear hr hv;obtain ⟨J,G⟩:∃J:World,J=w.alloc (.cells (cR ⟨hd,vt,s,ix,sz,dy,sr,ct,pl,rt,pa,si,pb,pc⟩) tR):=⟨_,rfl⟩
 have ac:Below w.heap.size w J:=by rw [G];exact bl
 have aa:J.heap[w.heap.size]? =some (.cells (cR ⟨hd,vt,s,ix,sz,dy,sr,ct,pl,rt,pa,si,pb,pc⟩) tR (0,0)):=by rw [G];exact zy w _
 have HWE:=lh G;have HB1:=lh ac;have aj:=lh (yb3 aa);have U:=lh (ssigned_any hd vt ix sz dy sr s rt ct pl si pa pb pc J om);have ae:=lh (vlOk_G g2 ⟨g0,g1,g3,g4,g5,g6⟩);have K:=flat_G hd vt s ix sz dy sr;have ak:=encSg_len hd vt ix sz dy sr s g2
 have ap:Hid (∀V A c,SlN fVl 6 V V.heap.size A 7 (vlG hd vt s ix sz dy sr)->Calls prog 128 #[.slice A 7 c] V fun e H=>∃v,e= .returned (.tuple #[v,.int .i64 0])/\Own fB 5 H V.heap.size v (encSg hd vt s ix sz dy sr)/\Below V.heap.size V H):=fun V A c h=>by
  have:=rencode_any _ A 7 c V h ae.out (by rw [K];omega) om;rw [K] at this;exact this
 have ah:Hid (encS ⟨hd,vt,s,ix,sz,dy,sr,ct,pl,rt,pa,si,pb,pc⟩=encSg hd vt s ix sz dy sr):=rfl;rw [ah.out];rw [G] at U;clear g0 g1 g2 g3 g4 g5 g6 K ak G ac aa;go_enter func158,ntmps158
 go_wp2_with (first
  |(with_reducible refine wpList_load_mid (op:=⟨some 6,_,_,_,_,_⟩) rfl tR (.tmp 1) rfl w.heap.size 0 rfl (cR ⟨hd,vt,s,ix,sz,dy,sr,ct,pl,rt,pa,si,pb,pc⟩).toList _ (by rw [<-HWE.out];exact aj.out) underlying35 rfl (ybJ ⟨hd,vt,s,ix,sz,dy,sr,ct,pl,rt,pa,si,pb,pc⟩) ?_)
  |(go_at_call 188;(with_reducible refine U.out.mono ?_);rintro e w2 ⟨u,rfl,O⟩;(obtain ⟨Af,cf,hu,aq,T⟩:=O.row);(have M:=O.2);(rw [<-HWE.out] at M);(have af:=lh (bt HB1.out M));(have ag:=lh (ap.out w2 Af cf T));(rw [show (vlG hd vt s ix sz dy sr).length=7 from rfl] at hu);subst hu;clear T O aq M)
  |(go_at_call 128;(with_reducible refine ag.out.mono ?_);rintro e w9 ⟨v9,rfl,Z,Y⟩;(obtain ⟨A9,c9,W,N,z,_⟩:=Z.shape);(obtain ⟨N9,L⟩:=gx ((encSg hd vt s ix sz dy sr).length));(rw [L] at W N);(have am:Hid (Sl fB w9 w9.heap.size A9 N9 (encSg hd vt s ix sz dy sr)):=⟨L,z⟩);(have ao:=lh Y);(have ai:=lh N);subst W;clear Z z Y L N))
 go_ret;exact ⟨A9,N9,c9,rfl,ai.out,am.out,bt af.out ao.out⟩
theorem rcleaf_any (r:Rcp) (ps qs rs:List ByteArray) (w:World) (N:vaB r ps qs rs=true):
 Calls prog 96 #[.agg (cR r)] w fun e O=>e= .returned (.string (leafS (encS r)))/\Below w.heap.size w O:=by
 obtain ⟨H,G⟩:∃H:World,H=w.alloc (.cells (cR r) tR):=⟨_,rfl⟩
 have L:Below w.heap.size w H:=by rw [G];exact bl
 have K:H.heap[w.heap.size]? =some (.cells (cR r) tR (0,0)):=by rw [G];exact zy w _
 have HWE:=lh G;have HB1:=lh L;have aa:=lh (yb3 K);have J:=lh (rsigned_any r ps qs rs H N);have ac:(encS r).length<=92:=encSg_len _ _ _ _ _ _ _ (yb2 N).2.2.1;have M:Byt (encS r):=encSg_byt _ _ _ _ _ _ _
 have W:Hid (∀V A n c,Sl fB V V.heap.size A n (encS r)->Calls prog 157 #[.slice A n c] V fun e O=>e= .returned (.string (leafS (encS r)))/\Below V.heap.size V O):=fun V A n c h=>
  ydn A n c V.heap.size _ V h nl (by have:=h.1;omega) M
 rw [G] at J;clear ac M G L K N;go_enter func96,ntmps96
 go_wp2_with (first
  |(with_reducible refine wpList_load_mid (op:=⟨some 3,_,_,_,_,_⟩) rfl tR (.tmp 1) rfl w.heap.size 0 rfl (cR r).toList _ (by rw [<-HWE.out];exact aa.out) underlying35 rfl (ybJ r) ?_)
  |(go_at_call 158;(with_reducible refine J.out.mono ?_);rintro e U ⟨A2,n2,c2,rfl,_,h2,T⟩;(have Z:=lh (W.out U A2 n2 c2 h2));(have Y:Hid (Below w.heap.size w U):=HB1.out.trans (Below.mono (by rw [<-HWE.out] at T;exact T) HB1.out.size));clear h2 T)
  |(go_at_call 157;(with_reducible refine Z.out.mono ?_);rintro e w3 ⟨rfl,b3⟩;(have z:Hid (Below w.heap.size w w3):=bt Y.out b3);clear b3))
 go_ret;exact ⟨rfl,z.out⟩
def vT (s:ByteArray):Vl:=⟨5,0,0,false,s,0⟩
abbrev rcT:ByteArray:=⟨#[114,101,99,101,105,112,116,115]⟩
theorem rbatch_any (rt:ByteArray) (ct:Nat) (w:World) (L:rt.size=32) (af:ct<=256):
 Calls prog 98 #[.string rt,.int .i64 ct] w fun e G=>e= .returned (.string (btS rt ct))/\Below w.heap.size w G:=by
 have HS:=lh (fun W=>ssumv_any rt W);have HN:=lh (fun W=>ybV (ct:Int) W om om)
 have J:[vT rcT,vS rt,vN ct].flatMap encR=encB rt ct:=by
  show (enc 8++[114,101,99,101,105,112,116,115])++(sB rt++(enc ct++[]))=_;unfold encB;rw [List.append_nil,List.append_assoc,List.append_assoc];simp only [List.append_assoc]
 have U:∀x∈[vT rcT,vS rt,vN ct],VlOk x:=fun x hx=>by
  simp only [List.mem_cons,List.not_mem_nil,or_false] at hx;rcases hx with rfl |rfl |rfl
  ·exact .inr (.inr (.inl ⟨rfl,by decide⟩))
  ·exact vlOk_S L
  ·exact vlOk_N ⟨by omega,by omega⟩
 have ag:=encB_len rt ct L
 have aj:Hid (∀V A c,SlN fVl 6 V V.heap.size A 3 [vT rcT,vS rt,vN ct]->Calls prog 128 #[.slice A 3 c] V fun e G=>∃v,e= .returned (.tuple #[v,.int .i64 0])/\Own fB 5 G V.heap.size v (encB rt ct)/\Below V.heap.size V G):=fun V A c h=>by
  have:=rencode_any _ A 3 c V h U (by rw [J];omega) om;rw [J] at this;exact this
 have ac:Hid (∀(V:World) N O c',Sl fB V V.heap.size N O (encB rt ct)->Calls prog 123 #[.slice N O c'] V fun e G=>e= .returned (.string (btS rt ct))/\Below V.heap.size V G):=fun V N O c' hs=>
  ydl N O c' V.heap.size _ V hs nl (by have:=hs.1;omega) (encB_byt rt ct)
 clear J U ag L af;go_enter func98,ntmps98
 go_wp2_with (first
  |(go_at_call 163;(with_reducible refine (HS.out _).mono ?_);rintro e w1 ⟨rfl,b1⟩;(have HB1:=lh b1);clear b1)
  |(go_at_call 164;(with_reducible refine (HN.out _).mono ?_);rintro e w2 ⟨rfl,b2⟩;(have H:=lh (bt HB1.out b2));clear b2;(have ae:=lh (aj.out (w2.alloc (.cells #[.int .i64 5,.int .u64 0,.int .i64 0,.bool false,.string ⟨#[114,101,99,101,105,112,116,115]⟩,.int .i64 0,.int .i64 (vS rt).kind,.int .u64 (vS rt).u,.int .i64 (vS rt).n,.bool (vS rt).b,.string (vS rt).s,.int .i64 (vS rt).most,.int .i64 (vN ct).kind,.int .u64 (vN ct).u,.int .i64 (vN ct).n,.bool (vN ct).b,.string (vN ct).s,.int .i64 (vN ct).most] tVl)) (some ⟨w2.heap.size,0,none⟩) 3 (SlN.of_rows (xs:=[vT rcT,vS rt,vN ct]) fVl_len (zy _ _) rfl sI rfl))))
  |(go_at_call 128;(with_reducible refine ae.out.mono ?_);rintro e w9 ⟨v9,rfl,Z,Y⟩;(obtain ⟨A9,c9,T,ah,z,_⟩:=Z.shape);(obtain ⟨N9,K⟩:=gx ((encB rt ct).length));(rw [K] at T);(have ak:=lh (ac.out w9 A9 N9 c9 ⟨K,z⟩));(have ai:Hid (Below w.heap.size w w9):=(H.out.alloc H.out.size _).trans (Y.mono (by have:=H.out.size;simp;omega)));subst T;clear Z Y K ah z)
  |(go_at_call 123;(with_reducible refine ak.out.mono ?_);rintro e am ⟨rfl,M⟩;(have aa:=lh (bt ai.out M));clear M))
 go_ret;exact ⟨rfl,aa.out⟩
theorem ydc (r:Rcp) (ps qs rs:List ByteArray) (B:Nat) (w:World) (hx:RcIn w B r ps qs rs) (hB:B<=w.heap.size) (ac:r.pa.n<=1000000) (ae:r.pb.n<=1000000) (aa:r.pc.n<=1000000):Calls prog 45 #[.agg #[.int .i64 r.hd,.int .i64 r.vt,.string r.s,.int .i64 r.ix,.int .i64 r.sz,.int .i64 r.dy,.int .i64 r.sr,.int .i64 r.ct,.int .i64 r.pl,.string r.rt,.slice r.pa.a r.pa.n r.pa.c,.int .i64 r.si,.slice r.pb.a r.pb.n r.pb.c,.slice r.pc.a r.pc.n r.pc.c]] w fun e H=>e= .returned (.bool (vaB r ps qs rs))/\Below w.heap.size w H:=by
 have U:Hid (∀V,Below w.heap.size w V->RcIn V B r ps qs rs):=fun V G=>hx.up G hB;have Z:=lh (fun W=>ybL r.hd 0 11 W);have N:=lh (fun W=>good_any r.vt r.s r.ix r.sz W);have z:=lh (fun W=>ybL r.dy 0 999999 W);have O:=lh (fun W=>ybL r.sr 0 1099511627776 W);have Y:=lh (fun W=>ybL r.ct 1 256 W);have T:=lh (fun W=>ybL r.pl 0 (r.ct - 1) W);have K:=lh (fun W=>ybL r.si 0 255 W);have H7:Hid (∀V,Below w.heap.size w V->Calls prog 94 #[.slice r.pa.a r.pa.n r.pa.c,.int .i64 8] V fun e H=>e= .returned (.bool (arB ps 8))/\V=H):=fun V G=>ydH _ _ _ B 8 ps V (U.out V G).1 ac;have H8:Hid (∀V,Below w.heap.size w V->Calls prog 94 #[.slice r.pc.a r.pc.n r.pc.c,.int .i64 8] V fun e H=>e= .returned (.bool (arB rs 8))/\V=H):=fun V G=>ydH _ _ _ B 8 rs V (U.out V G).2.2 aa;have M:Hid (∀V,Below w.heap.size w V->Calls prog 94 #[.slice r.pb.a r.pb.n r.pb.c,.int .i64 300] V fun e H=>e= .returned (.bool (arB qs 300))/\V=H):=fun V G=>ydH _ _ _ B 300 qs V (U.out V G).2.1 ae;have J:Hid (Below w.heap.size w ((w.alloc (.cells #[.int .i64 r.hd,.int .i64 r.vt,.string r.s,.int .i64 r.ix,.int .i64 r.sz,.int .i64 r.dy,.int .i64 r.sr,.int .i64 r.ct,.int .i64 r.pl,.string r.rt,.slice r.pa.a r.pa.n r.pa.c,.int .i64 r.si,.slice r.pb.a r.pb.n r.pb.c,.slice r.pc.a r.pc.n r.pc.c] 35)).alloc (.cells #[.int .i64 r.vt,.string r.s,.int .i64 r.ix,.int .i64 r.sz] 158))):=bl.alloc sI _;have HB1:Hid (Below w.heap.size w (w.alloc (.cells #[.int .i64 r.hd,.int .i64 r.vt,.string r.s,.int .i64 r.ix,.int .i64 r.sz,.int .i64 r.dy,.int .i64 r.sr,.int .i64 r.ct,.int .i64 r.pl,.string r.rt,.slice r.pa.a r.pa.n r.pa.c,.int .i64 r.si,.slice r.pb.a r.pb.n r.pb.c,.slice r.pc.a r.pc.n r.pc.c] 35))):=bl;unfold vaB;clear hx hB
 revert Z N z O Y T K H7 H8 M
 cases rgB r.hd 0 11
 rotate_left
 cases pvB r.vt r.s r.ix r.sz
 rotate_left
 cases rgB r.dy 0 999999
 rotate_left
 cases rgB r.sr 0 1099511627776
 rotate_left
 cases h4:rgB r.ct 1 256
 rotate_left
 cases rgB r.pl 0 (r.ct - 1)
 rotate_left
 cases L:decide (r.rt.size=32)
 rotate_left
 cases arB ps 8
 rotate_left
 cases rgB r.si 0 255
 rotate_left
 cases arB qs 300
 rotate_left
 cases arB rs 8
 rotate_left
 all_goals
  intro Z N z O Y T K H7 H8 M
  try (have ag:=of_decide_eq_true h4;clear h4)
  try (have af:(((r.rt).size:Nat):Int)=32:=(by have:=of_decide_eq_true L;omega))
  try (have af:=size32 r.rt L)
  try (have ah:=ydG r.rt L)
  try clear L
  go_enter func45,ntmps45
  go_wp2_with (first
   |(go_at_call 92;(with_reducible refine (Z.out _).mono ?_);rintro e w1 ⟨rfl,rfl⟩)
   |(go_at_call 92;(with_reducible refine (z.out _).mono ?_);rintro e w1 ⟨rfl,rfl⟩)
   |(go_at_call 92;(with_reducible refine (O.out _).mono ?_);rintro e w1 ⟨rfl,rfl⟩)
   |(go_at_call 92;(with_reducible refine (Y.out _).mono ?_);rintro e w1 ⟨rfl,rfl⟩)
   |(go_at_call 92;(with_reducible refine (T.out _).mono ?_);rintro e w1 ⟨rfl,rfl⟩)
   |(go_at_call 92;(with_reducible refine (K.out _).mono ?_);rintro e w1 ⟨rfl,rfl⟩)
   |(go_at_call 93;(with_reducible refine (N.out _).mono ?_);rintro e w1 ⟨rfl,rfl⟩)
   |(go_at_call 94;(with_reducible refine (H7.out _ J.out).mono ?_);rintro e w1 ⟨rfl,rfl⟩)
   |(go_at_call 94;(with_reducible refine (H8.out _ J.out).mono ?_);rintro e w1 ⟨rfl,rfl⟩)
   |(go_at_call 94;(with_reducible refine (M.out _ J.out).mono ?_);rintro e w1 ⟨rfl,rfl⟩))
  go_ret;exact ⟨ybg yaJ,by first |exact J.out |exact HB1.out⟩
theorem isToken_any (s:ByteArray) (ix:Int) (no an:ByteArray) (w:World):Calls prog 38 #[.agg #[.string s,.int .i64 ix,.string no,.string an]] w fun e W=>e= .returned (.bool (tkB s ix no an))/\Below w.heap.size w W:=by
 obtain ⟨H,G⟩:∃H:World,H=w.alloc (.cells #[.string s,.int .i64 ix,.string no,.string an] 37):=⟨_,rfl⟩
 have L:Below w.heap.size w H:=by rw [G];exact bl
 have M:H.heap[w.heap.size]? =some (.cells #[.string s,.int .i64 ix,.string no,.string an] 37 (0,0)):=by rw [G];exact zy w _
 have HC:Hid (∀V,Below H.heap.size H V->V.cell? ⟨w.heap.size,2,none⟩=some (.string no)/\V.cell? ⟨w.heap.size,3,none⟩=some (.string an)):=fun V U=>by
  have h:=(U.block _ (lb M)).trans M;exact ⟨by rw [cell_of_row V _ 2 _ _ _ h];rfl,by rw [cell_of_row V _ 3 _ _ _ h];rfl⟩
 have K:=lh (isID_any s ix H);have HB1:=lh L;have HWE:=lh G;rw [G] at K;unfold tkB;clear L M G
 revert K
 cases idB s ix
 rotate_left
 cases h1:decide (no.size=32)
 rotate_left
 cases h2:decide (an.size=32)
 rotate_left
 all_goals
  intro K
  try (have O:(((no).size:Nat):Int)=32:=(by have:=of_decide_eq_true h1;omega))
  try (have O:=size32 no h1)
  try (have Y:=ydG no h1)
  try clear h1
  try (have N:(((an).size:Nat):Int)=32:=(by have:=of_decide_eq_true h2;omega))
  try (have N:=size32 an h2)
  try (have Z:=ydG an h2)
  try clear h2
  go_enter func38,ntmps38
  go_wp2_with (first
   |(go_at_call 85;(with_reducible refine K.out.mono ?_);rintro e w2 ⟨rfl,J⟩;rw [<-HWE.out] at J;(have T:=lh (bt HB1.out J));obtain ⟨q2,z⟩:=HC.out _ J;clear J))
  go_ret;exact ⟨ybg yaJ,T.out⟩
theorem tkB_facts {s:ByteArray} {ix:Int} {no an:ByteArray} (h:tkB s ix no an=true):s.size=32/\(0<=ix/\ix<=15)/\no.size=32/\an.size=32:=by
 unfold tkB idB at h;simp only [Bool.and_eq_true,decide_eq_true_eq] at h;exact ⟨h.1.1,h.1.2,h.2.1,h.2.2⟩
open Go.RowKit
theorem token_any (s:ByteArray) (ix:Int) (no an:ByteArray) (w:World):Calls prog 46 #[.agg #[.string s,.int .i64 ix,.string no,.string an]] w fun e G=>e= .returned (.bool (tkB s ix no an))/\Below w.heap.size w G:=by
 have HR:Hid (tkB s ix no an=decide ((s.size=32/\0<=ix/\ix<=15)/\no.size=32/\an.size=32)):=by
  show _=_;unfold tkB idB;simp only [Bool.decide_and,Bool.and_assoc]
 by_cases h0:((s.size:Nat):Int)=32
 ·skip
  by_cases h1:0<=ix
  ·skip
   by_cases h2:ix < 16
   ·skip
    by_cases M:((no.size:Nat):Int)=32
    ·skip
     by_cases L:((an.size:Nat):Int)=32
     ·skip
      go_enter func46,ntmps46;go_wp2;go_ret;exact ⟨ybg yaI,bl⟩
     ·have H:(((an.size:Nat):Int)==32)=false:=by simp;omega
      go_enter func46,ntmps46;go_wp2;go_ret;exact ⟨ybg yaI,bl⟩
    ·have K:(((no.size:Nat):Int)==32)=false:=by simp;omega
     go_enter func46,ntmps46;go_wp2;go_ret;exact ⟨ybg yaI,bl⟩
   ·skip
    go_enter func46,ntmps46;go_wp2;go_ret;exact ⟨ybg yaI,bl⟩
  ·skip
   go_enter func46,ntmps46;go_wp2;go_ret;exact ⟨ybg yaI,bl⟩
 ·have J:(((s.size:Nat):Int)==32)=false:=by simp;omega
  go_enter func46,ntmps46;go_wp2;go_ret;exact ⟨ybg yaI,bl⟩
