import Derived.Test.YtpdledjgbgalcaaGreatDoorPn
import Derived.Test.YtpdledjgbgalcaaGreatDoorPg
namespace Go.Proofs.YtpdledjgbgalcaaGreatDoor
set_option maxRecDepth 100000
set_option maxHeartbeats 16000000
open Go.RowKit Go.Lib Go.Proofs.Tryz
set_option linter.unusedVariables false
set_option linter.unusedSimpArgs false
theorem mis_any (x:ByteArray) (H:x.size=32) (w:World):Calls prog 147 #[.string x] w fun e G=>e= .returned (.bool true)/\w=G:=by
 have h1:((x.size:Int)==32)=true:=by simp [H]
 go_enter func147,ntmps147;go_wp2;go_ret;exact ⟨rfl,rfl⟩
theorem masums_any (A:Option Addr) (n c B:Nat) (ys:List ByteArray) (w:World) (G:Sl fT w B A n ys) (hn:n<=1000000) (H:∀s∈ys,s.size=32):
 Calls prog 148 #[.slice A n c] w fun e K=>e= .returned (.bool true)/\w=K:=by
 have M:=lh G;have HXN:Hid (ys.length=n):=G.1;have L:=lh H;clear G H;go_enter func148,ntmps148;go_wp2
 go_loopw [7] (fun i wr=>(∃k:Nat,k<=n/\i= .int .i64 k)/\w=wr) (fun i _=>n - (intOf i).toNat)
 case atStart=>exact ⟨⟨0,by omega,rfl⟩,rfl⟩
 case round=>
  obtain ⟨⟨k,T,rfl⟩,rfl⟩:=hrel
  by_cases hlt:k < n
  ·obtain ⟨U,z,x,rfl,_,J,Z⟩:=M.out.2.at_ (k:=k) yba;have O:(k:Int) < (n:Int):=by omega
   have N:(0:Int)<=(k:Int):=by omega
   have HC:=lh (fun W=>mis_any x (L.out x (List.mem_of_getElem? J)) W);clear J;go_wp2_with (go_at_call 147;(with_reducible refine (HC.out _).mono ?_);rintro e Y ⟨rfl,rfl⟩);refine ⟨?rel,?measure⟩;case rel=>exact ⟨⟨k+1,by omega,by go_num⟩,by first |rfl |trivial⟩
   case measure=>(simp [intOf]<;>omega)
  ·obtain rfl:k=n:=by omega
   go_wp2;go_ret;exact ⟨rfl,by first |rfl |trivial⟩
def mvB (x:ByteArray) (i n:Nat) (ps:List ByteArray) (rt:ByteArray):Bool:=(upF 8 x i n ps).2&&decide ((upF 8 x i n ps).1=rt)
theorem mverify_any (x:ByteArray) (i n:Nat) (A:Option Addr) (m c B:Nat) (ps:List ByteArray) (rt:ByteArray) (w:World) (O:Glob w) (K:x.size=32) (hr:rt.size=32) (M:i < n) (hn:n<=256) (hp:Sl fT w B A m ps) (Z:B<=w.heap.size) (L:m<=c) (T:m<=8) (G:∀s∈ps,s.size=32):
 Calls prog 88 #[.string x,.int .i64 i,.int .i64 n,.slice A m c,.string rt] w fun e Y=>e= .returned (.bool (mvB x i n ps rt))/\Below w.heap.size w Y:=by
 have HX:=lh (fun W=>mis_any x K W);have HR:=lh (fun W=>mis_any rt hr W);have HP:=lh (masums_any A m c B ps w hp om G);have HC:=lh (climb_any 8 x i n A m c B ps w O K M hn hp Z L T om G);have J:Hid (mvB x i n ps rt=((upF 8 x i n ps).2&&decide ((upF 8 x i n ps).1=rt))):=rfl;obtain ⟨⟨r,U⟩,N⟩:=gX (upF 8 x i n ps);rw [N] at HC J;rw [J.out];have h1:decide ((i:Int) < 0)=false:=by simp
 have h2:decide ((n:Int)<=(i:Int))=false:=by simp;omega
 have h3:decide (n<=i)=false:=by simp;omega
 rw [beqN r rt];clear O hp G K hr N J;cases U
 all_goals
  go_enter func88,ntmps88
  go_wp2_with (first
   |(go_at_call 147;(first |(with_reducible refine (HX.out _).mono ?_) |(with_reducible refine (HR.out _).mono ?_));rintro e z ⟨rfl,rfl⟩)
   |(go_at_call 148;(with_reducible refine HP.out.mono ?_);rintro e z ⟨rfl,rfl⟩)
   |(go_at_call 149;(with_reducible refine HC.out.mono ?_);rintro e w6 ⟨rfl,H⟩;(have HB6:=lh H);clear H))
  go_ret;exact ⟨by rfl,HB6.out⟩
theorem rverify_any (x:ByteArray) (i n:Nat) (A:Option Addr) (m c B:Nat) (ps:List ByteArray) (rt:ByteArray) (w:World) (N:x.size=32) (hr:rt.size=32) (T:i < n) (hn:n<=256) (hp:Sl fT w B A m ps) (M:B<=w.heap.size) (O:m<=c) (Y:m<=8) (G:∀s∈ps,s.size=32):
 Calls prog 95 #[.string x,.int .i64 i,.int .i64 n,.slice A m c,.string rt] w fun e K=>e= .returned (.bool (mvB x i n ps rt))/\Below w.heap.size w K:=by
 have H:Below w.heap.size w (w.alloc (.cells #[.string x,.string rt] 9)):=bl
 have z:Hid (Calls prog 155 #[.slice (some ⟨w.heap.size,0,none⟩) 2 2] (w.alloc (.cells #[.string x,.string rt] 9)) fun e K=>e= .returned (.bool true)/\(w.alloc (.cells #[.string x,.string rt] 9))=K):=
  rsums_any _ 2 2 _ [x,rt] _ (two_sl w x rt) om (fun s h=>by
   rcases List.mem_cons.1 h with rfl |h
   ·exact N
   ·rcases List.mem_cons.1 h with rfl |h
    ·exact hr
    ·cases h)
 have HP:=lh (rsums_any A m c B ps _ (hp.up H M) om G);have HC:=lh (rup_any 8 x i n A m c B ps _ N T hn (hp.up H M) (lT M H.size) O Y om G);have HB:=lh H;have L:Hid (mvB x i n ps rt=((upF 8 x i n ps).2&&decide ((upF 8 x i n ps).1=rt))):=rfl;obtain ⟨⟨r,Z⟩,W⟩:=gX (upF 8 x i n ps);rw [W] at HC L;rw [L.out];have h1:decide ((i:Int) < 0)=false:=by simp
 have h2:decide ((n:Int)<=(i:Int))=false:=by simp;omega
 have h3:decide (n<=i)=false:=by simp;omega
 rw [beqN r rt];clear hp G N hr W L H;cases Z
 all_goals
  go_enter func95,ntmps95
  go_wp2_with (first
   |(go_at_call 155;(first |(with_reducible refine z.out.mono ?_) |(with_reducible refine HP.out.mono ?_));rintro e w5 ⟨rfl,U⟩;subst U)
   |(go_at_call 156;(with_reducible refine HC.out.mono ?_);rintro e w6 ⟨rfl,J⟩;(have HB6:=lh (bt HB.out J));clear J))
  go_ret;exact ⟨by rfl,HB6.out⟩
def encS (r:Rcp):List Int:=encSg r.hd.toNat r.vt.toNat r.s r.ix.toNat r.sz.toNat r.dy.toNat r.sr.toNat
theorem ycN {a b:List Int} (ha:Byt a) (hb:Byt b):Byt (a++b):=fun x hx=>by
 rcases List.mem_append.1 hx with h |h
 ·exact ha x h
 ·exact hb x h
theorem encSg_byt (hd vt ix sz dy sr:Nat) (s:ByteArray):Byt (encSg hd vt s ix sz dy sr):=
 ycN (ybO hd) (ycN (ybO vt) (ycN (ycR s) (ycN (ybO ix) (ycN (ybO sz) (ycN (ybO dy) (ybO sr))))))
theorem encSg_pos (hd vt ix sz dy sr:Nat) (s:ByteArray) (hs:s.size=32):0 < (encSg hd vt s ix sz dy sr).length:=by
 unfold encSg;simp only [List.length_append,ybS,hs];omega
theorem leaf_any (r:Rcp) (ps qs rs:List ByteArray) (w:World) (hG:Glob w) (hv:vaB r ps qs rs=true):
 Calls prog 89 #[.agg (cR r)] w fun e w'=>e= .returned (.string (leafS (encS r)))/\Below w.heap.size w w':=by
 obtain ⟨G,H⟩:∃G:World,G=w.alloc (.cells (cR r) tR):=⟨_,rfl⟩
 have aa:Below w.heap.size w G:=by rw [H];exact bl
 have z:G.heap.size=w.heap.size+1:=by rw [H];simp
 have ae:G.heap[w.heap.size]? =some (.cells (cR r) tR (0,0)):=by rw [H];exact zy w _
 have HWE:=lh H;obtain ⟨y0,y1,M,y3,y4,y5,y6,_⟩:=yb9 hv;obtain ⟨hd,vt,s,ix,sz,dy,sr,ct,pl,rt,pa,si,pb,pc⟩:=r;dsimp only at y0 y1 M y3 y4 y5 y6;obtain ⟨hd,rfl⟩:∃k:Nat,hd=k:=⟨hd.toNat,by omega⟩
 obtain ⟨vt,rfl⟩:∃k:Nat,vt=k:=⟨vt.toNat,by omega⟩
 obtain ⟨ix,rfl⟩:∃k:Nat,ix=k:=⟨ix.toNat,by omega⟩
 obtain ⟨sz,rfl⟩:∃k:Nat,sz=k:=⟨sz.toNat,by omega⟩
 obtain ⟨dy,rfl⟩:∃k:Nat,dy=k:=⟨dy.toNat,by omega⟩
 obtain ⟨sr,rfl⟩:∃k:Nat,sr=k:=⟨sr.toNat,by omega⟩
 obtain ⟨W3,J⟩:∃W3:World,W3=G.alloc (.cells #[.slice none 0 0,.int .i64 0] 217):=⟨_,rfl⟩
 have N:Below G.heap.size G W3:=by rw [J];exact bl
 have L:Below w.heap.size w W3:=bt aa N;have ac:W3.heap[w.heap.size]? =some (.cells (cR ⟨hd,vt,s,ix,sz,dy,sr,ct,pl,rt,pa,si,pb,pc⟩) tR (0,0)):=(N.block _ om).trans ae;have h0:Wc G.heap.size (G.heap.size+1) (.slice none 0 0) W3 [] W3:=by rw [J];exact Wc.start (Wr.new G)
 have W:=h0.step (P:=prog) (fun v' ah _=>wsigned_any G.heap.size (G.heap.size+1) v' _ hd vt ix sz dy sr s rt ct pl si pa pb pc W3 ah M om sI);have ao:=lh W;have ai:=lh (ycc ac);have ak:=lh J;have HS1:=lh z;have aj:=encSg_len hd vt ix sz dy sr s M;have ap:=encSg_pos hd vt ix sz dy sr s M
 have HBW:Hid (∀bs V,Wc G.heap.size (G.heap.size+1) (.slice none 0 0) W3 bs V->Below w.heap.size w V):=fun bs V h=>by
  obtain ⟨v1,_,hb,_⟩:=h
  exact L.trans (hb.below L.size (fun i hi=>by
   rcases hi with rfl |hi
   ·omega
   ·cases hi))
 have al:Hid (∀(V:World) T K O,Below w.heap.size w V->Sl fB V V.heap.size T K (encSg hd vt s ix sz dy sr)->K<=O->Calls prog 151 #[.slice T K O] V fun e w'=>e= .returned (.string (leafS (encS ⟨hd,vt,s,ix,sz,dy,sr,ct,pl,rt,pa,si,pb,pc⟩)))/\Below V.heap.size V w'):=fun V T K O hb hs hc=>
  ydB T K O V.heap.size _ V (hG.on hb) hs hc nl (by have:=hs.1;omega) (encSg_byt _ _ _ _ _ _ _) (own_hA hs (by have:=hs.1;omega))
 have aq:Hid (∀V,Wc G.heap.size (G.heap.size+1) (.slice none 0 0) W3 ([]++encSg hd vt s ix sz dy sr) V->Calls prog 78 #[.pointer (some ⟨G.heap.size,0,none⟩)] V (Slc2 fB ([]++encSg hd vt s ix sz dy sr) 0 V)):=fun V h=>by
  obtain ⟨v9,af,_,_⟩:=h;exact wdone_any _ _ v9 _ V af (by rw [List.nil_append];omega)
 clear hv y0 y1 M y3 y4 y5 y6 H aa z ae J N L ac h0 W aj ap hG;go_enter func89,ntmps89;go_upto_region 1 with fail
 rw [<-HWE.out];go_wp2_with fail;refine (ycH G).mono ?_;rintro e V1 ⟨rfl,U⟩;rw [<-ak.out] at U;subst U
 go_wp2_with (first
  |(with_reducible refine wpList_load_mid (op:=⟨some 8,_,_,_,_,_⟩) rfl tR (.tmp 1) rfl w.heap.size 0 rfl (cR ⟨hd,vt,s,ix,sz,dy,sr,ct,pl,rt,pa,si,pb,pc⟩).toList _ ai.out underlying35 rfl (ybT ⟨hd,vt,s,ix,sz,dy,sr,ct,pl,rt,pa,si,pb,pc⟩) ?_)
  |(go_at_call 150;(with_reducible refine ao.out.mono ?_)))
 rintro e V2 ⟨rfl,h2⟩;have HD:=lh (aq.out V2 h2);have am:=lh (HBW.out _ V2 h2);clear h2;go_wp2_with fail;refine HD.out.mono ?_;rintro e VX ⟨A9,n9,c9,rfl,q1,q2,q3⟩;have Y:=lh (bt am.out q3);have ag:=lh (al.out VX A9 n9 c9 Y.out q2 q1);clear q1 q2 q3;go_wp2_with (go_at_call 151;(with_reducible refine ag.out.mono ?_);rintro e w9 ⟨rfl,Z⟩;(have HB9:=lh (bt Y.out Z));clear Z);go_ret;exact ⟨rfl,HB9.out⟩
def encB (rt:ByteArray) (ct:Nat):List Int:=((enc 8++[114,101,99,101,105,112,116,115])++sB rt)++enc ct
theorem encB_len (rt:ByteArray) (ct:Nat) (h:rt.size=32):(encB rt ct).length<=60/\32<=(encB rt ct).length:=by
 unfold encB;simp only [List.length_append,ybS,h];have h1:=ybx 8;have h2:=ybx ct;simp only [List.length_cons,List.length_nil];omega
theorem encB_byt (rt:ByteArray) (ct:Nat):Byt (encB rt ct):=
 ycN (ycN (ycN (ybO 8) (by
    intro z G
    (rcases List.mem_cons.1 G with rfl |G; ·omega);(rcases List.mem_cons.1 G with rfl |G; ·omega);(rcases List.mem_cons.1 G with rfl |G; ·omega);(rcases List.mem_cons.1 G with rfl |G; ·omega);(rcases List.mem_cons.1 G with rfl |G; ·omega);(rcases List.mem_cons.1 G with rfl |G; ·omega);(rcases List.mem_cons.1 G with rfl |G; ·omega);(rcases List.mem_cons.1 G with rfl |G; ·omega);cases G)) (ycR rt)) (ybO ct)
def btS (rt:ByteArray) (ct:Nat):ByteArray:=baOf (shaB (encB rt ct))
theorem btS_size (rt:ByteArray) (ct:Nat):(btS rt ct).size=32:=by unfold btS;rw [<-ybS,ybL (ycJ _),ycv]
theorem batch_any (rt:ByteArray) (ct:Nat) (w:World) (hG:Glob w) (H:rt.size=32) (ap:ct<=256):
 Calls prog 91 #[.string rt,.int .i64 ct] w fun e J=>e= .returned (.string (btS rt ct))/\Below w.heap.size w J:=by
 obtain ⟨W3,K⟩:∃W3:World,W3=w.alloc (.cells #[.slice none 0 0,.int .i64 0] 217):=⟨_,rfl⟩
 have N:Below w.heap.size w W3:=by rw [K];exact bl
 have h0:Wc w.heap.size (w.heap.size+1) (.slice none 0 0) W3 [] W3:=by rw [K];exact Wc.start (Wr.new w)
 have ai:=lh K
 have HBW:Hid (∀bs V,Wc w.heap.size (w.heap.size+1) (.slice none 0 0) W3 bs V->Below w.heap.size w V):=fun bs V h=>by
  obtain ⟨v1,_,z,_⟩:=h
  exact N.trans (z.below N.size (fun i hi=>by
   rcases hi with rfl |hi
   ·omega
   ·cases hi))
 have H1:=lh (h0.step (P:=prog) (fun M G _=>wtext_any w.heap.size (w.heap.size+1) M _ ⟨#[114,101,99,101,105,112,116,115]⟩ W3 G de sI));have af:=ybx 8;have al:=ybx ct
 have Z:Hid (∀V,Wc w.heap.size (w.heap.size+1) (.slice none 0 0) W3 ([]++(enc 8++[114,101,99,101,105,112,116,115])) V->Calls prog 77 #[.pointer (some ⟨w.heap.size,0,none⟩),.string rt] V fun e J=>e= .returned (.tuple #[])/\Wc w.heap.size (w.heap.size+1) (.slice none 0 0) W3 (([]++(enc 8++[114,101,99,101,105,112,116,115]))++sB rt) J):=fun V h=>
  h.step (P:=prog) (fun M G _=>wsum_any w.heap.size (w.heap.size+1) M _ rt V G H (by simp only [List.length_append,List.length_nil,List.length_cons];omega))
 have aa:Hid (∀V,Wc w.heap.size (w.heap.size+1) (.slice none 0 0) W3 (([]++(enc 8++[114,101,99,101,105,112,116,115]))++sB rt) V->Calls prog 73 #[.pointer (some ⟨w.heap.size,0,none⟩),.int .u64 ct] V fun e J=>e= .returned (.tuple #[])/\Wc w.heap.size (w.heap.size+1) (.slice none 0 0) W3 ((([]++(enc 8++[114,101,99,101,105,112,116,115]))++sB rt)++enc ct) J):=fun V h=>
  h.step (P:=prog) (fun M G _=>yb4 w.heap.size (w.heap.size+1) M _ ct V G om (by simp only [List.length_append,List.length_nil,List.length_cons,ybS,H];omega))
 have ao:Hid (∀V,Wc w.heap.size (w.heap.size+1) (.slice none 0 0) W3 ((([]++(enc 8++[114,101,99,101,105,112,116,115]))++sB rt)++enc ct) V->Calls prog 78 #[.pointer (some ⟨w.heap.size,0,none⟩)] V (Slc2 fB (encB rt ct) 0 V)):=fun V h=>by
  obtain ⟨v9,ag,_,_⟩:=h;have h9:Wr V w.heap.size (w.heap.size+1) v9 (encB rt ct):=ag;exact wdone_any _ _ v9 _ V h9 (by have:=encB_len rt ct H;omega)
 have aj:Hid (∀(V:World) T L O,Below w.heap.size w V->Sl fB V V.heap.size T L (encB rt ct)->L<=O->Calls prog 154 #[.slice T L O] V fun e J=>e= .returned (.string (btS rt ct))/\Below V.heap.size V J):=fun V T L O z hs hc=>by
  have hl:=encB_len rt ct H;exact ssum_any T L O V.heap.size _ V (hG.on z) hs hc nl (by have:=hs.1;omega) (encB_byt rt ct) (own_hA hs (by have:=hs.1;omega))
 have aq:(ct:Int) % 18446744073709551616=ct:=by omega
 clear hG K N h0 af al H;go_enter func91,ntmps91;go_wp2_with fail;refine (ycH w).mono ?_;rintro e V1 ⟨rfl,U⟩;rw [<-ai.out] at U;subst U;go_wp2_with fail;refine H1.out.mono ?_;rintro e V2 ⟨rfl,h2⟩;have ae:=lh (Z.out V2 h2);clear h2;go_wp2_with fail;refine ae.out.mono ?_;rintro e V3 ⟨rfl,h3⟩;have ac:=lh (aa.out V3 h3);clear h3;go_wp2_with fail;refine ac.out.mono ?_;rintro e V4 ⟨rfl,h4⟩;have ak:=lh (ao.out V4 h4);have am:=lh (HBW.out _ V4 h4);clear h4;go_wp2_with fail;refine ak.out.mono ?_;rintro e VX ⟨A9,n9,c9,rfl,q1,q2,q3⟩;have W:=lh (bt am.out q3);have ah:=lh (aj.out VX A9 n9 c9 W.out q2 q1);clear q1 q2 q3;go_wp2_with (go_at_call 154;(with_reducible refine ah.out.mono ?_);rintro e w9 ⟨rfl,Y⟩;(have HB9:=lh (bt W.out Y));clear Y);go_ret;exact ⟨rfl,HB9.out⟩
theorem yb2 (n:Int) (w:World) (h0:0<=n) (h1:n<=9223372036854775807):
 Calls prog 164 #[.int .i64 n] w fun e G=>e= .returned (aVl (vN n))/\Below w.heap.size w G:=by
 have H:n % 18446744073709551616=n:=by omega
 go_enter func164,ntmps164;go_wp2_with (refine ybr (o:=⟨none,.store 188 (.tmp 2) (.tmp 5),_,_,_,_⟩) rfl 188 (.tmp 2) (.tmp 5) rfl 188 _ (fVl (vN n)).toArray rfl rfl Tryz.sizeVl rfl (fVl_all _) ?_);exact bodyPost_ret (results_cell_row rfl _ _ _ _ (fVl (vN n)).toArray _ _ rfl (zy w _) underlying188 rfl Tryz.sizeVl) rfl ⟨rfl,bl⟩
theorem ssumv_any (s:ByteArray) (w:World):
 Calls prog 163 #[.string s] w fun e G=>e= .returned (aVl (vS s))/\Below w.heap.size w G:=by
 go_enter func163,ntmps163;go_wp2_with (refine ybr (o:=⟨none,.store 188 (.tmp 2) (.tmp 4),_,_,_,_⟩) rfl 188 (.tmp 2) (.tmp 4) rfl 188 _ (fVl (vS s)).toArray rfl rfl Tryz.sizeVl rfl (fVl_all _) ?_);exact bodyPost_ret (results_cell_row rfl _ _ _ _ (fVl (vS s)).toArray _ _ rfl (zy w _) underlying188 rfl Tryz.sizeVl) rfl ⟨rfl,bl⟩
def vlG (hd vt:Nat) (s:ByteArray) (ix sz dy sr:Nat):List Vl:=[vN hd,vN vt,vS s,vN ix,vN sz,vN dy,vN sr]
theorem flat_G (hd vt:Nat) (s:ByteArray) (ix sz dy sr:Nat):(vlG hd vt s ix sz dy sr).flatMap encR=encSg hd vt s ix sz dy sr:=by
 unfold vlG encSg;simp only [List.flatMap_cons,List.flatMap_nil,encR_N,encR_S,List.append_nil,Int.toNat_natCast]
theorem ssigned_any (hd vt ix sz dy sr:Nat) (s rt:ByteArray) (ct pl si:Int) (pa pb pc:Hd) (w:World) (hN:hd<=1099511627776/\vt<=1099511627776/\ix<=1099511627776/\sz<=1099511627776/\dy<=1099511627776/\sr<=1099511627776):
 Calls prog 188 #[.agg #[.int .i64 (hd:Int),.int .i64 (vt:Int),.string s,.int .i64 (ix:Int),.int .i64 (sz:Int),.int .i64 (dy:Int),.int .i64 (sr:Int),.int .i64 ct,.int .i64 pl,.string rt,.slice pa.a pa.n pa.c,.int .i64 si,.slice pb.a pb.n pb.c,.slice pc.a pc.n pc.c]] w fun e J=>∃u,e= .returned u/\VA w J u (vlG hd vt s ix sz dy sr):=by
 obtain ⟨H,K⟩:∃H:World,H=w.alloc (.cells #[.int .i64 (hd:Int),.int .i64 (vt:Int),.string s,.int .i64 (ix:Int),.int .i64 (sz:Int),.int .i64 (dy:Int),.int .i64 (sr:Int),.int .i64 ct,.int .i64 pl,.string rt,.slice pa.a pa.n pa.c,.int .i64 si,.slice pb.a pb.n pb.c,.slice pc.a pc.n pc.c] 35):=⟨_,rfl⟩
 have z:Below w.heap.size w H:=by rw [K];exact bl
 have ae:H.heap.size=w.heap.size+1:=by rw [K];simp
 have N:H.heap[w.heap.size]? =some (.cells #[.int .i64 (hd:Int),.int .i64 (vt:Int),.string s,.int .i64 (ix:Int),.int .i64 (sz:Int),.int .i64 (dy:Int),.int .i64 (sr:Int),.int .i64 ct,.int .i64 pl,.string rt,.slice pa.a pa.n pa.c,.int .i64 si,.slice pb.a pb.n pb.c,.slice pc.a pc.n pc.c] 35 (0,0)):=by rw [K];exact zy w _
 have O:Hid (∀V,Below H.heap.size H V->V.cell? ⟨w.heap.size,0,none⟩=some (.int .i64 (hd:Int))/\V.cell? ⟨w.heap.size,1,none⟩=some (.int .i64 (vt:Int))/\V.cell? ⟨w.heap.size,2,none⟩=some (.string s)/\V.cell? ⟨w.heap.size,3,none⟩=some (.int .i64 (ix:Int))/\V.cell? ⟨w.heap.size,4,none⟩=some (.int .i64 (sz:Int))/\V.cell? ⟨w.heap.size,5,none⟩=some (.int .i64 (dy:Int))/\V.cell? ⟨w.heap.size,6,none⟩=some (.int .i64 (sr:Int))):=fun V hb=>by
  have h:=(hb.block w.heap.size om).trans N;refine ⟨?_,?_,?_,?_,?_,?_,?_⟩<;>(rw [cell_of_row V _ _ _ _ _ h];rfl)
 obtain ⟨n0,n1,n2,n3,n4,n5⟩:=hN;have T:Hid (0<=(hd:Int)/\(hd:Int)<=9223372036854775807):=by show _/\_;omega
 have W:Hid (0<=(vt:Int)/\(vt:Int)<=9223372036854775807):=by show _/\_;omega
 have M:Hid (0<=(ix:Int)/\(ix:Int)<=9223372036854775807):=by show _/\_;omega
 have Y:Hid (0<=(sz:Int)/\(sz:Int)<=9223372036854775807):=by show _/\_;omega
 have Z:Hid (0<=(dy:Int)/\(dy:Int)<=9223372036854775807):=by show _/\_;omega
 have U:Hid (0<=(sr:Int)/\(sr:Int)<=9223372036854775807):=by show _/\_;omega
 have HB1:=lh z;have HWE:=lh K;have HB:Hid (Below H.heap.size H H):=Below.refl _ _;clear z ae N K n0 n1 n2 n3 n4 n5;go_enter func188,ntmps188;go_upto_region 1 with fail
 rw [<-HWE.out];have ac:=O.out _ HB.out
 go_region_held3 (fun J=>J.cell? ⟨w.heap.size,0,none⟩=some (.int .i64 (hd:Int))/\J.cell? ⟨w.heap.size,1,none⟩=some (.int .i64 (vt:Int))/\J.cell? ⟨w.heap.size,2,none⟩=some (.string s)/\J.cell? ⟨w.heap.size,3,none⟩=some (.int .i64 (ix:Int))/\J.cell? ⟨w.heap.size,4,none⟩=some (.int .i64 (sz:Int))/\J.cell? ⟨w.heap.size,5,none⟩=some (.int .i64 (dy:Int))/\J.cell? ⟨w.heap.size,6,none⟩=some (.int .i64 (sr:Int))) (first |exact O.out _ HB.out |go_keep) (first
  |(go_at_call 164;(with_reducible (refine (yb2 (hd:Int) _ (T.out).1 (T.out).2).mono ?_));rintro e L ⟨rfl,G⟩;(have HB:=lh (HB.out.trans (Below.mono (Below.trans yaV G) HB.out.size)));clear G)
  |(go_at_call 164;(with_reducible (refine (yb2 (vt:Int) _ (W.out).1 (W.out).2).mono ?_));rintro e L ⟨rfl,G⟩;(have HB:=lh (HB.out.trans (Below.mono (Below.trans yaV G) HB.out.size)));clear G)
  |(go_at_call 164;(with_reducible (refine (yb2 (ix:Int) _ (M.out).1 (M.out).2).mono ?_));rintro e L ⟨rfl,G⟩;(have HB:=lh (HB.out.trans (Below.mono (Below.trans yaV G) HB.out.size)));clear G)
  |(go_at_call 164;(with_reducible (refine (yb2 (sz:Int) _ (Y.out).1 (Y.out).2).mono ?_));rintro e L ⟨rfl,G⟩;(have HB:=lh (HB.out.trans (Below.mono (Below.trans yaV G) HB.out.size)));clear G)
  |(go_at_call 164;(with_reducible (refine (yb2 (dy:Int) _ (Z.out).1 (Z.out).2).mono ?_));rintro e L ⟨rfl,G⟩;(have HB:=lh (HB.out.trans (Below.mono (Below.trans yaV G) HB.out.size)));clear G)
  |(go_at_call 164;(with_reducible (refine (yb2 (sr:Int) _ (U.out).1 (U.out).2).mono ?_));rintro e L ⟨rfl,G⟩;(have HB:=lh (HB.out.trans (Below.mono (Below.trans yaV G) HB.out.size)));clear G)
  |(go_at_call 163;(with_reducible (refine (ssumv_any s _).mono ?_));rintro e L ⟨rfl,G⟩;(have HB:=lh (HB.out.trans (Below.mono (Below.trans yaV G) HB.out.size)));clear G))
 go_wp2_with fail
 clear ac;have aa:Hid (VA w _ _ (vlG hd vt s ix sz dy sr)):=VA.start (bt HB1.out HB.out) (cs:=#[.int .i64 1,.int .u64 hd,.int .i64 0,.bool false,.string ⟨#[]⟩,.int .i64 0,.int .i64 1,.int .u64 vt,.int .i64 0,.bool false,.string ⟨#[]⟩,.int .i64 0,.int .i64 6,.int .u64 0,.int .i64 0,.bool false,.string s,.int .i64 0,.int .i64 1,.int .u64 ix,.int .i64 0,.bool false,.string ⟨#[]⟩,.int .i64 0,.int .i64 1,.int .u64 sz,.int .i64 0,.bool false,.string ⟨#[]⟩,.int .i64 0,.int .i64 1,.int .u64 dy,.int .i64 0,.bool false,.string ⟨#[]⟩,.int .i64 0,.int .i64 1,.int .u64 sr,.int .i64 0,.bool false,.string ⟨#[]⟩,.int .i64 0]) (m:=7) rfl rfl de;go_ret;exact ⟨_,rfl,aa.out⟩
theorem rc_nat {r:Rcp} {ps qs rs:List ByteArray} (M:vaB r ps qs rs=true):∃hd vt ix sz dy sr:Nat,r=⟨hd,vt,r.s,ix,sz,dy,sr,r.ct,r.pl,r.rt,r.pa,r.si,r.pb,r.pc⟩/\hd<=11/\vt<=11/\r.s.size=32/\ix<=15/\sz<=65536/\dy<=999999/\sr<=1099511627776:=by
 obtain ⟨H,N,G,L,K,O,J,_⟩:=yb9 M;obtain ⟨hd,vt,s,ix,sz,dy,sr,ct,pl,rt,pa,si,pb,pc⟩:=r;dsimp only at H N G L K O J ⊢;refine ⟨hd.toNat,vt.toNat,ix.toNat,sz.toNat,dy.toNat,sr.toNat,?_,by omega,by omega,G,by omega,by omega,by omega,by omega⟩
 congr 1<;>omega
theorem vlOk_G {hd vt ix sz dy sr:Nat} {s:ByteArray} (hs:s.size=32) (h:hd<=11/\vt<=11/\ix<=15/\sz<=65536/\dy<=999999/\sr<=1099511627776):∀x∈vlG hd vt s ix sz dy sr,VlOk x:=fun x G=>by
 obtain ⟨h0,h1,h2,K,J,H⟩:=h;unfold vlG at G;simp only [List.mem_cons,List.not_mem_nil,or_false] at G;rcases G with rfl |rfl |rfl |rfl |rfl |rfl |rfl
 ·exact vlOk_N ⟨by omega,by omega⟩
 ·exact vlOk_N ⟨by omega,by omega⟩
 ·exact vlOk_S hs
 ·exact vlOk_N ⟨by omega,by omega⟩
 ·exact vlOk_N ⟨by omega,by omega⟩
 ·exact vlOk_N ⟨by omega,by omega⟩
 ·exact vlOk_N ⟨by omega,by omega⟩
theorem rsigned_any (r:Rcp) (ps qs rs:List ByteArray) (w:World) (hv:vaB r ps qs rs=true):
 Calls prog 158 #[.agg (cR r)] w fun e H=>∃A n c,e= .returned (.slice A n c)/\n<=c/\Sl fB H H.heap.size A n (encS r)/\Below w.heap.size w H:=by
 obtain ⟨hd,vt,ix,sz,dy,sr,hr,g0,g1,g2,g3,g4,g5,g6⟩:=rc_nat hv;rw [hr];obtain ⟨ax,aq,s,ar,au,ap,aw,ct,pl,rt,pa,si,pb,pc⟩:=r;dsimp only at g2 ⊢;clear hr hv;obtain ⟨L,G⟩:∃L:World,L=w.alloc (.cells (cR ⟨hd,vt,s,ix,sz,dy,sr,ct,pl,rt,pa,si,pb,pc⟩) tR):=⟨_,rfl⟩
 have aa:Below w.heap.size w L:=by rw [G];exact bl
 have ac:L.heap[w.heap.size]? =some (.cells (cR ⟨hd,vt,s,ix,sz,dy,sr,ct,pl,rt,pa,si,pb,pc⟩) tR (0,0)):=by rw [G];exact zy w _
 have HWE:=lh G;have HB1:=lh aa;have ak:=lh (ycc ac);have W:=lh (ssigned_any hd vt ix sz dy sr s rt ct pl si pa pb pc L om);have ae:=lh (vlOk_G g2 ⟨g0,g1,g3,g4,g5,g6⟩);have N:=flat_G hd vt s ix sz dy sr;have aj:=encSg_len hd vt ix sz dy sr s g2
 have ai:Hid (∀V A c,SlN fVl 6 V V.heap.size A 7 (vlG hd vt s ix sz dy sr)->Calls prog 128 #[.slice A 7 c] V fun e H=>∃v,e= .returned (.tuple #[v,.int .i64 0])/\Own fB 5 H V.heap.size v (encSg hd vt s ix sz dy sr)/\Below V.heap.size V H):=fun V A c h=>by
  have:=rencode_any _ A 7 c V h ae.out (by rw [N];omega) om;rw [N] at this;exact this
 have af:Hid (encS ⟨hd,vt,s,ix,sz,dy,sr,ct,pl,rt,pa,si,pb,pc⟩=encSg hd vt s ix sz dy sr):=rfl;rw [af.out];rw [G] at W;clear g0 g1 g2 g3 g4 g5 g6 N aj G aa ac;go_enter func158,ntmps158
 go_wp2_with (first
  |(with_reducible refine wpList_load_mid (op:=⟨some 6,_,_,_,_,_⟩) rfl tR (.tmp 1) rfl w.heap.size 0 rfl (cR ⟨hd,vt,s,ix,sz,dy,sr,ct,pl,rt,pa,si,pb,pc⟩).toList _ (by rw [<-HWE.out];exact ak.out) underlying35 rfl (ybT ⟨hd,vt,s,ix,sz,dy,sr,ct,pl,rt,pa,si,pb,pc⟩) ?_)
  |(go_at_call 188;(with_reducible refine W.out.mono ?_);rintro e w2 ⟨u,rfl,K⟩;(obtain ⟨Af,cf,hu,ao,T⟩:=K.row);(have O:=K.2);(rw [<-HWE.out] at O);(have am:=lh (bt HB1.out O));(have ag:=lh (ai.out w2 Af cf T));(rw [show (vlG hd vt s ix sz dy sr).length=7 from rfl] at hu);subst hu;clear T K ao O)
  |(go_at_call 128;(with_reducible refine ag.out.mono ?_);rintro e w9 ⟨v9,rfl,U,Z⟩;(obtain ⟨A9,c9,z,M,Y,_⟩:=U.shape);(obtain ⟨N9,J⟩:=gX ((encSg hd vt s ix sz dy sr).length));(rw [J] at z M);(have al:Hid (Sl fB w9 w9.heap.size A9 N9 (encSg hd vt s ix sz dy sr)):=⟨J,Y⟩);(have HB9:=lh Z);(have ah:=lh M);subst z;clear U Y Z J M))
 go_ret;exact ⟨A9,N9,c9,rfl,ah.out,al.out,bt am.out HB9.out⟩
theorem rcleaf_any (r:Rcp) (ps qs rs:List ByteArray) (w:World) (T:vaB r ps qs rs=true):
 Calls prog 96 #[.agg (cR r)] w fun e N=>e= .returned (.string (leafS (encS r)))/\Below w.heap.size w N:=by
 obtain ⟨H,G⟩:∃H:World,H=w.alloc (.cells (cR r) tR):=⟨_,rfl⟩
 have L:Below w.heap.size w H:=by rw [G];exact bl
 have M:H.heap[w.heap.size]? =some (.cells (cR r) tR (0,0)):=by rw [G];exact zy w _
 have HWE:=lh G;have HB1:=lh L;have aa:=lh (ycc M);have J:=lh (rsigned_any r ps qs rs H T);have z:(encS r).length<=92:=encSg_len _ _ _ _ _ _ _ (yb9 T).2.2.1;have K:Byt (encS r):=encSg_byt _ _ _ _ _ _ _
 have Z:Hid (∀V A n c,Sl fB V V.heap.size A n (encS r)->Calls prog 157 #[.slice A n c] V fun e N=>e= .returned (.string (leafS (encS r)))/\Below V.heap.size V N):=fun V A n c h=>
  ydC A n c V.heap.size _ V h nl (by have:=h.1;omega) K
 rw [G] at J;clear z K G L M T;go_enter func96,ntmps96
 go_wp2_with (first
  |(with_reducible refine wpList_load_mid (op:=⟨some 3,_,_,_,_,_⟩) rfl tR (.tmp 1) rfl w.heap.size 0 rfl (cR r).toList _ (by rw [<-HWE.out];exact aa.out) underlying35 rfl (ybT r) ?_)
  |(go_at_call 158;(with_reducible refine J.out.mono ?_);rintro e w2 ⟨A2,n2,c2,rfl,_,h2,O⟩;(have W:=lh (Z.out w2 A2 n2 c2 h2));(have ac:Hid (Below w.heap.size w w2):=HB1.out.trans (Below.mono (by rw [<-HWE.out] at O;exact O) HB1.out.size));clear h2 O)
  |(go_at_call 157;(with_reducible refine W.out.mono ?_);rintro e w3 ⟨rfl,U⟩;(have Y:Hid (Below w.heap.size w w3):=bt ac.out U);clear U))
 go_ret;exact ⟨rfl,Y.out⟩
def vT (s:ByteArray):Vl:=⟨5,0,0,false,s,0⟩
abbrev rcT:ByteArray:=⟨#[114,101,99,101,105,112,116,115]⟩
theorem rbatch_any (rt:ByteArray) (ct:Nat) (w:World) (L:rt.size=32) (ac:ct<=256):
 Calls prog 98 #[.string rt,.int .i64 ct] w fun e G=>e= .returned (.string (btS rt ct))/\Below w.heap.size w G:=by
 have HS:=lh (fun W=>ssumv_any rt W);have HN:=lh (fun W=>yb2 (ct:Int) W om om)
 have J:[vT rcT,vS rt,vN ct].flatMap encR=encB rt ct:=by
  show (enc 8++[114,101,99,101,105,112,116,115])++(sB rt++(enc ct++[]))=_;unfold encB;rw [List.append_nil,List.append_assoc,List.append_assoc];simp only [List.append_assoc]
 have z:∀x∈[vT rcT,vS rt,vN ct],VlOk x:=fun x hx=>by
  simp only [List.mem_cons,List.not_mem_nil,or_false] at hx;rcases hx with rfl |rfl |rfl
  ·exact .inr (.inr (.inl ⟨rfl,by decide⟩))
  ·exact vlOk_S L
  ·exact vlOk_N ⟨by omega,by omega⟩
 have ag:=encB_len rt ct L
 have ae:Hid (∀V A c,SlN fVl 6 V V.heap.size A 3 [vT rcT,vS rt,vN ct]->Calls prog 128 #[.slice A 3 c] V fun e G=>∃v,e= .returned (.tuple #[v,.int .i64 0])/\Own fB 5 G V.heap.size v (encB rt ct)/\Below V.heap.size V G):=fun V A c h=>by
  have:=rencode_any _ A 3 c V h z (by rw [J];omega) om;rw [J] at this;exact this
 have ai:Hid (∀(V:World) O N c',Sl fB V V.heap.size O N (encB rt ct)->Calls prog 123 #[.slice O N c'] V fun e G=>e= .returned (.string (btS rt ct))/\Below V.heap.size V G):=fun V O N c' hs=>
  ydA O N c' V.heap.size _ V hs nl (by have:=hs.1;omega) (encB_byt rt ct)
 clear J z ag L ac;go_enter func98,ntmps98
 go_wp2_with (first
  |(go_at_call 163;(with_reducible refine (HS.out _).mono ?_);rintro e w1 ⟨rfl,b1⟩;(have HB1:=lh b1);clear b1)
  |(go_at_call 164;(with_reducible refine (HN.out _).mono ?_);rintro e w2 ⟨rfl,b2⟩;(have K:=lh (bt HB1.out b2));clear b2;(have aa:=lh (ae.out (w2.alloc (.cells #[.int .i64 5,.int .u64 0,.int .i64 0,.bool false,.string ⟨#[114,101,99,101,105,112,116,115]⟩,.int .i64 0,.int .i64 (vS rt).kind,.int .u64 (vS rt).u,.int .i64 (vS rt).n,.bool (vS rt).b,.string (vS rt).s,.int .i64 (vS rt).most,.int .i64 (vN ct).kind,.int .u64 (vN ct).u,.int .i64 (vN ct).n,.bool (vN ct).b,.string (vN ct).s,.int .i64 (vN ct).most] tVl)) (some ⟨w2.heap.size,0,none⟩) 3 (SlN.of_rows (xs:=[vT rcT,vS rt,vN ct]) fVl_len (zy _ _) rfl sI rfl))))
  |(go_at_call 128;(with_reducible refine aa.out.mono ?_);rintro e w9 ⟨v9,rfl,T,Y⟩;(obtain ⟨A9,c9,Z,ah,U,_⟩:=T.shape);(obtain ⟨N9,H⟩:=gX ((encB rt ct).length));(rw [H] at Z);(have af:=lh (ai.out w9 A9 N9 c9 ⟨H,U⟩));(have HB9:Hid (Below w.heap.size w w9):=(K.out.alloc K.out.size _).trans (Y.mono (by have:=K.out.size;simp;omega)));subst Z;clear T Y H ah U)
  |(go_at_call 123;(with_reducible refine af.out.mono ?_);rintro e aj ⟨rfl,M⟩;(have HB10:=lh (bt HB9.out M));clear M))
 go_ret;exact ⟨rfl,HB10.out⟩
def rvB (pub:ByteArray) (b h:Int) (r:Rcp) (ps qs rs:List ByteArray):Bool:=
 vaB r ps qs rs&&(mvB (leafS (encS r)) r.pl.toNat r.ct.toNat ps r.rt&&(sgF b h r.si.toNat r.pb.n r.pc.n&&decide (sgR b (btS r.rt r.ct.toNat) r.si.toNat qs rs=pub)))
theorem rc_nat9 {r:Rcp} {ps qs rs:List ByteArray} (W:vaB r ps qs rs=true):∃hd vt ix sz dy sr ct pl si:Nat,r=⟨hd,vt,r.s,ix,sz,dy,sr,ct,pl,r.rt,r.pa,si,r.pb,r.pc⟩/\r.rt.size=32/\pl < ct/\ct<=256/\si < 256/\(ps.length<=8/\∀s∈ps,s.size=32)/\(rs.length<=8/\∀s∈rs,s.size=32)/\(qs.length<=300/\∀s∈qs,s.size=32):=by
 obtain ⟨M,Y,Z,U,T,z,O,N,y8,L,G,K,H,J⟩:=yb9 W;obtain ⟨hd,vt,s,ix,sz,dy,sr,ct,pl,rt,pa,si,pb,pc⟩:=r;dsimp only at M Y Z U T z O N y8 L J ⊢;refine ⟨hd.toNat,vt.toNat,ix.toNat,sz.toNat,dy.toNat,sr.toNat,ct.toNat,pl.toNat,si.toNat,?_,L,by omega,by omega,by omega,G,K,H⟩
 congr 1<;>omega
theorem two_of {w:World} {a:Nat} {t:TypeId} {b h:Int} (q:w.heap[a]? =some (.cells (cSc b h) t (0,0))):w.cell? ⟨a,0,none⟩=some (.int .i64 b)/\w.cell? ⟨a,1,none⟩=some (.int .i64 h):=by
 refine ⟨?_,?_⟩<;>(rw [cell_of_row w _ _ _ _ _ q];rfl)
theorem rcverify_any (aa:ByteArray) (b h:Int) (r:Rcp) (ps qs rs:List ByteArray) (B:Nat) (w:World) (hG:Glob w) (hx:RcIn w B r ps qs rs) (hB:B<=w.heap.size) (aq:r.pa.n<=r.pa.c):
 Calls prog 43 #[.string aa,.agg (cSc b h),.agg (cR r)] w fun e J=>e= .returned (.bool (rvB aa b h r ps qs rs))/\Below w.heap.size w J:=by
 have HF:Hid (rvB aa b h r ps qs rs=(vaB r ps qs rs&&(mvB (leafS (encS r)) r.pl.toNat r.ct.toNat ps r.rt&&(sgF b h r.si.toNat r.pb.n r.pc.n&&decide (sgR b (btS r.rt r.ct.toNat) r.si.toNat qs rs=aa))))):=rfl;obtain ⟨H,ac⟩:∃H:World,H=(w.alloc (.cells (cSc b h) 26)).alloc (.cells (cR r) tR):=⟨_,rfl⟩
 have ay:H.heap.size=w.heap.size+2:=by rw [ac];simp
 have aw:H.heap[w.heap.size]? =some (.cells (cSc b h) 26 (0,0)):=by
  rw [ac];exact (zx _ _ _ sI).trans (zy w _)
 have au:H.heap[w.heap.size+1]? =some (.cells (cR r) tR (0,0)):=by
  rw [ac];have:=zy (w.alloc (.cells (cSc b h) 26)) (.cells (cR r) tR);simpa using this
 have HC:Hid (∀V,Below (w.heap.size+2) H V->V.heap[w.heap.size]? =some (.cells (cSc b h) 26 (0,0))/\V.heap[w.heap.size+1]? =some (.cells (cR r) tR (0,0))):=fun V W=>⟨(W.block _ om).trans aw,(W.block _ om).trans au⟩
 have HB:Hid (Below w.heap.size w H):=by
  show Below ..
  rw [ac];exact bl.alloc sI _
 have HS:=lh ay;have HWE:=lh ac;have HB1:Hid (Below (w.heap.size+2) H H):=Below.refl _ _
 have HX:Hid (∀V,Below (w.heap.size+2) H V->RcIn V B r ps qs rs/\B<=V.heap.size/\Below w.heap.size w V):=fun V W=>by
  have L:Below w.heap.size w V:=HB.out.trans (W.mono (Nat.le_add_right _ 2));exact ⟨hx.up L hB,Nat.le_trans hB L.size,L⟩
 clear aw au ay ac;have HV:Hid (∀V,Below (w.heap.size+2) H V->Calls prog 87 #[.agg (cR r)] V fun e J=>e= .returned (.bool (vaB r ps qs rs))/\Below V.heap.size V J):=fun V W=>valid_any r ps qs rs B V (HX.out V W).1 (HX.out V W).2.1
 cases W:vaB r ps qs rs with
 |false=>
  rw [W] at HV HF;rw [Bool.false_and] at HF;clear hx hB W aq hG;go_enter func43,ntmps43;go_upto_region 1 with fail
  rw [<-HWE.out];go_wp2_with fail;refine rH (S:=(fun J=>J.heap[w.heap.size]? =some (.cells (cSc b h) 26 (0,0))/\J.heap[w.heap.size+1]? =some (.cells (cR r) tR (0,0)))) ybi yam (fun U=>?_);refine tkH (i:=0) (v:=_) (y:=(yieldsIf_load_mid (by rfl) tR (.tmp 5) rfl (w.heap.size+1) 0 (by rfl) (cR r).toList _ (fun _ h=>ycc h.2) underlying35 rfl (ybT r))) (h:=?_)
  try simp only [pt]
  refine rd1 1 (fun K G=>?_)
  (go_simp;go_at_call 87;(with_reducible refine (HV.out _ yaD).mono ?_);rintro e w4 ⟨rfl,Y⟩;(have HBx:Hid (Below (w.heap.size+2) H w4):=Below.trans (B:=w.heap.size+2) yaD (Below.mono Y (HS.out▸ya1)));clear Y;go_wp2_with fail)
  refine G.out _ _ yam (fun aE=>?_);clear G K U
  try simp only [pt]
  refine tkY 2 ?_;refine tkN 3 ?_;refine tkN 4 ?_;refine tkN 5 ?_;refine tkN 6 ?_;refine tkN 7 ?_;refine tkN 8 ?_;refine tkN 9 ?_;refine tkN 10 ?_;refine tkN 11 ?_;refine tkN 12 ?_;refine tkN 13 ?_
  (iterate 2 refine tkA ?_)
  refine tkN 16 ?_;refine tkN 17 ?_;refine tkN 18 ?_;refine tkN 19 ?_;refine tkN 20 ?_;refine tkN 21 ?_;refine tkN 22 ?_;refine tkN 23 ?_;refine tkN 24 ?_;refine tkN 25 ?_
  (iterate 2 refine tkA ?_)
  refine wpAnyH_done ybi ?_ _;go_wp2_with fail;go_ret;exact ⟨by rw [HF.out];rfl,HB.out.trans (HBx.out.mono (Nat.le_add_right _ 2))⟩
 |true=>
  rw [W] at HV HF;rw [Bool.true_and] at HF;obtain ⟨hd,vt,ix,sz,dy,sr,ct,pl,si,hr,g1,g2,g3,g4,⟨g5,g6⟩,⟨g7,g8⟩,⟨g9,aB⟩⟩:=rc_nat9 W;have aC:=W;obtain ⟨aN,aH,s,aJ,aK,aF,aM,aG,aI,rt,pa,aL,pb,pc⟩:=r;injection hr with e1 e2 _ e4 e5 e6 e7 e8 e9 _ _ e12 _ _;subst e1 e2 e4 e5 e6 e7 e8 e9 e12;dsimp only at g1 aq HF;rw [Int.toNat_natCast,Int.toNat_natCast,Int.toNat_natCast] at HF;have p1:pa.n<=8:=by have:=(hx.1).1;dsimp only at this;omega
  have p2:pb.n<=300:=by have:=(hx.2.1).1;dsimp only at this;omega
  have p3:pc.n<=8:=by have:=(hx.2.2).1;dsimp only at this;omega
  obtain ⟨lf,ap⟩:=gX (leafS (encS ⟨hd,vt,s,ix,sz,dy,sr,ct,pl,rt,pa,si,pb,pc⟩));have ar:lf.size=32:=by rw [<-ap];exact ycq _
  obtain ⟨dg,ao⟩:=gX (btS rt ct);have am:dg.size=32:=by rw [<-ao];exact btS_size _ _
  rw [ap,ao] at HF;have HL:Hid (∀V,Below (w.heap.size+2) H V->Calls prog 89 #[.agg (cR ⟨hd,vt,s,ix,sz,dy,sr,ct,pl,rt,pa,si,pb,pc⟩)] V fun e J=>e= .returned (.string lf)/\Below V.heap.size V J):=fun V L=>ap▸leaf_any ⟨hd,vt,s,ix,sz,dy,sr,ct,pl,rt,pa,si,pb,pc⟩ ps qs rs V (hG.on (HX.out V L).2.2) aC;have HM:Hid (∀V,Below (w.heap.size+2) H V->Calls prog 88 #[.string lf,.int .i64 pl,.int .i64 ct,.slice pa.a pa.n pa.c,.string rt] V fun e J=>e= .returned (.bool (mvB lf pl ct ps rt))/\Below V.heap.size V J):=fun V L=>mverify_any lf pl ct pa.a pa.n pa.c B ps rt V (hG.on (HX.out V L).2.2) ar g1 g2 g3 (HX.out V L).1.1 (HX.out V L).2.1 aq p1 g6;have HD:Hid (∀V,Below (w.heap.size+2) H V->Calls prog 91 #[.string rt,.int .i64 ct] V fun e J=>e= .returned (.string dg)/\Below V.heap.size V J):=fun V L=>ao▸batch_any rt ct V (hG.on (HX.out V L).2.2) g1 g3;have HG:Hid (∀V,Below (w.heap.size+2) H V->Calls prog 90 #[.agg (cSc b h),.string aa,.string dg,.agg (cSg si pb.a pb.n pb.c pc.a pc.n pc.c)] V fun e J=>e= .returned (.bool (sgF b h si pb.n pc.n&&decide (sgR b dg si qs rs=aa)))/\Below V.heap.size V J):=fun V L=>sgverify_any b h dg am si g4 pb.a pc.a pb.n pc.n pb.c pc.c B qs rs V (hG.on (HX.out V L).2.2) (HX.out V L).1.2.1 (HX.out V L).1.2.2 (HX.out V L).2.1 p2 p3 aB g8 aa;clear hx hB W aC aq hG ap ao g1 g2 g3 g4 g5 g6 g7 g8 g9 aB ar am
  cases hm:mvB lf pl ct ps rt with
  |false=>
   rw [hm] at HM HF;rw [Bool.false_and] at HF;clear hm;go_enter func43,ntmps43;go_upto_region 1 with fail
   rw [<-HWE.out];go_wp2_with fail;refine rH (S:=(fun J=>J.heap[w.heap.size]? =some (.cells (cSc b h) 26 (0,0))/\J.heap[w.heap.size+1]? =some (.cells (cR ⟨hd,vt,s,ix,sz,dy,sr,ct,pl,rt,pa,si,pb,pc⟩) tR (0,0)))) ybi yam (fun U=>?_);refine tkH (i:=0) (v:=_) (y:=(yieldsIf_load_mid (by rfl) tR (.tmp 5) rfl (w.heap.size+1) 0 (by rfl) (cR ⟨hd,vt,s,ix,sz,dy,sr,ct,pl,rt,pa,si,pb,pc⟩).toList _ (fun _ h=>ycc h.2) underlying35 rfl (ybT ⟨hd,vt,s,ix,sz,dy,sr,ct,pl,rt,pa,si,pb,pc⟩))) (h:=?_)
   try simp only [pt]
   refine rd1 1 (fun K G=>?_)
   (go_simp;go_at_call 87;(with_reducible refine (HV.out _ yaD).mono ?_);rintro e w4 ⟨rfl,Y⟩;(have HBx:Hid (Below (w.heap.size+2) H w4):=Below.trans (B:=w.heap.size+2) yaD (Below.mono Y (HS.out▸ya1)));clear Y;go_wp2_with fail)
   refine G.out _ _ yam (fun ak=>?_);clear G K U
   try simp only [pt]
   refine tkY 2 ?_;refine tkH (i:=3) (v:=_) (y:=(yieldsIf_load_mid (by rfl) tR (.tmp 5) rfl (w.heap.size+1) 0 (by rfl) (cR ⟨hd,vt,s,ix,sz,dy,sr,ct,pl,rt,pa,si,pb,pc⟩).toList _ (fun _ h=>ycc h.2) underlying35 rfl (ybT ⟨hd,vt,s,ix,sz,dy,sr,ct,pl,rt,pa,si,pb,pc⟩))) (h:=?_)
   try simp only [pt]
   refine tkY 5 ?_;refine tkH (i:=6) (v:=?pB5v) (y:=(Or.inl ⟨by rfl,?pB5y⟩)) (h:=?pB5r);case pB5y=>(intro w hSw;(try dsimp only at hSw);(obtain ⟨z,Z,k2,k3,k4,k5,k6,k7,k8,k9,M,N,O,T⟩:=ybs hSw.2);go_simp;try (with_reducible rfl))
   try simp only [pt]
   refine tkY 7 ?_;refine tkH (i:=8) (v:=?pB7v) (y:=(Or.inl ⟨by rfl,?pB7y⟩)) (h:=?pB7r);case pB7y=>(intro w hSw;(try dsimp only at hSw);(obtain ⟨z,Z,k2,k3,k4,k5,k6,k7,k8,k9,M,N,O,T⟩:=ybs hSw.2);go_simp;try (with_reducible rfl))
   try simp only [pt]
   refine tkY 9 ?_;refine tkH (i:=10) (v:=?pB9v) (y:=(Or.inl ⟨by rfl,?pB9y⟩)) (h:=?pB9r);case pB9y=>(intro w hSw;(try dsimp only at hSw);(obtain ⟨z,Z,k2,k3,k4,k5,k6,k7,k8,k9,M,N,O,T⟩:=ybs hSw.2);go_simp;try (with_reducible rfl))
   try simp only [pt]
   refine tkY 11 ?_;refine tkH (i:=12) (v:=?pB11v) (y:=(Or.inl ⟨by rfl,?pB11y⟩)) (h:=?pB11r);case pB11y=>(intro w hSw;(try dsimp only at hSw);(obtain ⟨z,Z,k2,k3,k4,k5,k6,k7,k8,k9,M,N,O,T⟩:=ybs hSw.2);go_simp;try (with_reducible rfl))
   try simp only [pt]
   refine rd1 4 (fun K G=>?_)
   (go_simp;go_at_call 89;(with_reducible refine (HL.out _ yaD).mono ?_);rintro e w5 ⟨rfl,ah⟩;(have HBx:Hid (Below (w.heap.size+2) H w5):=Below.trans (B:=w.heap.size+2) yaD (Below.mono ah (HS.out▸ya1)));clear ah;go_wp2_with fail)
   refine G.out _ _ yam (fun aj=>?_);clear G K ak
   try simp only [pt]
   refine rd1 13 (fun K G=>?_)
   (go_simp;go_at_call 88;(with_reducible refine (HM.out _ yaD).mono ?_);rintro e w6 ⟨rfl,ag⟩;(have HBx:Hid (Below (w.heap.size+2) H w6):=Below.trans (B:=w.heap.size+2) yaD (Below.mono ag (HS.out▸ya1)));clear ag;go_wp2_with fail)
   refine G.out _ _ yam (fun ax=>?_);clear G K aj
   try simp only [pt]
   refine tkY 14 ?_;refine tkY 15 ?_;refine tkN 16 ?_;refine tkN 17 ?_;refine tkN 18 ?_;refine tkN 19 ?_;refine tkN 20 ?_;refine tkN 21 ?_;refine tkN 22 ?_;refine tkN 23 ?_;refine tkN 24 ?_;refine tkN 25 ?_;refine tkY 26 ?_;refine tkY 27 ?_;refine wpAnyH_done ybi ?_ _;go_wp2_with fail;go_ret;exact ⟨by rw [HF.out];rfl,HB.out.trans (HBx.out.mono (Nat.le_add_right _ 2))⟩
  |true=>
   rw [hm] at HM HF;rw [Bool.true_and] at HF;clear hm;go_enter func43,ntmps43;go_upto_region 1 with fail
   rw [<-HWE.out];go_wp2_with fail;refine rH (S:=(fun J=>J.heap[w.heap.size]? =some (.cells (cSc b h) 26 (0,0))/\J.heap[w.heap.size+1]? =some (.cells (cR ⟨hd,vt,s,ix,sz,dy,sr,ct,pl,rt,pa,si,pb,pc⟩) tR (0,0)))) ybi yam (fun U=>?_);refine tkH (i:=0) (v:=_) (y:=(yieldsIf_load_mid (by rfl) tR (.tmp 5) rfl (w.heap.size+1) 0 (by rfl) (cR ⟨hd,vt,s,ix,sz,dy,sr,ct,pl,rt,pa,si,pb,pc⟩).toList _ (fun _ h=>ycc h.2) underlying35 rfl (ybT ⟨hd,vt,s,ix,sz,dy,sr,ct,pl,rt,pa,si,pb,pc⟩))) (h:=?_)
   try simp only [pt]
   refine rd1 1 (fun K G=>?_)
   (go_simp;go_at_call 87;(with_reducible refine (HV.out _ yaD).mono ?_);rintro e w4 ⟨rfl,Y⟩;(have HBx:Hid (Below (w.heap.size+2) H w4):=Below.trans (B:=w.heap.size+2) yaD (Below.mono Y (HS.out▸ya1)));clear Y;go_wp2_with fail)
   refine G.out _ _ yam (fun al=>?_);clear G K U
   try simp only [pt]
   refine tkY 2 ?_;refine tkH (i:=3) (v:=_) (y:=(yieldsIf_load_mid (by rfl) tR (.tmp 5) rfl (w.heap.size+1) 0 (by rfl) (cR ⟨hd,vt,s,ix,sz,dy,sr,ct,pl,rt,pa,si,pb,pc⟩).toList _ (fun _ h=>ycc h.2) underlying35 rfl (ybT ⟨hd,vt,s,ix,sz,dy,sr,ct,pl,rt,pa,si,pb,pc⟩))) (h:=?_)
   try simp only [pt]
   refine tkY 5 ?_;refine tkH (i:=6) (v:=?pC5v) (y:=(Or.inl ⟨by rfl,?pC5y⟩)) (h:=?pC5r);case pC5y=>(intro w hSw;(try dsimp only at hSw);(obtain ⟨z,Z,k2,k3,k4,k5,k6,k7,k8,k9,M,N,O,T⟩:=ybs hSw.2);go_simp;try (with_reducible rfl))
   try simp only [pt]
   refine tkY 7 ?_;refine tkH (i:=8) (v:=?pC7v) (y:=(Or.inl ⟨by rfl,?pC7y⟩)) (h:=?pC7r);case pC7y=>(intro w hSw;(try dsimp only at hSw);(obtain ⟨z,Z,k2,k3,k4,k5,k6,k7,k8,k9,M,N,O,T⟩:=ybs hSw.2);go_simp;try (with_reducible rfl))
   try simp only [pt]
   refine tkY 9 ?_;refine tkH (i:=10) (v:=?pC9v) (y:=(Or.inl ⟨by rfl,?pC9y⟩)) (h:=?pC9r);case pC9y=>(intro w hSw;(try dsimp only at hSw);(obtain ⟨z,Z,k2,k3,k4,k5,k6,k7,k8,k9,M,N,O,T⟩:=ybs hSw.2);go_simp;try (with_reducible rfl))
   try simp only [pt]
   refine tkY 11 ?_;refine tkH (i:=12) (v:=?pC11v) (y:=(Or.inl ⟨by rfl,?pC11y⟩)) (h:=?pC11r);case pC11y=>(intro w hSw;(try dsimp only at hSw);(obtain ⟨z,Z,k2,k3,k4,k5,k6,k7,k8,k9,M,N,O,T⟩:=ybs hSw.2);go_simp;try (with_reducible rfl))
   try simp only [pt]
   refine rd1 4 (fun K G=>?_)
   (go_simp;go_at_call 89;(with_reducible refine (HL.out _ yaD).mono ?_);rintro e w5 ⟨rfl,ah⟩;(have HBx:Hid (Below (w.heap.size+2) H w5):=Below.trans (B:=w.heap.size+2) yaD (Below.mono ah (HS.out▸ya1)));clear ah;go_wp2_with fail)
   refine G.out _ _ yam (fun ae=>?_);clear G K al
   try simp only [pt]
   refine rd1 13 (fun K G=>?_)
   (go_simp;go_at_call 88;(with_reducible refine (HM.out _ yaD).mono ?_);rintro e w6 ⟨rfl,ag⟩;(have HBx:Hid (Below (w.heap.size+2) H w6):=Below.trans (B:=w.heap.size+2) yaD (Below.mono ag (HS.out▸ya1)));clear ag;go_wp2_with fail)
   refine G.out _ _ yam (fun ai=>?_);clear G K ae
   try simp only [pt]
   refine tkY 14 ?_;refine tkY 15 ?_;refine tkH (i:=16) (v:=?pC16v) (y:=(Or.inl ⟨by rfl,?pC16y⟩)) (h:=?pC16r);case pC16y=>(intro w hSw;(try dsimp only at hSw);(obtain ⟨z,Z⟩:=two_of hSw.1);go_simp;try (with_reducible rfl))
   try simp only [pt]
   refine tkY 17 ?_;refine tkY 18 ?_;refine tkH (i:=19) (v:=?pC19v) (y:=(Or.inl ⟨by rfl,?pC19y⟩)) (h:=?pC19r);case pC19y=>(intro w hSw;(try dsimp only at hSw);(obtain ⟨z,Z,k2,k3,k4,k5,k6,k7,k8,k9,M,N,O,T⟩:=ybs hSw.2);go_simp;try (with_reducible rfl))
   try simp only [pt]
   refine tkY 20 ?_;refine tkH (i:=21) (v:=?pC21v) (y:=(Or.inl ⟨by rfl,?pC21y⟩)) (h:=?pC21r);case pC21y=>(intro w hSw;(try dsimp only at hSw);(obtain ⟨z,Z,k2,k3,k4,k5,k6,k7,k8,k9,M,N,O,T⟩:=ybs hSw.2);go_simp;try (with_reducible rfl))
   try simp only [pt]
   refine tkY 23 ?_;refine tkH (i:=24) (v:=?pC23v) (y:=(Or.inl ⟨by rfl,?pC23y⟩)) (h:=?pC23r);case pC23y=>(intro w hSw;(try dsimp only at hSw);(obtain ⟨z,Z,k2,k3,k4,k5,k6,k7,k8,k9,M,N,O,T⟩:=ybs hSw.2);go_simp;try (with_reducible rfl))
   try simp only [pt]
   refine rd1 22 (fun K G=>?_)
   (go_simp;go_at_call 91;(with_reducible refine (HD.out _ yaD).mono ?_);rintro e w7 ⟨rfl,az⟩;(have HBx:Hid (Below (w.heap.size+2) H w7):=Below.trans (B:=w.heap.size+2) yaD (Below.mono az (HS.out▸ya1)));clear az;go_wp2_with fail)
   refine G.out _ _ yam (fun af=>?_);clear G K ai
   try simp only [pt]
   refine rd1 25 (fun K G=>?_)
   (go_simp;go_at_call 90;(with_reducible refine (HG.out _ yaD).mono ?_);rintro e w8 ⟨rfl,aA⟩;(have HBx:Hid (Below (w.heap.size+2) H w8):=Below.trans (B:=w.heap.size+2) yaD (Below.mono aA (HS.out▸ya1)));clear aA;go_wp2_with fail)
   refine G.out _ _ yam (fun aD=>?_);clear G K af
   try simp only [pt]
   refine tkY 26 ?_;refine tkY 27 ?_;refine wpAnyH_done ybi ?_ _;go_wp2_with fail;go_ret;exact ⟨by rw [HF.out];rfl,HB.out.trans (HBx.out.mono (Nat.le_add_right _ 2))⟩
theorem rgverify_any (aw:ByteArray) (b h:Int) (r:Rcp) (ps qs rs:List ByteArray) (B:Nat) (w:World) (hx:RcIn w B r ps qs rs) (hB:B<=w.heap.size) (au:r.pa.n<=r.pa.c) (ai:r.pa.n<=1000000) (ak:r.pb.n<=1000000) (aj:r.pc.n<=1000000):
 Calls prog 47 #[.string aw,.agg (cSc b h),.agg (cR r)] w fun e J=>e= .returned (.bool (rvB aw b h r ps qs rs))/\Below w.heap.size w J:=by
 have HF:Hid (rvB aw b h r ps qs rs=(vaB r ps qs rs&&(mvB (leafS (encS r)) r.pl.toNat r.ct.toNat ps r.rt&&(sgF b h r.si.toNat r.pb.n r.pc.n&&decide (sgR b (btS r.rt r.ct.toNat) r.si.toNat qs rs=aw))))):=rfl;obtain ⟨H,aa⟩:∃H:World,H=(w.alloc (.cells (cSc b h) 26)).alloc (.cells (cR r) tR):=⟨_,rfl⟩
 have ay:H.heap.size=w.heap.size+2:=by rw [aa];simp
 have aD:H.heap[w.heap.size]? =some (.cells (cSc b h) 26 (0,0)):=by
  rw [aa];exact (zx _ _ _ sI).trans (zy w _)
 have ax:H.heap[w.heap.size+1]? =some (.cells (cR r) tR (0,0)):=by
  rw [aa];have:=zy (w.alloc (.cells (cSc b h) 26)) (.cells (cR r) tR);simpa using this
 have HC:Hid (∀V,Below (w.heap.size+2) H V->V.heap[w.heap.size]? =some (.cells (cSc b h) 26 (0,0))/\V.heap[w.heap.size+1]? =some (.cells (cR r) tR (0,0))):=fun V U=>⟨(U.block _ om).trans aD,(U.block _ om).trans ax⟩
 have HB:Hid (Below w.heap.size w H):=by
  show Below ..
  rw [aa];exact bl.alloc sI _
 have HS:=lh ay;have HWE:=lh aa;have HB1:Hid (Below (w.heap.size+2) H H):=Below.refl _ _
 have HX:Hid (∀V,Below (w.heap.size+2) H V->RcIn V B r ps qs rs/\B<=V.heap.size/\Below w.heap.size w V):=fun V U=>by
  have Y:Below w.heap.size w V:=HB.out.trans (U.mono (Nat.le_add_right _ 2));exact ⟨hx.up Y hB,Nat.le_trans hB Y.size,Y⟩
 clear aD ax ay aa;have HV:Hid (∀V,Below (w.heap.size+2) H V->Calls prog 45 #[.agg (cR r)] V fun e J=>e= .returned (.bool (vaB r ps qs rs))/\Below V.heap.size V J):=fun V U=>ydo r ps qs rs B V (HX.out V U).1 (HX.out V U).2.1 ai ak aj
 cases U:vaB r ps qs rs with
 |false=>
  rw [U] at HV HF;rw [Bool.false_and] at HF;clear hx hB U au ai ak aj;go_enter func47,ntmps47;go_upto_region 1 with fail
  rw [<-HWE.out];go_wp2_with fail;refine rH (S:=(fun J=>J.heap[w.heap.size]? =some (.cells (cSc b h) 26 (0,0))/\J.heap[w.heap.size+1]? =some (.cells (cR r) tR (0,0)))) ybi yam (fun L=>?_);refine tkH (i:=0) (v:=_) (y:=(yieldsIf_load_mid (by rfl) tR (.tmp 5) rfl (w.heap.size+1) 0 (by rfl) (cR r).toList _ (fun _ h=>ycc h.2) underlying35 rfl (ybT r))) (h:=?_)
  try simp only [pt]
  refine rd1 1 (fun K G=>?_)
  (go_simp;go_at_call 45;(with_reducible refine (HV.out _ yaD).mono ?_);rintro e w4 ⟨rfl,W⟩;(have HBx:Hid (Below (w.heap.size+2) H w4):=Below.trans (B:=w.heap.size+2) yaD (Below.mono W (HS.out▸ya1)));clear W;go_wp2_with fail)
  refine G.out _ _ yam (fun aJ=>?_);clear G K L
  try simp only [pt]
  (iterate 2 refine tkA ?_)
  refine tkN 4 ?_;refine tkN 5 ?_;refine tkN 6 ?_;refine tkN 7 ?_;refine tkN 8 ?_;refine tkN 9 ?_;refine tkN 10 ?_;refine tkN 11 ?_;refine tkN 12 ?_;refine tkN 13 ?_;refine tkN 14 ?_;refine tkN 15 ?_;refine tkY 16 ?_;refine wpAnyH_done ybi ?_ _;go_wp2_with fail;go_ret;exact ⟨by rw [HF.out];rfl,HB.out.trans (HBx.out.mono (Nat.le_add_right _ 2))⟩
 |true=>
  rw [U] at HV HF;rw [Bool.true_and] at HF;obtain ⟨hd,vt,ix,sz,dy,sr,ct,pl,si,hr,g1,g2,g3,g4,⟨g5,g6⟩,⟨g7,g8⟩,⟨g9,aB⟩⟩:=rc_nat9 U;have aG:=U;obtain ⟨aS,aM,s,aV,aP,aL,aR,aN,aT,rt,pa,aQ,pb,pc⟩:=r;injection hr with e1 e2 _ e4 e5 e6 e7 e8 e9 _ _ e12 _ _;subst e1 e2 e4 e5 e6 e7 e8 e9 e12;dsimp only at g1 au HF;rw [Int.toNat_natCast,Int.toNat_natCast,Int.toNat_natCast] at HF;have p1:pa.n<=8:=by have:=(hx.1).1;dsimp only at this;omega
  have p2:pb.n<=300:=by have:=(hx.2.1).1;dsimp only at this;omega
  have p3:pc.n<=8:=by have:=(hx.2.2).1;dsimp only at this;omega
  obtain ⟨lf,ao⟩:=gX (leafS (encS ⟨hd,vt,s,ix,sz,dy,sr,ct,pl,rt,pa,si,pb,pc⟩));have ap:lf.size=32:=by rw [<-ao];exact ycq _
  obtain ⟨dg,aq⟩:=gX (btS rt ct);have ar:dg.size=32:=by rw [<-aq];exact btS_size _ _
  rw [ao,aq] at HF;have HL:Hid (∀V,Below (w.heap.size+2) H V->Calls prog 96 #[.agg (cR ⟨hd,vt,s,ix,sz,dy,sr,ct,pl,rt,pa,si,pb,pc⟩)] V fun e J=>e= .returned (.string lf)/\Below V.heap.size V J):=fun V Y=>ao▸rcleaf_any ⟨hd,vt,s,ix,sz,dy,sr,ct,pl,rt,pa,si,pb,pc⟩ ps qs rs V aG;have HM:Hid (∀V,Below (w.heap.size+2) H V->Calls prog 95 #[.string lf,.int .i64 pl,.int .i64 ct,.slice pa.a pa.n pa.c,.string rt] V fun e J=>e= .returned (.bool (mvB lf pl ct ps rt))/\Below V.heap.size V J):=fun V Y=>rverify_any lf pl ct pa.a pa.n pa.c B ps rt V ap g1 g2 g3 (HX.out V Y).1.1 (HX.out V Y).2.1 au p1 g6;have HD:Hid (∀V,Below (w.heap.size+2) H V->Calls prog 98 #[.string rt,.int .i64 ct] V fun e J=>e= .returned (.string dg)/\Below V.heap.size V J):=fun V Y=>aq▸rbatch_any rt ct V g1 g3;have HG:Hid (∀V,Below (w.heap.size+2) H V->Calls prog 97 #[.agg (cSc b h),.string dg,.agg (cSg si pb.a pb.n pb.c pc.a pc.n pc.c)] V fun e J=>∃r er,e= .returned (.tuple #[.string r,.int .i64 er])/\(er=0/\sgF b h si pb.n pc.n=true/\r=sgR b dg si qs rs∨er=1/\sgF b h si pb.n pc.n=false)/\Below V.heap.size V J):=fun V Y=>rgroot_any b h dg ar si g4 pb.a pc.a pb.n pc.n pb.c pc.c B qs rs V (HX.out V Y).1.2.1 (HX.out V Y).1.2.2 (HX.out V Y).2.1 p2 p3 aB g8;clear hx hB U aG au ao aq g1 g2 g3 g4 g5 g6 g7 g8 g9 aB ap ar ai ak aj
  cases hm:mvB lf pl ct ps rt with
  |false=>
   rw [hm] at HM HF;rw [Bool.false_and] at HF;clear hm;go_enter func47,ntmps47;go_upto_region 1 with fail
   rw [<-HWE.out];go_wp2_with fail;refine rH (S:=(fun J=>J.heap[w.heap.size]? =some (.cells (cSc b h) 26 (0,0))/\J.heap[w.heap.size+1]? =some (.cells (cR ⟨hd,vt,s,ix,sz,dy,sr,ct,pl,rt,pa,si,pb,pc⟩) tR (0,0)))) ybi yam (fun L=>?_);refine tkH (i:=0) (v:=_) (y:=(yieldsIf_load_mid (by rfl) tR (.tmp 5) rfl (w.heap.size+1) 0 (by rfl) (cR ⟨hd,vt,s,ix,sz,dy,sr,ct,pl,rt,pa,si,pb,pc⟩).toList _ (fun _ h=>ycc h.2) underlying35 rfl (ybT ⟨hd,vt,s,ix,sz,dy,sr,ct,pl,rt,pa,si,pb,pc⟩))) (h:=?_)
   try simp only [pt]
   refine rd1 1 (fun K G=>?_)
   (go_simp;go_at_call 45;(with_reducible refine (HV.out _ yaD).mono ?_);rintro e w4 ⟨rfl,W⟩;(have HBx:Hid (Below (w.heap.size+2) H w4):=Below.trans (B:=w.heap.size+2) yaD (Below.mono W (HS.out▸ya1)));clear W;go_wp2_with fail)
   refine G.out _ _ yam (fun am=>?_);clear G K L
   try simp only [pt]
   (iterate 2 refine tkA ?_)
   refine tkH (i:=4) (v:=_) (y:=(yieldsIf_load_mid (by rfl) tR (.tmp 5) rfl (w.heap.size+1) 0 (by rfl) (cR ⟨hd,vt,s,ix,sz,dy,sr,ct,pl,rt,pa,si,pb,pc⟩).toList _ (fun _ h=>ycc h.2) underlying35 rfl (ybT ⟨hd,vt,s,ix,sz,dy,sr,ct,pl,rt,pa,si,pb,pc⟩))) (h:=?_)
   try simp only [pt]
   refine tkY 6 ?_;refine tkH (i:=7) (v:=?gB6v) (y:=(Or.inl ⟨by rfl,?gB6y⟩)) (h:=?gB6r);case gB6y=>(intro w hSw;(try dsimp only at hSw);(obtain ⟨z,Z,k2,k3,k4,k5,k6,k7,k8,k9,M,N,T,O⟩:=ybs hSw.2);go_simp;try (with_reducible rfl))
   try simp only [pt]
   refine tkY 8 ?_;refine tkH (i:=9) (v:=?gB8v) (y:=(Or.inl ⟨by rfl,?gB8y⟩)) (h:=?gB8r);case gB8y=>(intro w hSw;(try dsimp only at hSw);(obtain ⟨z,Z,k2,k3,k4,k5,k6,k7,k8,k9,M,N,T,O⟩:=ybs hSw.2);go_simp;try (with_reducible rfl))
   try simp only [pt]
   refine tkY 10 ?_;refine tkH (i:=11) (v:=?gB10v) (y:=(Or.inl ⟨by rfl,?gB10y⟩)) (h:=?gB10r);case gB10y=>(intro w hSw;(try dsimp only at hSw);(obtain ⟨z,Z,k2,k3,k4,k5,k6,k7,k8,k9,M,N,T,O⟩:=ybs hSw.2);go_simp;try (with_reducible rfl))
   try simp only [pt]
   refine tkY 12 ?_;refine tkH (i:=13) (v:=?gB12v) (y:=(Or.inl ⟨by rfl,?gB12y⟩)) (h:=?gB12r);case gB12y=>(intro w hSw;(try dsimp only at hSw);(obtain ⟨z,Z,k2,k3,k4,k5,k6,k7,k8,k9,M,N,T,O⟩:=ybs hSw.2);go_simp;try (with_reducible rfl))
   try simp only [pt]
   refine rd1 5 (fun K G=>?_)
   (go_simp;go_at_call 96;(with_reducible refine (HL.out _ yaD).mono ?_);rintro e w5 ⟨rfl,ag⟩;(have HBx:Hid (Below (w.heap.size+2) H w5):=Below.trans (B:=w.heap.size+2) yaD (Below.mono ag (HS.out▸ya1)));clear ag;go_wp2_with fail)
   refine G.out _ _ yam (fun ac=>?_);clear G K am
   try simp only [pt]
   refine rd1 14 (fun K G=>?_)
   (go_simp;go_at_call 95;(with_reducible refine (HM.out _ yaD).mono ?_);rintro e w6 ⟨rfl,ae⟩;(have HBx:Hid (Below (w.heap.size+2) H w6):=Below.trans (B:=w.heap.size+2) yaD (Below.mono ae (HS.out▸ya1)));clear ae;go_wp2_with fail)
   refine G.out _ _ yam (fun aE=>?_);clear G K ac
   try simp only [pt]
   refine tkY 15 ?_;refine tkY 16 ?_;refine wpAnyH_done ybi ?_ _;go_wp2_with fail;go_ret;exact ⟨by rw [HF.out];rfl,HB.out.trans (HBx.out.mono (Nat.le_add_right _ 2))⟩
  |true=>
   rw [hm] at HM HF;rw [Bool.true_and] at HF;clear hm;go_enter func47,ntmps47;go_upto_region 1 with fail
   rw [<-HWE.out];go_wp2_with fail;refine rH (S:=(fun J=>J.heap[w.heap.size]? =some (.cells (cSc b h) 26 (0,0))/\J.heap[w.heap.size+1]? =some (.cells (cR ⟨hd,vt,s,ix,sz,dy,sr,ct,pl,rt,pa,si,pb,pc⟩) tR (0,0)))) ybi yam (fun L=>?_);refine tkH (i:=0) (v:=_) (y:=(yieldsIf_load_mid (by rfl) tR (.tmp 5) rfl (w.heap.size+1) 0 (by rfl) (cR ⟨hd,vt,s,ix,sz,dy,sr,ct,pl,rt,pa,si,pb,pc⟩).toList _ (fun _ h=>ycc h.2) underlying35 rfl (ybT ⟨hd,vt,s,ix,sz,dy,sr,ct,pl,rt,pa,si,pb,pc⟩))) (h:=?_)
   try simp only [pt]
   refine rd1 1 (fun K G=>?_)
   (go_simp;go_at_call 45;(with_reducible refine (HV.out _ yaD).mono ?_);rintro e w4 ⟨rfl,W⟩;(have HBx:Hid (Below (w.heap.size+2) H w4):=Below.trans (B:=w.heap.size+2) yaD (Below.mono W (HS.out▸ya1)));clear W;go_wp2_with fail)
   refine G.out _ _ yam (fun ah=>?_);clear G K L
   try simp only [pt]
   (iterate 2 refine tkA ?_)
   refine tkH (i:=4) (v:=_) (y:=(yieldsIf_load_mid (by rfl) tR (.tmp 5) rfl (w.heap.size+1) 0 (by rfl) (cR ⟨hd,vt,s,ix,sz,dy,sr,ct,pl,rt,pa,si,pb,pc⟩).toList _ (fun _ h=>ycc h.2) underlying35 rfl (ybT ⟨hd,vt,s,ix,sz,dy,sr,ct,pl,rt,pa,si,pb,pc⟩))) (h:=?_)
   try simp only [pt]
   refine tkY 6 ?_;refine tkH (i:=7) (v:=?gC6v) (y:=(Or.inl ⟨by rfl,?gC6y⟩)) (h:=?gC6r);case gC6y=>(intro w hSw;(try dsimp only at hSw);(obtain ⟨z,Z,k2,k3,k4,k5,k6,k7,k8,k9,M,N,T,O⟩:=ybs hSw.2);go_simp;try (with_reducible rfl))
   try simp only [pt]
   refine tkY 8 ?_;refine tkH (i:=9) (v:=?gC8v) (y:=(Or.inl ⟨by rfl,?gC8y⟩)) (h:=?gC8r);case gC8y=>(intro w hSw;(try dsimp only at hSw);(obtain ⟨z,Z,k2,k3,k4,k5,k6,k7,k8,k9,M,N,T,O⟩:=ybs hSw.2);go_simp;try (with_reducible rfl))
   try simp only [pt]
   refine tkY 10 ?_;refine tkH (i:=11) (v:=?gC10v) (y:=(Or.inl ⟨by rfl,?gC10y⟩)) (h:=?gC10r);case gC10y=>(intro w hSw;(try dsimp only at hSw);(obtain ⟨z,Z,k2,k3,k4,k5,k6,k7,k8,k9,M,N,T,O⟩:=ybs hSw.2);go_simp;try (with_reducible rfl))
   try simp only [pt]
   refine tkY 12 ?_;refine tkH (i:=13) (v:=?gC12v) (y:=(Or.inl ⟨by rfl,?gC12y⟩)) (h:=?gC12r);case gC12y=>(intro w hSw;(try dsimp only at hSw);(obtain ⟨z,Z,k2,k3,k4,k5,k6,k7,k8,k9,M,N,T,O⟩:=ybs hSw.2);go_simp;try (with_reducible rfl))
   try simp only [pt]
   refine rd1 5 (fun K G=>?_)
   (go_simp;go_at_call 96;(with_reducible refine (HL.out _ yaD).mono ?_);rintro e w5 ⟨rfl,ag⟩;(have HBx:Hid (Below (w.heap.size+2) H w5):=Below.trans (B:=w.heap.size+2) yaD (Below.mono ag (HS.out▸ya1)));clear ag;go_wp2_with fail)
   refine G.out _ _ yam (fun af=>?_);clear G K ah
   try simp only [pt]
   refine rd1 14 (fun K G=>?_)
   (go_simp;go_at_call 95;(with_reducible refine (HM.out _ yaD).mono ?_);rintro e w6 ⟨rfl,ae⟩;(have HBx:Hid (Below (w.heap.size+2) H w6):=Below.trans (B:=w.heap.size+2) yaD (Below.mono ae (HS.out▸ya1)));clear ae;go_wp2_with fail)
   refine G.out _ _ yam (fun aC=>?_);clear G K af
   try simp only [pt]
   refine tkY 15 ?_;refine tkY 16 ?_;refine wpAnyH_done ybi ?_ _;go_wp2_with fail;refine rH (S:=(fun J=>J.heap[w.heap.size]? =some (.cells (cSc b h) 26 (0,0))/\J.heap[w.heap.size+1]? =some (.cells (cR ⟨hd,vt,s,ix,sz,dy,sr,ct,pl,rt,pa,si,pb,pc⟩) tR (0,0)))) ybi yam (fun L=>?_);refine tkH (i:=0) (v:=?gg0v) (y:=(Or.inl ⟨by rfl,?gg0y⟩)) (h:=?gg0r);case gg0y=>(intro w hSw;(try dsimp only at hSw);(obtain ⟨z,Z⟩:=two_of hSw.1);go_simp;try (with_reducible rfl))
   try simp only [pt]
   refine tkY 1 ?_;refine tkH (i:=2) (v:=?gg2v) (y:=(Or.inl ⟨by rfl,?gg2y⟩)) (h:=?gg2r);case gg2y=>(intro w hSw;(try dsimp only at hSw);(obtain ⟨z,Z,k2,k3,k4,k5,k6,k7,k8,k9,M,N,T,O⟩:=ybs hSw.2);go_simp;try (with_reducible rfl))
   try simp only [pt]
   refine tkY 3 ?_;refine tkH (i:=4) (v:=?gg4v) (y:=(Or.inl ⟨by rfl,?gg4y⟩)) (h:=?gg4r);case gg4y=>(intro w hSw;(try dsimp only at hSw);(obtain ⟨z,Z,k2,k3,k4,k5,k6,k7,k8,k9,M,N,T,O⟩:=ybs hSw.2);go_simp;try (with_reducible rfl))
   try simp only [pt]
   refine tkY 6 ?_;refine tkH (i:=7) (v:=?gg6v) (y:=(Or.inl ⟨by rfl,?gg6y⟩)) (h:=?gg6r);case gg6y=>(intro w hSw;(try dsimp only at hSw);(obtain ⟨z,Z,k2,k3,k4,k5,k6,k7,k8,k9,M,N,T,O⟩:=ybs hSw.2);go_simp;try (with_reducible rfl))
   try simp only [pt]
   refine rd1 5 (fun K G=>?_)
   (go_simp;go_at_call 98;(with_reducible refine (HD.out _ yaD).mono ?_);rintro e w7 ⟨rfl,aF⟩;(have HBx:Hid (Below (w.heap.size+2) H w7):=Below.trans (B:=w.heap.size+2) yaD (Below.mono aF (HS.out▸ya1)));clear aF;go_wp2_with fail)
   refine G.out _ _ yam (fun al=>?_);clear G K L
   try simp only [pt]
   refine rd1 8 (fun K G=>?_)
   (go_simp;go_at_call 97;(with_reducible refine (HG.out _ yaD).mono ?_);rintro e w8 ⟨aO,aU,rfl,aA,az⟩;(have HBx:Hid (Below (w.heap.size+2) H w8):=HBx.out.trans (Below.mono az (HS.out▸HBx.out.size)));(have aH:=lh aA);clear az aA;go_wp2_with fail)
   refine G.out _ _ yam (fun aI=>?_);clear G K al
   try simp only [pt]
   refine tkY 9 ?_;refine tkY 10 ?_;refine tkY 11 ?_;refine tkY 12 ?_;refine tkY 13 ?_;refine wpAnyH_done ybi ?_ _;rcases aH.out with ⟨rfl,hf,rfl⟩ |⟨rfl,hf⟩
   all_goals
    have aK:=lh hf;clear hf aH;go_wp2_with fail;go_ret;exact ⟨by rw [HF.out,aK.out];first |rfl |(rw [beqN];rfl),HB.out.trans (HBx.out.mono (Nat.le_add_right _ 2))⟩
