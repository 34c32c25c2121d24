import Derived.Test.YtpdledjgbgalcaaGreatDoorT2
namespace Go.Proofs.YtpdledjgbgalcaaGreatDoor
set_option maxRecDepth 100000
set_option maxHeartbeats 16000000
open Go.RowKit Go.Lib Go.Proofs.Tryz
set_option linter.unusedVariables false
set_option linter.unusedSimpArgs false
def RfS (g:Nat) (A:Option Addr) (n c:Nat) (bs:List Int) (s:RS) (w:World):Prop:=(∃pv:Int,w.heap[g]? =some (.cells #[.slice A n c,.int .i64 s.1,.int .i64 pv,.int .i64 s.2] 184 (0,0)))/\Sl fB w g A n bs
def ybG (g:Nat) (A:Option Addr) (n c:Nat) (bs:List Int) (v:Value) (s:RS) (w:World) (e:Ending) (w':World):Prop:=e= .returned v/\RfS g A n c bs s w'/\But (fun k=>k=g) w w'
theorem RfS.lt {g:Nat} {A:Option Addr} {n c:Nat} {bs:List Int} {s:RS} {w:World} (h:RfS g A n c bs s w):g < w.heap.size:=by
 obtain ⟨⟨pv,h1⟩,_⟩:=h;exact lb h1
theorem RfS.on {g:Nat} {A:Option Addr} {n c:Nat} {bs:List Int} {s:RS} {w H:World} (h:RfS g A n c bs s w) (J:Below w.heap.size w H):RfS g A n c bs s H:=by
 have G:=h.lt;obtain ⟨⟨K,h1⟩,h2⟩:=h;exact ⟨⟨K,(J.block _ G).trans h1⟩,h2.up J (Nat.le_of_lt G)⟩
theorem RfS.but2 {g:Nat} {A:Option Addr} {n c:Nat} {bs:List Int} {s:RS} {w G:World} {p:Nat->Prop} (h:RfS g A n c bs s w) (H:But p w G) (J:¬p g) (K:∀a,A=some a->¬p a.block):RfS g A n c bs s G:=by
 have hl:=h.lt;obtain ⟨⟨L,h1⟩,h2⟩:=h;exact ⟨⟨L,(H.block _ hl J).trans h1⟩,h2.1,h2.2.but H (Nat.le_of_lt hl) K⟩
theorem lt_rf {a b c d:Value} {k:Nat} (h:k < 4):k < (#[a,b,c,d]:Array Value).size:=h
theorem Tryz.sizeEr:(prog.info? 69).map (·.size)=some 1:=by kernel_rfl
def rvP13:Array (Nat × Operand):=#[(0,.tmp 11),(5,.tmp 12)]
theorem rvB13 (a:Act) (k m:Int) (h0:a.eval (.tmp 11)= .int .i64 k) (h1:a.eval (.tmp 12)= .int .i64 m):prog.built 188 (rvP13.map fun (i,x)=>(i,a.eval x)).toList=some (rv k 0 0 ⟨#[]⟩ m):=by
 rw [Array.toList_map];show prog.built 188 [(0,a.eval (.tmp 11)),(5,a.eval (.tmp 12))]=_;rw [h0,h1]
 kernel_rfl
theorem yep (k m:Int) (hk:k≠0) (g:Nat) (A:Option Addr) (n c:Nat) (bs:List Int) (s:RS) (w:World) (hr:RfS g A n c bs s w) (he:s.2≠0):
 Calls prog 112 #[.pointer (some ⟨g,0,none⟩),.int .i64 k,.int .i64 m] w (ybG g A n c bs (.agg (rv k 0 0 ⟨#[]⟩ m)) s w):=by
 obtain ⟨⟨Z,U⟩,z⟩:=hr;have T:=lb U;obtain ⟨G,J,H,O⟩:=ybN w k m;obtain ⟨L,M⟩:=gX (bxW w k m);rw [M] at G J H O;have K:=(G.block _ T).trans U;have HGL:=lh T;have HB1:=lh G;have aa:=lh J;have HG7:=lh H;have ac:=lh K;have HS1:=lh O;have HWE:Hid (L=(w.alloc (.cells (rv 0 0 0 ⟨#[]⟩ 0) 188)).alloc (.cells (rv k 0 0 ⟨#[]⟩ m) 188)):=M.symm;have af:=lh (z.up G (Nat.le_of_lt T));have HX:=lh z
 have HCg:Hid (∀V,Below L.heap.size L V->V.cell? ⟨g,0,none⟩=some (.slice A n c)/\V.cell? ⟨g,1,none⟩=some (.int .i64 s.1)/\V.cell? ⟨g,2,none⟩=some (.int .i64 Z)/\V.cell? ⟨g,3,none⟩=some (.int .i64 s.2)):=fun V N=>by
  have q:=(N.block g om).trans K;refine ⟨?_,?_,?_,?_⟩<;>(rw [cell_of_row V _ _ _ _ _ q];rfl)
 have ag:Hid (∀V,Below L.heap.size L V->V.heap[g]? =some (.cells #[.slice A n c,.int .i64 s.1,.int .i64 Z,.int .i64 s.2] 184 (0,0))/\V.heap[w.heap.size]? =some (.cells (rv 0 0 0 ⟨#[]⟩ 0) 188 (0,0))/\V.heap[w.heap.size+1]? =some (.cells (rv k 0 0 ⟨#[]⟩ m) 188 (0,0))):=fun V N=>
  ⟨(N.block g om).trans K,(N.block _ om).trans J,(N.block _ om).trans H⟩
 have ae:(s.2 != 0)=true:=by simp [he]
 obtain ⟨c0,c1,c2,c3⟩:=HCg.out L bR;clear z U G J H O K M;go_enter func112,ntmps112;go_upto_region 2 with (with_reducible refine ybq (o:=⟨some 13,_,_,_,_,_⟩) rfl 188 rvP13 ybi (rv k 0 0 ⟨#[]⟩ m) (rvB13 _ k m rfl rfl) ?_)
 rw [<-HWE.out]
 go_wp2_with (first
  |(with_reducible refine wpList_load_row (o:=⟨some 19,_,_,_,_,_⟩) rfl 188 (.tmp 7) rfl (w.heap.size+1) rfl 188 (rv k 0 0 ⟨#[]⟩ m) _ _ HG7.out underlying188 rfl (ybp _ _ _ _ _) ?_)
  |((with_reducible refine ybk (o:=⟨none,_,_,_,_,_⟩) rfl 188 (.tmp 6) (.tmp 19) rfl w.heap.size 188 (rv 0 0 0 ⟨#[]⟩ 0) (rv k 0 0 ⟨#[]⟩ m) rfl rfl aa.out (ybp _ _ _ _ _) rfl (ybX _ _ _ _ _) ?_);intro W7 Y HB7))
 have W:Below w.heap.size w W7:=HB1.out.trans (HB7.out.below HB1.out.size (fun i hi=>by subst hi;exact Nat.le_refl _));refine bodyPost_ret (results_cell_row rfl _ _ _ _ _ _ _ rfl Y.out underlying188 rfl (ybp _ _ _ _ _)) rfl ⟨rfl,⟨⟨Z,(HB7.out.block g (by have:=HGL.out;have:=HS1.out;omega) ybe).trans ac.out⟩,HX.out.up W (Nat.le_of_lt HGL.out)⟩,But.of_below W⟩
theorem ycO (u nn:Int) (sv:ByteArray) (q:Nat) (er:Int) (k m:Int) (hk:k≠0) (g:Nat) (A:Option Addr) (n c:Nat) (bs:List Int) (s:RS) (w:World) (hr:RfS g A n c bs s w) (he:s.2=0) (aA:er≠0) (HC:∀V,Sl fB V g A n bs->g<=V.heap.size->Calls prog 178 #[.slice A n c,.int .i64 s.1,.int .i64 k,.int .i64 m] V (RdP k u nn sv m q er V)):
 Calls prog 112 #[.pointer (some ⟨g,0,none⟩),.int .i64 k,.int .i64 m] w (ybG g A n c bs (.agg (rv k 0 0 ⟨#[]⟩ m)) (s.1,er) w):=by
 obtain ⟨⟨pv,ar⟩,hx⟩:=hr;have ai:=lb ar;obtain ⟨U,af,ae,ap⟩:=ybN w k m;obtain ⟨G,aj⟩:=gX (bxW w k m);rw [aj] at U af ae ap;have ah:=(U.block _ ai).trans ar;have HGL:=lh ai;have HB1:=lh U;have aD:=lh af;have HG7:=lh ae;have aE:=lh ah;have HS1:=lh ap;have HWE:Hid (G=(w.alloc (.cells (rv 0 0 0 ⟨#[]⟩ 0) 188)).alloc (.cells (rv k 0 0 ⟨#[]⟩ m) 188)):=aj.symm;have aB:=lh (hx.up U (Nat.le_of_lt ai));have HX:=lh hx
 have HCg:Hid (∀V,Below G.heap.size G V->V.cell? ⟨g,0,none⟩=some (.slice A n c)/\V.cell? ⟨g,1,none⟩=some (.int .i64 s.1)/\V.cell? ⟨g,2,none⟩=some (.int .i64 pv)/\V.cell? ⟨g,3,none⟩=some (.int .i64 s.2)):=fun V N=>by
  have q:=(N.block g om).trans ah;refine ⟨?_,?_,?_,?_⟩<;>(rw [cell_of_row V _ _ _ _ _ q];rfl)
 have aw:Hid (∀V,Below G.heap.size G V->V.heap[g]? =some (.cells #[.slice A n c,.int .i64 s.1,.int .i64 pv,.int .i64 s.2] 184 (0,0))/\V.heap[w.heap.size]? =some (.cells (rv 0 0 0 ⟨#[]⟩ 0) 188 (0,0))/\V.heap[w.heap.size+1]? =some (.cells (rv k 0 0 ⟨#[]⟩ m) 188 (0,0))):=fun V N=>
  ⟨(N.block g om).trans ah,(N.block _ om).trans af,(N.block _ om).trans ae⟩
 have aF:(s.2 != 0)=false:=by simp [he]
 have aG:(k==0)=false:=by simp [hk]
 have aC:(er != 0)=true:=by simp [aA]
 have au:Hid (∀V,Below G.heap.size G V->Calls prog 178 #[.slice A n c,.int .i64 s.1,.int .i64 k,.int .i64 m] V (RdP k u nn sv m q er V)):=fun V N=>HC V (aB.out.up N om) (by have:=N.size;omega);obtain ⟨c0,c1,c2,c3⟩:=HCg.out G bR;have HB:Hid (Below G.heap.size G G):=Below.refl _ _;clear HC hx ar U af ae ap ah aj ai;go_enter func112,ntmps112;go_upto_region 2 with (with_reducible refine ybq (o:=⟨some 13,_,_,_,_,_⟩) rfl 188 rvP13 ybi (rv k 0 0 ⟨#[]⟩ m) (rvB13 _ k m rfl rfl) ?_)
 rw [<-HWE.out];go_upto_region 7 with fail
 refine rH (S:=(fun w'=>w'.cell? ⟨g,0,none⟩=some (.slice A n c)/\w'.cell? ⟨g,1,none⟩=some (.int .i64 s.1))) ybi yag (fun ag=>?_)
 (iterate 10 refine tkA ?_)
 refine rd2 10 15 (fun K J=>?_) (fun K J=>?_)
 ·(go_simp;go_at_call 178;(with_reducible refine (au.out _ yat).mono ?_);rintro e M ⟨rfl,Y⟩;(have H:Hid (Below G.heap.size G M):=Below.trans yat (Y.mono ya2));(first |(have aq:Hid (M.heap[G.heap.size]? =some (.cells (rv 0 0 0 ⟨#[]⟩ 0) 188 (0,0))):=(Y.block _ sI).trans (by first |exact zy _ _)) |skip);(have HBW:Hid (G.heap.size<=M.heap.size):=H.out.size);clear Y HB;have HB:=H;clear H;go_wp2_with fail)
  refine J.out _ _ yag (fun W=>?_);clear J K ag
  try simp only [pt]
  refine tkY 11 ?_;refine tkY 12 ?_;refine tkY 13 ?_;refine tkY 14 ?_;refine rd1 15 (fun K J=>?_);go_simp;refine J.out _ _ yag (fun z=>?_);clear J K W
  try simp only [pt]
  refine rd1 16 (fun K J=>?_)
  ((first |(refine ybu (o:=⟨none,_,_,_,_,_⟩) rfl 188 (.tmp 8) (.tmp 45) rfl M.heap.size 188 (rv 0 0 0 ⟨#[]⟩ 0) (rv k u nn sv m) ybi ybi (zy M _) (ybp _ _ _ _ _) rfl (ybX _ _ _ _ _) ?_) |(refine ybu (o:=⟨none,_,_,_,_,_⟩) rfl 188 (.tmp 8) (.tmp 45) rfl G.heap.size 188 (rv 0 0 0 ⟨#[]⟩ 0) (rv k u nn sv m) ybi ybi aq.out (ybp _ _ _ _ _) rfl (ybX _ _ _ _ _) ?_));intro W8 az al;(have H:Hid (Below G.heap.size G W8):=Below.trans (B:=G.heap.size) yat (al.out.below yaS (fun i hi=>by subst hi;first |exact Nat.le_refl _ |exact HB.out.size))));clear HB;have HB:=H;clear H
  refine J.out _ _ yag (fun ax=>?_);clear J K z
  try simp only [pt]
  refine tkY 17 ?_;refine tkY 18 ?_;refine wpAnyH_done ybi ?_ _;clear c0 c1 c2 c3;obtain ⟨c0,c1,c2,c3⟩:=HCg.out W8 HB.out;obtain ⟨H1,H2,H3⟩:=aw.out W8 HB.out;have ao:=lh H1;have O:=lh H2;have T:=lh H3;clear H1 H2 H3;go_wp2_with (first |((with_reducible refine ybn (o:=⟨none,_,_,_,_,_⟩) rfl 69 (.tmp 53) (.tmp 51) rfl g 184 3 (#[.slice A n c,.int .i64 s.1,.int .i64 pv,.int .i64 s.2]) (.int .i64 er) ybi rfl ao.out (lt_rf de) Tryz.sizeEr ybi ?_);intro W5 HG5 L;(have ak:=lh ((L.out.block (w.heap.size+1) (lb T.out) ybe).trans T.out));(have am:=lh ((L.out.block w.heap.size (lb O.out) ybe).trans O.out));clear c0 c1 c2 c3) |(with_reducible refine wpList_load_row (o:=⟨some 54,_,_,_,_,_⟩) rfl 188 (.tmp 7) rfl (w.heap.size+1) rfl 188 (rv k 0 0 ⟨#[]⟩ m) _ _ ak.out underlying188 rfl (ybp _ _ _ _ _) ?_) |((with_reducible refine ybk (o:=⟨none,_,_,_,_,_⟩) rfl 188 (.tmp 6) (.tmp 54) rfl w.heap.size 188 (rv 0 0 0 ⟨#[]⟩ 0) (rv k 0 0 ⟨#[]⟩ m) rfl rfl am.out (ybp _ _ _ _ _) rfl (ybX _ _ _ _ _) ?_);intro W7 Z HB7));have hA:Below w.heap.size w W8:=bt HB1.out HB.out;have hC:But (fun k=>k=g) w W7:=((But.of_below (p:=fun k=>k=g) hA).trans L.out (fun i hi=> .inl hi)).trans HB7.out (fun i hi=> .inr (by subst hi;exact Nat.le_refl _));refine bodyPost_ret (results_cell_row rfl _ _ _ _ _ _ _ rfl Z.out underlying188 rfl (ybp _ _ _ _ _)) rfl ⟨rfl,⟨⟨pv,(HB7.out.block g (lb HG5.out) ybe).trans HG5.out⟩,HX.out.butg hC (Nat.le_of_lt HGL.out)⟩,hC⟩
 ·go_simp;refine J.out _ _ yag (fun aa=>?_);clear J K ag
  try simp only [pt]
  refine rd1 10 (fun K J=>?_)
  (go_simp;go_at_call 178;(with_reducible refine (au.out _ yat).mono ?_);rintro e M ⟨rfl,Y⟩;(have H:Hid (Below G.heap.size G M):=Below.trans yat (Y.mono ya2));(first |(have aq:Hid (M.heap[G.heap.size]? =some (.cells (rv 0 0 0 ⟨#[]⟩ 0) 188 (0,0))):=(Y.block _ sI).trans (by first |exact zy _ _)) |skip);(have HBW:Hid (G.heap.size<=M.heap.size):=H.out.size);clear Y HB;have HB:=H;clear H;go_wp2_with fail)
  refine J.out _ _ yag (fun ac=>?_);clear J K aa
  try simp only [pt]
  refine tkY 11 ?_;refine tkY 12 ?_;refine tkY 13 ?_;refine tkY 14 ?_;refine rd1 16 (fun K J=>?_)
  ((first |(refine ybu (o:=⟨none,_,_,_,_,_⟩) rfl 188 (.tmp 8) (.tmp 45) rfl M.heap.size 188 (rv 0 0 0 ⟨#[]⟩ 0) (rv k u nn sv m) ybi ybi (zy M _) (ybp _ _ _ _ _) rfl (ybX _ _ _ _ _) ?_) |(refine ybu (o:=⟨none,_,_,_,_,_⟩) rfl 188 (.tmp 8) (.tmp 45) rfl G.heap.size 188 (rv 0 0 0 ⟨#[]⟩ 0) (rv k u nn sv m) ybi ybi aq.out (ybp _ _ _ _ _) rfl (ybX _ _ _ _ _) ?_));intro W8 az al;(have H:Hid (Below G.heap.size G W8):=Below.trans (B:=G.heap.size) yat (al.out.below yaS (fun i hi=>by subst hi;first |exact Nat.le_refl _ |exact HB.out.size))));clear HB;have HB:=H;clear H
  refine J.out _ _ yag (fun ay=>?_);clear J K ac
  try simp only [pt]
  refine tkY 17 ?_;refine tkY 18 ?_;refine wpAnyH_done ybi ?_ _;clear c0 c1 c2 c3;obtain ⟨c0,c1,c2,c3⟩:=HCg.out W8 HB.out;obtain ⟨H1,H2,H3⟩:=aw.out W8 HB.out;have ao:=lh H1;have O:=lh H2;have T:=lh H3;clear H1 H2 H3;go_wp2_with (first |((with_reducible refine ybn (o:=⟨none,_,_,_,_,_⟩) rfl 69 (.tmp 53) (.tmp 51) rfl g 184 3 (#[.slice A n c,.int .i64 s.1,.int .i64 pv,.int .i64 s.2]) (.int .i64 er) ybi rfl ao.out (lt_rf de) Tryz.sizeEr ybi ?_);intro W5 HG5 L;(have ak:=lh ((L.out.block (w.heap.size+1) (lb T.out) ybe).trans T.out));(have am:=lh ((L.out.block w.heap.size (lb O.out) ybe).trans O.out));clear c0 c1 c2 c3) |(with_reducible refine wpList_load_row (o:=⟨some 54,_,_,_,_,_⟩) rfl 188 (.tmp 7) rfl (w.heap.size+1) rfl 188 (rv k 0 0 ⟨#[]⟩ m) _ _ ak.out underlying188 rfl (ybp _ _ _ _ _) ?_) |((with_reducible refine ybk (o:=⟨none,_,_,_,_,_⟩) rfl 188 (.tmp 6) (.tmp 54) rfl w.heap.size 188 (rv 0 0 0 ⟨#[]⟩ 0) (rv k 0 0 ⟨#[]⟩ m) rfl rfl am.out (ybp _ _ _ _ _) rfl (ybX _ _ _ _ _) ?_);intro W7 Z HB7));have hA:Below w.heap.size w W8:=bt HB1.out HB.out;have hC:But (fun k=>k=g) w W7:=((But.of_below (p:=fun k=>k=g) hA).trans L.out (fun i hi=> .inl hi)).trans HB7.out (fun i hi=> .inr (by subst hi;exact Nat.le_refl _));refine bodyPost_ret (results_cell_row rfl _ _ _ _ _ _ _ rfl Z.out underlying188 rfl (ybp _ _ _ _ _)) rfl ⟨rfl,⟨⟨pv,(HB7.out.block g (lb HG5.out) ybe).trans HG5.out⟩,HX.out.butg hC (Nat.le_of_lt HGL.out)⟩,hC⟩
theorem rd52_ok (u M:Int) (N:ByteArray) (q:Nat) (er:Int) (k m:Int) (hk:k≠0) (g:Nat) (A:Option Addr) (n c:Nat) (bs:List Int) (s:RS) (w:World) (hr:RfS g A n c bs s w) (he:s.2=0) (aD:er=0) (HC:∀V,Sl fB V g A n bs->g<=V.heap.size->Calls prog 178 #[.slice A n c,.int .i64 s.1,.int .i64 k,.int .i64 m] V (RdP k u M N m q er V)):
 Calls prog 112 #[.pointer (some ⟨g,0,none⟩),.int .i64 k,.int .i64 m] w (ybG g A n c bs (.agg (rv k u M N m)) (q,0) w):=by
 obtain ⟨⟨pv,ax⟩,hx⟩:=hr;have al:=lb ax;obtain ⟨z,aj,ai,au⟩:=ybN w k m;obtain ⟨G,ao⟩:=gX (bxW w k m);rw [ao] at z aj ai au;have am:=(z.block _ al).trans ax;have HGL:=lh al;have HB1:=lh z;have aF:=lh aj;have HG7:=lh ai;have aG:=lh am;have HS1:=lh au;have HWE:Hid (G=(w.alloc (.cells (rv 0 0 0 ⟨#[]⟩ 0) 188)).alloc (.cells (rv k 0 0 ⟨#[]⟩ m) 188)):=ao.symm;have aE:=lh (hx.up z (Nat.le_of_lt al));have HX:=lh hx
 have HCg:Hid (∀V,Below G.heap.size G V->V.cell? ⟨g,0,none⟩=some (.slice A n c)/\V.cell? ⟨g,1,none⟩=some (.int .i64 s.1)/\V.cell? ⟨g,2,none⟩=some (.int .i64 pv)/\V.cell? ⟨g,3,none⟩=some (.int .i64 s.2)):=fun V Z=>by
  have q:=(Z.block g om).trans am;refine ⟨?_,?_,?_,?_⟩<;>(rw [cell_of_row V _ _ _ _ _ q];rfl)
 have aA:Hid (∀V,Below G.heap.size G V->V.heap[g]? =some (.cells #[.slice A n c,.int .i64 s.1,.int .i64 pv,.int .i64 s.2] 184 (0,0))/\V.heap[w.heap.size]? =some (.cells (rv 0 0 0 ⟨#[]⟩ 0) 188 (0,0))/\V.heap[w.heap.size+1]? =some (.cells (rv k 0 0 ⟨#[]⟩ m) 188 (0,0))):=fun V Z=>
  ⟨(Z.block g om).trans am,(Z.block _ om).trans aj,(Z.block _ om).trans ai⟩
 have aI:(s.2 != 0)=false:=by simp [he]
 have aH:(k==0)=false:=by simp [hk]
 subst aD;have az:Hid (∀V,Below G.heap.size G V->Calls prog 178 #[.slice A n c,.int .i64 s.1,.int .i64 k,.int .i64 m] V (RdP k u M N m q 0 V)):=fun V Z=>HC V (aE.out.up Z om) (by have:=Z.size;omega);obtain ⟨c0,c1,c2,c3⟩:=HCg.out G bR;have HB:Hid (Below G.heap.size G G):=Below.refl _ _;have HE:Hid (s.2=0):=he;clear HC hx ax z aj ai au am ao al;go_enter func112,ntmps112;go_upto_region 2 with (with_reducible refine ybq (o:=⟨some 13,_,_,_,_,_⟩) rfl 188 rvP13 ybi (rv k 0 0 ⟨#[]⟩ m) (rvB13 _ k m rfl rfl) ?_)
 rw [<-HWE.out];go_upto_region 7 with fail
 refine rH (S:=(fun w'=>w'.cell? ⟨g,0,none⟩=some (.slice A n c)/\w'.cell? ⟨g,1,none⟩=some (.int .i64 s.1))) ybi yag (fun ak=>?_)
 (iterate 10 refine tkA ?_)
 refine rd2 10 15 (fun K J=>?_) (fun K J=>?_)
 ·(go_simp;go_at_call 178;(with_reducible refine (az.out _ yat).mono ?_);rintro e O ⟨rfl,b6⟩;(have H:Hid (Below G.heap.size G O):=Below.trans yat (b6.mono ya2));(first |(have aw:Hid (O.heap[G.heap.size]? =some (.cells (rv 0 0 0 ⟨#[]⟩ 0) 188 (0,0))):=(b6.block _ sI).trans (by first |exact zy _ _)) |skip);(have HBW:Hid (G.heap.size<=O.heap.size):=H.out.size);clear b6 HB;have HB:=H;clear H;go_wp2_with fail)
  refine J.out _ _ yag (fun aa=>?_);clear J K ak
  try simp only [pt]
  refine tkY 11 ?_;refine tkY 12 ?_;refine tkY 13 ?_;refine tkY 14 ?_;refine rd1 15 (fun K J=>?_);go_simp;refine J.out _ _ yag (fun af=>?_);clear J K aa
  try simp only [pt]
  refine rd1 16 (fun K J=>?_)
  ((first |(refine ybu (o:=⟨none,_,_,_,_,_⟩) rfl 188 (.tmp 8) (.tmp 45) rfl O.heap.size 188 (rv 0 0 0 ⟨#[]⟩ 0) (rv k u M N m) ybi ybi (zy O _) (ybp _ _ _ _ _) rfl (ybX _ _ _ _ _) ?_) |(refine ybu (o:=⟨none,_,_,_,_,_⟩) rfl 188 (.tmp 8) (.tmp 45) rfl G.heap.size 188 (rv 0 0 0 ⟨#[]⟩ 0) (rv k u M N m) ybi ybi aw.out (ybp _ _ _ _ _) rfl (ybX _ _ _ _ _) ?_));intro W8 T ap;(have H:Hid (Below G.heap.size G W8):=Below.trans (B:=G.heap.size) yat (ap.out.below yaS (fun i hi=>by subst hi;first |exact Nat.le_refl _ |exact HB.out.size))));clear HB;have HB:=H;clear H
  refine J.out _ _ yag (fun aB=>?_);clear J K af
  try simp only [pt]
  refine tkY 17 ?_;refine tkY 18 ?_;refine wpAnyH_done ybi ?_ _;clear c0 c1 c2 c3;obtain ⟨c0,c1,c2,c3⟩:=HCg.out W8 HB.out;obtain ⟨H1,H2,H3⟩:=aA.out W8 HB.out;have ar:=lh H1;have U:=lh H2;clear H1 H2 H3;go_wp2_with (first |((with_reducible refine ybn (o:=⟨none,_,_,_,_,_⟩) rfl 3 (.tmp 63) (.tmp 60) rfl g 184 2 (#[.slice A n c,.int .i64 s.1,.int .i64 pv,.int .i64 s.2]) (.int .i64 s.1) ybi rfl ar.out (lt_rf de) Tryz.sizeI ybi ?_);intro W4 ay L;(have ae:Hid (W4.heap[g]? =some (.cells #[.slice A n c,.int .i64 s.1,.int .i64 s.1,.int .i64 s.2] 184 (0,0))):=ay.out)) |((with_reducible refine ybn (o:=⟨none,_,_,_,_,_⟩) rfl 3 (.tmp 65) (.tmp 61) rfl g 184 1 (#[.slice A n c,.int .i64 s.1,.int .i64 s.1,.int .i64 s.2]) (.int .i64 q) ybi rfl ae.out (lt_rf de) Tryz.sizeI ybi ?_);intro W5 HG5 W;(have aq:=lh ((W.out.block w.heap.size (Nat.lt_of_lt_of_le (lb U.out) L.out.size) ybe).trans ((L.out.block w.heap.size (lb U.out) ybe).trans U.out)));(have Y:=lh ((W.out.block _ (Nat.lt_of_lt_of_le (lb T.out) L.out.size) yaY).trans ((L.out.block _ (lb T.out) yaY).trans T.out)));clear c0 c1 c2 c3) |(with_reducible refine wpList_load_row (o:=⟨some 66,_,_,_,_,_⟩) rfl 188 (.tmp 8) rfl O.heap.size rfl 188 (rv k u M N m) _ _ Y.out underlying188 rfl (ybp _ _ _ _ _) ?_) |(with_reducible refine wpList_load_row (o:=⟨some 66,_,_,_,_,_⟩) rfl 188 (.tmp 8) rfl G.heap.size rfl 188 (rv k u M N m) _ _ Y.out underlying188 rfl (ybp _ _ _ _ _) ?_) |((with_reducible refine ybk (o:=⟨none,_,_,_,_,_⟩) rfl 188 (.tmp 6) (.tmp 66) rfl w.heap.size 188 (rv 0 0 0 ⟨#[]⟩ 0) (rv k u M N m) rfl rfl aq.out (ybp _ _ _ _ _) rfl (ybX _ _ _ _ _) ?_);intro W7 ac HB7));have hA:Below w.heap.size w W8:=bt HB1.out HB.out;have hC:But (fun k=>k=g) w W7:=(((But.of_below (p:=fun k=>k=g) hA).trans L.out (fun i hi=> .inl hi)).trans W.out (fun i hi=> .inl hi)).trans HB7.out (fun i hi=> .inr (by subst hi;exact Nat.le_refl _));have hG:W7.heap[g]? =some (.cells #[.slice A n c,.int .i64 q,.int .i64 s.1,.int .i64 s.2] 184 (0,0)):=(HB7.out.block g (lb HG5.out) ybe).trans HG5.out;rw [HE.out] at hG;refine bodyPost_ret (results_cell_row rfl _ _ _ _ _ _ _ rfl ac.out underlying188 rfl (ybp _ _ _ _ _)) rfl ⟨rfl,⟨⟨s.1,hG⟩,HX.out.butg hC (Nat.le_of_lt HGL.out)⟩,hC⟩
 ·go_simp;refine J.out _ _ yag (fun ag=>?_);clear J K ak
  try simp only [pt]
  refine rd1 10 (fun K J=>?_)
  (go_simp;go_at_call 178;(with_reducible refine (az.out _ yat).mono ?_);rintro e O ⟨rfl,b6⟩;(have H:Hid (Below G.heap.size G O):=Below.trans yat (b6.mono ya2));(first |(have aw:Hid (O.heap[G.heap.size]? =some (.cells (rv 0 0 0 ⟨#[]⟩ 0) 188 (0,0))):=(b6.block _ sI).trans (by first |exact zy _ _)) |skip);(have HBW:Hid (G.heap.size<=O.heap.size):=H.out.size);clear b6 HB;have HB:=H;clear H;go_wp2_with fail)
  refine J.out _ _ yag (fun ah=>?_);clear J K ag
  try simp only [pt]
  refine tkY 11 ?_;refine tkY 12 ?_;refine tkY 13 ?_;refine tkY 14 ?_;refine rd1 16 (fun K J=>?_)
  ((first |(refine ybu (o:=⟨none,_,_,_,_,_⟩) rfl 188 (.tmp 8) (.tmp 45) rfl O.heap.size 188 (rv 0 0 0 ⟨#[]⟩ 0) (rv k u M N m) ybi ybi (zy O _) (ybp _ _ _ _ _) rfl (ybX _ _ _ _ _) ?_) |(refine ybu (o:=⟨none,_,_,_,_,_⟩) rfl 188 (.tmp 8) (.tmp 45) rfl G.heap.size 188 (rv 0 0 0 ⟨#[]⟩ 0) (rv k u M N m) ybi ybi aw.out (ybp _ _ _ _ _) rfl (ybX _ _ _ _ _) ?_));intro W8 T ap;(have H:Hid (Below G.heap.size G W8):=Below.trans (B:=G.heap.size) yat (ap.out.below yaS (fun i hi=>by subst hi;first |exact Nat.le_refl _ |exact HB.out.size))));clear HB;have HB:=H;clear H
  refine J.out _ _ yag (fun aC=>?_);clear J K ah
  try simp only [pt]
  refine tkY 17 ?_;refine tkY 18 ?_;refine wpAnyH_done ybi ?_ _;clear c0 c1 c2 c3;obtain ⟨c0,c1,c2,c3⟩:=HCg.out W8 HB.out;obtain ⟨H1,H2,H3⟩:=aA.out W8 HB.out;have ar:=lh H1;have U:=lh H2;clear H1 H2 H3;go_wp2_with (first |((with_reducible refine ybn (o:=⟨none,_,_,_,_,_⟩) rfl 3 (.tmp 63) (.tmp 60) rfl g 184 2 (#[.slice A n c,.int .i64 s.1,.int .i64 pv,.int .i64 s.2]) (.int .i64 s.1) ybi rfl ar.out (lt_rf de) Tryz.sizeI ybi ?_);intro W4 ay L;(have ae:Hid (W4.heap[g]? =some (.cells #[.slice A n c,.int .i64 s.1,.int .i64 s.1,.int .i64 s.2] 184 (0,0))):=ay.out)) |((with_reducible refine ybn (o:=⟨none,_,_,_,_,_⟩) rfl 3 (.tmp 65) (.tmp 61) rfl g 184 1 (#[.slice A n c,.int .i64 s.1,.int .i64 s.1,.int .i64 s.2]) (.int .i64 q) ybi rfl ae.out (lt_rf de) Tryz.sizeI ybi ?_);intro W5 HG5 W;(have aq:=lh ((W.out.block w.heap.size (Nat.lt_of_lt_of_le (lb U.out) L.out.size) ybe).trans ((L.out.block w.heap.size (lb U.out) ybe).trans U.out)));(have Y:=lh ((W.out.block _ (Nat.lt_of_lt_of_le (lb T.out) L.out.size) yaY).trans ((L.out.block _ (lb T.out) yaY).trans T.out)));clear c0 c1 c2 c3) |(with_reducible refine wpList_load_row (o:=⟨some 66,_,_,_,_,_⟩) rfl 188 (.tmp 8) rfl O.heap.size rfl 188 (rv k u M N m) _ _ Y.out underlying188 rfl (ybp _ _ _ _ _) ?_) |(with_reducible refine wpList_load_row (o:=⟨some 66,_,_,_,_,_⟩) rfl 188 (.tmp 8) rfl G.heap.size rfl 188 (rv k u M N m) _ _ Y.out underlying188 rfl (ybp _ _ _ _ _) ?_) |((with_reducible refine ybk (o:=⟨none,_,_,_,_,_⟩) rfl 188 (.tmp 6) (.tmp 66) rfl w.heap.size 188 (rv 0 0 0 ⟨#[]⟩ 0) (rv k u M N m) rfl rfl aq.out (ybp _ _ _ _ _) rfl (ybX _ _ _ _ _) ?_);intro W7 ac HB7));have hA:Below w.heap.size w W8:=bt HB1.out HB.out;have hC:But (fun k=>k=g) w W7:=(((But.of_below (p:=fun k=>k=g) hA).trans L.out (fun i hi=> .inl hi)).trans W.out (fun i hi=> .inl hi)).trans HB7.out (fun i hi=> .inr (by subst hi;exact Nat.le_refl _));have hG:W7.heap[g]? =some (.cells #[.slice A n c,.int .i64 q,.int .i64 s.1,.int .i64 s.2] 184 (0,0)):=(HB7.out.block g (lb HG5.out) ybe).trans HG5.out;rw [HE.out] at hG;refine bodyPost_ret (results_cell_row rfl _ _ _ _ _ _ _ rfl ac.out underlying188 rfl (ybp _ _ _ _ _)) rfl ⟨rfl,⟨⟨s.1,hG⟩,HX.out.butg hC (Nat.le_of_lt HGL.out)⟩,hC⟩
theorem numF_er (bs:List Int):∀(k G i p:Nat),(numF bs k G i p).2.1=0∨(numF bs k G i p).2.1=3
 |0,_,_,_=> .inr rfl
 |k+1,G,i,p=>by
  rw [numF]
  cases bs[p]? with
  |none=>exact .inr rfl
  |some b=>
   simp only
   split
   ·exact numF_er bs k _ _ _
   ·split
    ·exact .inr rfl
    ·exact .inl rfl
theorem ydW {bs:List Int} {p:Nat} {v:Int} {q:Nat} (h:numF bs 10 0 0 p=(v,0,q)):nmF bs p=(v,q,true):=by unfold nmF;rw [h];rfl
theorem nmF_not {bs:List Int} {p:Nat} (h:(numF bs 10 0 0 p).2.1≠0):nmF bs p=(0,0,false):=by unfold nmF;rw [if_neg h]
theorem numF_two (bs:List Int) (p:Nat):(∃v q,0<=v/\numF bs 10 0 0 p=(v,0,q))∨(numF bs 10 0 0 p).2.1=3:=by
 rcases numF_er bs 10 0 0 p with h |h
 ·exact .inl ⟨(numF bs 10 0 0 p).1,(numF bs 10 0 0 p).2.2,ybY bs 10 0 0 p,by rw [<-h]⟩
 ·exact .inr h
theorem rV_er {α:Type} {s:RS} {z:α} {N:α × Int × Nat} (h:s.2≠0):rV s z N=(z,s):=by unfold rV;rw [if_neg h]
theorem rV_bad {α:Type} {s:RS} {z:α} {N:α × Int × Nat} {e:Int} (h:s.2=0) (h2:N.2.1=e) (h3:e≠0):rV s z N=(z,s.1,e):=by unfold rV;rw [if_pos h,h2,if_neg h3]
theorem rV_yes {α:Type} {s:RS} {z:α} {N:α × Int × Nat} {v:α} {q:Nat} (h:s.2=0) (h2:N=(v,0,q)):rV s z N=(v,q,0):=by unfold rV;rw [if_pos h,h2];rfl
section
variable (g:Nat) (A:Option Addr) (n c:Nat) (bs:List Int) (s:RS) (w:World) (hr:RfS g A n c bs s w) (hk:RK bs n c) (hp:s.1<=n)
include hr hk hp
theorem rfu_any:Calls prog 112 #[.pointer (some ⟨g,0,none⟩),.int .i64 1,.int .i64 0] w (ybG g A n c bs (.agg (rv 1 (rU bs s).1 0 ⟨#[]⟩ 0)) (rU bs s).2 w):=by
 unfold rU
 by_cases G:s.2=0
 ·rcases numF_two bs s.1 with ⟨v,q,K,h⟩ |h
  ·rw [rV_yes G h];exact rd52_ok v 0 ⟨#[]⟩ q 0 1 0 de g A n c bs s w hr G rfl (fun V H J=>rd1_ok A n c s.1 g 0 bs V H hk.1 J hp hk.2.1 hk.2.2 v q (ydW h))
  ·rw [rV_bad G h de];exact ycO 0 0 ⟨#[]⟩ s.1 3 1 0 de g A n c bs s w hr G de (fun V H J=>rd1_no A n c s.1 g 0 bs V H hk.1 J hp hk.2.1 hk.2.2 (nmF_not (by rw [h];decide)))
 ·rw [rV_er G];exact yep 1 0 de g A n c bs s w hr G
theorem ydq:Calls prog 112 #[.pointer (some ⟨g,0,none⟩),.int .i64 6,.int .i64 0] w (ybG g A n c bs (.agg (rv 6 0 0 (rS bs s).1 0)) (rS bs s).2 w):=by
 have hl:bs.length=n:=hr.2.1;unfold rS
 by_cases G:s.2=0
 ·by_cases h:bs.length < s.1+32
  ·have e:tkF bs 32 s.1=(baNo,3,s.1):=by rw [tkF_eq,if_pos h]
   rw [rV_bad G (by rw [e]) (by decide:(3:Int)≠0)];exact ycO 0 0 ⟨#[]⟩ s.1 3 6 0 de g A n c bs s w hr G de (fun V H J=>rd6_no A n c s.1 g 0 bs V H hk.1 J hp hk.2.1 hk.2.2 om)
  ·have e:tkF bs 32 s.1=(baOf ((bs.drop s.1).take 32),0,s.1+32):=by rw [tkF_eq,if_neg h]
   rw [rV_yes G e];exact rd52_ok 0 0 _ (s.1+32) 0 6 0 de g A n c bs s w hr G rfl (fun V H J=>rd6_ok A n c s.1 g 0 bs V H hk.1 J hp hk.2.1 hk.2.2 om)
 ·rw [rV_er G];exact yep 6 0 de g A n c bs s w hr G
theorem rfc_any (m:Nat) (M:m<=1000000):Calls prog 112 #[.pointer (some ⟨g,0,none⟩),.int .i64 7,.int .i64 m] w (ybG g A n c bs (.agg (rv 7 0 (rC bs m s).1 ⟨#[]⟩ m)) (rC bs m s).2 w):=by
 unfold rC;have L:0<=(m:Int)/\(m:Int)<=1000000:=by omega
 by_cases G:s.2=0
 ·rcases numF_two bs s.1 with ⟨v,q,N,h⟩ |h
  ·obtain ⟨v,rfl⟩:∃v':Nat,v=v':=⟨v.toNat,by omega⟩
   by_cases H:(m:Int) < v
   ·have e:limF m (numF bs 10 0 0 s.1)=(0,2,q):=by rw [h];unfold limF;rw [if_pos rfl,if_pos H]
    rw [rV_bad G (by rw [e]) (by decide:(2:Int)≠0)];exact ycO 0 0 ⟨#[]⟩ s.1 2 7 m de g A n c bs s w hr G de (fun V J K=>rd7_big A n c s.1 g m bs V J hk.1 K hp hk.2.1 hk.2.2 L v q (ydW h) H)
   ·have e:limF m (numF bs 10 0 0 s.1)=((v:Int),0,q):=by rw [h];unfold limF;rw [if_pos rfl,if_neg H]
    rw [rV_yes G e];exact rd52_ok 0 v ⟨#[]⟩ q 0 7 m de g A n c bs s w hr G rfl (fun V J K=>rd7_ok A n c s.1 g m bs V J hk.1 K hp hk.2.1 hk.2.2 L v q (ydW h) om)
  ·have e:(limF m (numF bs 10 0 0 s.1)).2.1=3:=by unfold limF;rw [if_neg (by rw [h];decide)];exact h
   rw [rV_bad G e de];exact ycO 0 0 ⟨#[]⟩ s.1 3 7 m de g A n c bs s w hr G de (fun V J K=>rd7_no A n c s.1 g m bs V J hk.1 K hp hk.2.1 hk.2.2 L (nmF_not (by rw [h];decide)))
 ·rw [rV_er G];exact yep 7 m de g A n c bs s w hr G
theorem rft_any (m:Nat) (O:m<=1000000):Calls prog 112 #[.pointer (some ⟨g,0,none⟩),.int .i64 4,.int .i64 m] w (ybG g A n c bs (.agg (rv 4 0 0 (rT bs m s).1 m)) (rT bs m s).2 w):=by
 have hl:bs.length=n:=hr.2.1;unfold rT;have K:0<=(m:Int)/\(m:Int)<=1000000:=by omega
 by_cases G:s.2=0
 ·rcases numF_two bs s.1 with ⟨v,q,T,h⟩ |h
  ·obtain ⟨v,rfl⟩:∃v':Nat,v=v':=⟨v.toNat,by omega⟩
   have N:q<=n:=by have:=ydj bs 10 0 0 s.1 om;rw [h] at this;dsimp only at this;omega
   by_cases M:(m:Int) < v
   ·have e:blkF bs m s.1=(baNo,2,q):=by rw [blkF_eq,h];unfold limF;simp [M]
    rw [rV_bad G (by rw [e]) (by decide:(2:Int)≠0)];exact ycO 0 0 ⟨#[]⟩ s.1 2 4 m de g A n c bs s w hr G de (fun V H J=>rd4_big A n c s.1 g m bs V H hk.1 J hp hk.2.1 hk.2.2 K v q (ydW h) M)
   ·have L:blkF bs m s.1=tkF bs v q:=by rw [blkF_eq,h];unfold limF;simp [M]
    by_cases hs:bs.length < q+v
    ·have e:blkF bs m s.1=(baNo,3,q):=by rw [L,tkF_eq,if_pos hs]
     rw [rV_bad G (by rw [e]) (by decide:(3:Int)≠0)];exact ycO 0 0 ⟨#[]⟩ s.1 3 4 m de g A n c bs s w hr G de (fun V H J=>rd4_short A n c s.1 g m bs V H hk.1 J hp hk.2.1 hk.2.2 K v q (ydW h) om N om)
    ·have e:blkF bs m s.1=(baOf ((bs.drop q).take v),0,q+v):=by rw [L,tkF_eq,if_neg hs]
     rw [rV_yes G e];exact rd52_ok 0 0 _ (q+v) 0 4 m de g A n c bs s w hr G rfl (fun V H J=>rd4_ok A n c s.1 g m bs V H hk.1 J hp hk.2.1 hk.2.2 K v q (ydW h) om N om)
  ·have e:(blkF bs m s.1).2.1=3:=by
    have L:(limF m (numF bs 10 0 0 s.1)).2.1=3:=by unfold limF;rw [if_neg (by rw [h];decide)];exact h
    rw [blkF_eq,if_neg (by rw [L];decide)];exact L
   rw [rV_bad G e de];exact ycO 0 0 ⟨#[]⟩ s.1 3 4 m de g A n c bs s w hr G de (fun V H J=>rd4_no A n c s.1 g m bs V H hk.1 J hp hk.2.1 hk.2.2 K (nmF_not (by rw [h];decide)))
 ·rw [rV_er G];exact yep 4 m de g A n c bs s w hr G
end
def rI2 (bs:List Int) (s:RS):Int × RS:=(if (1099511627776:Int) < (rU bs s).1 then -1 else (rU bs s).1,(rU bs s).2)
theorem ycn {bs:List Int} {s:RS} {n:Nat} (hl:bs.length=n) (h:s.1<=n):(rI2 bs s).2.1<=n:=rU_le hl h
theorem fld1 (k u n:Int) (s:ByteArray) (m:Int) (w:World):(Instr.field 188 (.agg (rv k u n s m)) 1).run prog w= .ok (.int .u64 u) w:=by kernel_rfl
theorem fld2 (k u n:Int) (s:ByteArray) (m:Int) (w:World):(Instr.field 188 (.agg (rv k u n s m)) 2).run prog w= .ok (.int .i64 n) w:=by kernel_rfl
theorem fld4 (k u n:Int) (s:ByteArray) (m:Int) (w:World):(Instr.field 188 (.agg (rv k u n s m)) 4).run prog w= .ok (.string s) w:=by kernel_rfl
theorem ybW (g:Nat) (A:Option Addr) (n c:Nat) (bs:List Int) (s:RS) (w:World) (hr:RfS g A n c bs s w) (M:RK bs n c) (hp:s.1<=n):
 Calls prog 113 #[.pointer (some ⟨g,0,none⟩)] w (ybG g A n c bs (.int .i64 (rI2 bs s).1) (rI2 bs s).2 w):=by
 have HC:=lh (rfu_any g A n c bs s w hr M hp);have H:=ycX bs s;unfold rI2;obtain ⟨z,L,O⟩:∃z L,rU bs s=(z,L):=⟨_,_,rfl⟩
 rw [O] at HC H ⊢;dsimp only at H ⊢;have T:=fun w=>fld1 1 z 0 ⟨#[]⟩ 0 w;clear hr O M hp
 by_cases N:(1099511627776:Int) < z
 ·rw [if_pos N];go_enter func113,ntmps113;go_wp2_with (go_at_call 112;(with_reducible refine HC.out.mono ?_);rintro e w1 ⟨rfl,r1,G⟩;have J:=lh r1;have K:=lh G;clear r1 G);go_ret;exact ⟨rfl,J.out,K.out⟩
 ·rw [if_neg N];go_enter func113,ntmps113;go_wp2_with (go_at_call 112;(with_reducible refine HC.out.mono ?_);rintro e w1 ⟨rfl,r1,G⟩;have J:=lh r1;have K:=lh G;clear r1 G);go_ret;exact ⟨by first |rfl |exact ycQ (show wrap64 z=z by unfold wrap64;omega),J.out,K.out⟩
def rEnd (bs:List Int) (s:RS):Int:=if s.2=0/\s.1 < bs.length then 3 else s.2
theorem yca {bs:List Int} {s:RS}:rEnd bs s=0↔(s.2=0/\¬s.1 < bs.length):=by
 unfold rEnd
 split
 ·next h=>exact ⟨fun h2=>absurd h2 de,fun h2=>absurd h.2 h2.2⟩
 ·next h=>exact ⟨fun h2=>⟨h2,fun G=>h ⟨h2,G⟩⟩,fun h2=>h2.1⟩
theorem ydf (g:Nat) (A:Option Addr) (n c:Nat) (bs:List Int) (s:RS) (w:World) (hr:RfS g A n c bs s w) (hn:n<=1000000) (hp:s.1<=n):
 Calls prog 114 #[.pointer (some ⟨g,0,none⟩)] w fun e K=>e= .returned (.tuple #[.int .i64 s.1,.int .i64 (rEnd bs s)])/\Below w.heap.size w K:=by
 have hl:bs.length=n:=hr.2.1;obtain ⟨⟨M,G⟩,_⟩:=hr;have c0:w.cell? ⟨g,0,none⟩=some (.slice A n c):=by rw [cell_of_row w _ _ _ _ _ G];rfl
 have c1:w.cell? ⟨g,1,none⟩=some (.int .i64 s.1):=by rw [cell_of_row w _ _ _ _ _ G];rfl
 have c3:w.cell? ⟨g,3,none⟩=some (.int .i64 s.2):=by rw [cell_of_row w _ _ _ _ _ G];rfl
 clear G;unfold rEnd;rw [hl];clear hl;obtain ⟨p,er⟩:=s;dsimp only at hp c1 c3 ⊢
 by_cases H:er=0
 ·subst H
  by_cases hlt:p < n
  ·rw [if_pos ⟨rfl,hlt⟩];have J:(p:Int) < (n:Int):=by omega
   go_enter func114,ntmps114;go_wp2;go_quiet (fail);go_wp2;go_ret2;exact ⟨rfl,below_drewN bR _⟩
  ·rw [if_neg (fun h=>hlt h.2)];have J:¬(p:Int) < (n:Int):=by omega
   go_enter func114,ntmps114;go_wp2;go_quiet (fail);go_wp2;go_quiet (fail);go_wp2;go_ret2;exact ⟨rfl,below_drewN (below_drewN bR _) _⟩
 ·rw [if_neg (fun h=>H h.1)];have L:(er==0)=false:=by simp [H]
  go_enter func114,ntmps114;go_wp2;go_quiet (fail);go_wp2;go_quiet (fail);go_wp2;go_ret2;exact ⟨rfl,below_drewN (below_drewN bR _) _⟩
theorem rS_er {bs:List Int} {s:RS} (h:s.2≠0):rS bs s=(baNo,s):=rV_er h
theorem rSums_er {bs:List Int} {G:RS} {j:Nat} (h:(rSums bs j G).2.2≠0):∀i,(rSums bs (j+i) G).2=(rSums bs j G).2
 |0=>rfl
 |i+1=>by
  have H:=rSums_er h i;show (rS bs (rSums bs (j+i) G).2).2=_;rw [H,rS_er h]
def RfLPost (g:Nat) (A:Option Addr) (n c:Nat) (bs:List Int) (L:List ByteArray × RS) (w:World) (e:Ending) (w':World):Prop:=
 ∃A5 k5 c5 ys,e= .returned (.slice A5 k5 c5)/\Own fT 9 w' w.heap.size (.slice A5 k5 c5) ys/\(L.2.2=0->ys=L.1)/\RfS g A n c bs L.2 w'/\But (fun k=>k=g) w w'
theorem RfS.up {g:Nat} {A:Option Addr} {n c:Nat} {bs:List Int} {s:RS} {w G:World} {B:Nat} (h:RfS g A n c bs s w) (J:Below B w G) (H:g < B):RfS g A n c bs s G:=by
 obtain ⟨⟨K,h1⟩,h2⟩:=h;exact ⟨⟨K,(J.block _ H).trans h1⟩,h2.up J (Nat.le_of_lt H)⟩
theorem rsl_any (g:Nat) (A:Option Addr) (n c:Nat) (bs:List Int) (s:RS) (m:Nat) (hm:m<=1000) (w:World) (hr:RfS g A n c bs s w) (K:RK bs n c) (hp:s.1<=n):
 Calls prog 115 #[.pointer (some ⟨g,0,none⟩),.int .i64 m] w (RfLPost g A n c bs (rL bs m s) w):=by
 have hl:bs.length=n:=hr.2.1;have am:=hr.lt;have HC:=lh (fun W (h:RfS g A n c bs s W)=>rfc_any g A n c bs s W h K hp m om);have O:=rC_le (m:=m) hl hp;have N:=ycL (bs:=bs) (m:=m) (s:=s);unfold rL;obtain ⟨z,G,hz⟩:∃z s',rC bs m s=(z,s'):=⟨_,_,rfl⟩
 rw [hz] at HC O N ⊢;obtain ⟨k,rfl⟩:∃k:Nat,z=k:=⟨z.toNat,by have:=N.1;dsimp only at this;omega⟩
 have aE:k<=1000:=by have h:=N.2;dsimp only at h;omega
 dsimp only;rw [Int.toNat_natCast];have HS:Hid (∀j W,RfS g A n c bs (rSums bs j G).2 W->Calls prog 112 #[.pointer (some ⟨g,0,none⟩),.int .i64 6,.int .i64 0] W (ybG g A n c bs (.agg (rv 6 0 0 (rS bs (rSums bs j G).2).1 0)) (rS bs (rSums bs j G).2).2 W)):=fun j W h=>ydq g A n c bs _ W h K (ydG hl j O);have HGL:=lh am;obtain ⟨Z,M⟩:∃Z:World,Z=w.alloc (.cells #[] 9):=⟨_,rfl⟩
 have Y:Below w.heap.size w Z:=by rw [M];exact bl
 have au:=lh (hr.on Y);have HB1:=lh Y;have ak:Hid (Own fT 9 Z w.heap.size (.slice (some ⟨w.heap.size,0,none⟩) 0 0) []):=by show Own _ _ _ _ _ _;rw [M];exact World.ownsRow_lit w #[] 0 nl ybd rfl
 have HWE:=lh M;obtain ⟨i0,hi,aa,ae,ah⟩:=info_parts Tryz.infoS;have HI:=lh hi;have ax:=lh aa;have ay:=lh ae;have ao:=lh ah;have aC:=fun w=>fld2 7 0 (k:Int) ⟨#[]⟩ (m:Int) w;clear hr K hz hp hl O N hi aa ae ah am hm Y M;go_enter func115,ntmps115;go_upto_region 2 with fail
 rw [<-HWE.out];go_wp2_with (go_at_call 112;(with_reducible refine (HC.out _ au.out).mono ?_);rintro e w2 ⟨rfl,r2,b2⟩;have R2:=lh r2;have ai:But (fun k=>k=g) w w2:=(But.of_below (p:=fun k=>k=g) HB1.out).trans b2 (fun i hi=> .inl hi);have aw:=lh ai;have aq:Hid (Own fT 9 w2 w.heap.size (.slice (some ⟨w.heap.size,0,none⟩) 0 0) []):=ak.out.butG b2 (fun k K e=>by have h1:=(ol ak.out k K).1;have h3:=HGL.out;omega);clear r2 b2 ai)
 go_loopw [5,7] (fun u i wr=>∃(j:Nat),j<=k/\i= .int .i64 j/\Hid (Own fT 9 wr w.heap.size u (rSums bs j G).1)/\Hid (RfS g A n c bs (rSums bs j G).2 wr)/\Hid (But (fun k=>k=g) w wr)) (fun _ i _=>k - (intOf i).toNat)
 case atStart=>exact ⟨0,by omega,rfl,aq,R2,aw⟩
 case round=>
  obtain ⟨j,hj,rfl,L,R,HB⟩:=hrel;obtain ⟨⟨pv,hg⟩,_⟩:=R.out;have c3:wr.cell? ⟨g,3,none⟩=some (.int .i64 (rSums bs j G).2.2):=by rw [cell_of_row wr _ _ _ _ _ hg];rfl
  clear hg;have aI:Hid (w.heap.size<=wr.heap.size):=HB.out.size
  by_cases hlt:j < k
  ·have aH:(j:Int) < (k:Int):=by omega
   by_cases H:(rSums bs j G).2.2=0
   ·have af:=lh (HS.out j wr R.out);have T:Hid (rSums bs (j+1) G=((rSums bs j G).1++[(rS bs (rSums bs j G).2).1],(rS bs (rSums bs j G).2).2)):=rfl;have al:Hid ((rSums bs j G).1.length=j):=ycl bs j G;rw [H] at c3;generalize (rS bs (rSums bs j G).2).1=x at af T;have ap:Hid (((rSums bs j G).1.length+1)*16<=140737488355328):=by show _<=_;rw [al.out];omega
    have ar:Hid ((rSums bs j G).1.length+1<=maxLen):=by show _<=_;rw [al.out];unfold maxLen;omega
    have aF:=fun w=>fld4 6 0 0 x 0 w;clear H aC
    go_wp2_with (first
     |((go_at_call 112;(with_reducible refine af.out.mono ?_);rintro e w3 ⟨rfl,r3,b3⟩);(have R3:=lh r3);(have ac:Hid (But (fun k=>k=g) w w3):=HB.out.trans b3 (fun i hi=> .inl hi));(have ag:Hid (Own fT 9 w3 w.heap.size u5 (rSums bs j G).1):=L.out.butG b3 (fun k K e=>by have h1:=(ol L.out k K).1;have h3:=HGL.out;omega));(have aj:Hid (w.heap.size<=w3.heap.size):=ac.out.size);clear r3 b3 c3)
     |((with_reducible refine ybw (o:=⟨some 30,_,_,_,_,_⟩) rfl (.tmp 25) (.tmp 29) 24 rfl 9 i0 (.string ⟨#[]⟩) 16 underlying24 HI.out ax.out ay.out ao.out rfl _ (rSums bs j G).1 w.heap.size rfl ag.out x 1 rfl fT1 ap.out ar.out aj.out ?_);intro v1 w4 az aA aG))
    have J:Below w.heap.size w3 w4:=ybm aA.out (fun k K=>(ol ag.out k K).1) aj.out;go_roundw;case rel=>exact ⟨j+1,by omega,by go_num,by rw [T.out];exact az,by rw [T.out];exact R3.out.up J HGL.out,ac.out.trans (show But (fun k=>w.heap.size<=k) w3 w4 from ⟨J.os,J.tape,J.output,J.size,fun i hi aD=>J.block i om⟩) (fun i hi=> .inr hi)⟩
    case measure=>simp [intOf];omega
   ·have aJ:((rSums bs j G).2.2==0)=false:=by simp [H]
    have HE:Hid ((rSums bs k G).2=(rSums bs j G).2):=by
     have:=rSums_er H (k - j);rw [show j+(k - j)=k by omega] at this;exact this
    obtain ⟨A5,c5,U,_,_,_⟩:=L.out.shape;have aB:Hid ((rSums bs k G).2.2≠0):=by show _≠_;rw [HE.out];exact H
    rw [U] at L;subst U;clear H;go_wp2;go_ret;exact ⟨A5,_,c5,(rSums bs j G).1,rfl,L.out,fun h=>absurd h aB.out,by rw [HE.out];exact R.out,HB.out⟩
  ·obtain rfl:j=k:=by omega
   obtain ⟨A5,c5,U,_,_,_⟩:=L.out.shape;rw [U] at L;subst U;go_wp2;go_ret;exact ⟨A5,_,c5,(rSums bs j G).1,rfl,L.out,fun _=>rfl,R.out,HB.out⟩
theorem rSums_ok {bs:List Int} {s:RS}:∀ {k:Nat},(rSums bs k s).2.2=0->s.2=0
 |0,h=>h
 |k+1,h=>rSums_ok (k:=k) (rV_ok (show (rV (rSums bs k s).2 baNo (tkF bs 32 (rSums bs k s).2.1)).2.2=0 from h)).1
theorem rL_ok {bs:List Int} {m:Nat} {s:RS} (h:(rL bs m s).2.2=0):s.2=0:=(rV_ok (show (rV s 0 (limF m (numF bs 10 0 0 s.1))).2.2=0 from rSums_ok h)).1
theorem ycE {bs:List Int} {s:RS} (h:(rI2 bs s).2.2=0):s.2=0:=(rV_ok (show (rV s 0 (numF bs 10 0 0 s.1)).2.2=0 from h)).1
theorem rL_len {bs:List Int} {m:Nat} {s:RS} (hm:m<=1000000):(rL bs m s).1.length<=1000000:=by
 unfold rL;rw [ycl];have:=(ycL (bs:=bs) (m:=m) (s:=s)).2;omega
def rIs (bs:List Int):Nat->RS->List Int × RS
 |0,s=>([],s)
 |k+1,s=>((rIs bs k s).1++[(rI2 bs (rIs bs k s).2).1],(rI2 bs (rIs bs k s).2).2)
theorem rIs_len (bs:List Int):∀(k:Nat) (s:RS),(rIs bs k s).1.length=k
 |0,_=>rfl
 |k+1,s=>by rw [rIs,List.length_append,rIs_len bs k s];rfl
theorem rIs_le {bs:List Int} {n:Nat} (hl:bs.length=n):∀(k:Nat) {s:RS},s.1<=n->(rIs bs k s).2.1<=n
 |0,_,h=>h
 |k+1,_,h=>ycn hl (rIs_le hl k h)
theorem rI2_er {bs:List Int} {s:RS} (h:s.2≠0):(rI2 bs s).2=s:=by
 show (rU bs s).2=s;unfold rU;rw [rV_er h]
theorem rIs_er {bs:List Int} {G:RS} {j:Nat} (h:(rIs bs j G).2.2≠0):∀i,(rIs bs (j+i) G).2=(rIs bs j G).2
 |0=>rfl
 |i+1=>by
  have H:=rIs_er h i;show (rI2 bs (rIs bs (j+i) G).2).2=_;rw [H,rI2_er h]
def rm1 (bs:List Int):Int × RS:=rI2 bs (0,0)
def rm2 (bs:List Int):Int × RS:=rC bs 12 (rm1 bs).2
def rm3 (bs:List Int):List Int × RS:=rIs bs (rm2 bs).1.toNat (rm2 bs).2
def okM (bs:List Int):Bool:=decide (rEnd bs (rm3 bs).2=0)&&(numB (rm1 bs).1 1&&(ybt (rm3 bs).1&&decide ((nrm (rm3 bs).1).length=(rm3 bs).1.length)))
def RMPost (bs:List Int) (w:World) (e:Ending) (w':World):Prop:=
 (okM bs=true/\∃A n c,e= .returned (.tuple #[.int .i64 (rm1 bs).1,.slice A n c,.int .i64 0])/\Sl I w' w'.heap.size A n (rm3 bs).1/\Below w.heap.size w w')
 ∨(okM bs=false/\e= .returned (.tuple #[.int .i64 0,.slice none 0 0,.int .i64 3])/\Below w.heap.size w w')
theorem rmt_no (dv sq k dy:Int) (pr:ByteArray) (A:Option Addr) (n c:Nat) (w:World) (H:k≠9):
 Calls prog 62 #[.agg #[.int .i64 dv,.int .i64 sq,.int .i64 k,.int .i64 dy,.slice A n c,.string pr]] w fun e G=>e= .returned (.tuple #[.int .i64 0,.slice none 0 0,.int .i64 1])/\Below w.heap.size w G:=by
 have J:(k != 9)=true:=by simp [H]
 go_enter func62,ntmps62;go_wp2;refine bodyPost_ret (ybI rfl _ _ _) rfl ⟨rfl,bl⟩
theorem rmt_any (dv sq dy:Int) (pr:ByteArray) (A:Option Addr) (n c B:Nat) (bs:List Int) (w:World) (hx:Sl fB w B A n bs) (hB:B<=w.heap.size) (T:RK bs n c):
 Calls prog 62 #[.agg #[.int .i64 dv,.int .i64 sq,.int .i64 9,.int .i64 dy,.slice A n c,.string pr]] w (RMPost bs w):=by
 have hl:bs.length=n:=hx.1;have aB:(0,(0:Int)).1<=n:=Nat.zero_le _;have ax:(rm1 bs).2.1<=n:=ycn hl aB;have au:(rm2 bs).2.1<=n:=rC_le hl ax;have aF:(rm3 bs).2.1<=n:=rIs_le hl _ au;have aD:0<=(rm2 bs).1/\(rm2 bs).1<=(12:Nat):=ycL;obtain ⟨K,Y⟩:∃K:World,K=w.alloc (.cells #[.int .i64 dv,.int .i64 sq,.int .i64 9,.int .i64 dy,.slice A n c,.string pr] 55):=⟨_,rfl⟩
 have a0:Below w.heap.size w K:=by rw [Y];exact bl
 have a9:K.heap.size=w.heap.size+1:=by rw [Y];simp
 have aw:K.heap[w.heap.size]? =some (.cells #[.int .i64 dv,.int .i64 sq,.int .i64 9,.int .i64 dy,.slice A n c,.string pr] 55 (0,0)):=by rw [Y];exact zy w _
 obtain ⟨W2,ag⟩:∃W2:World,W2=K.alloc (.cells #[.slice A n c,.int .i64 0,.int .i64 0,.int .i64 0] 184):=⟨_,rfl⟩
 have aP:Below K.heap.size K W2:=by rw [ag];exact bl
 have ar:Below w.heap.size w W2:=bt a0 aP;obtain ⟨g,aA⟩:∃g,g=K.heap.size:=⟨_,rfl⟩
 have aT:W2.heap[g]? =some (.cells #[.slice A n c,.int .i64 0,.int .i64 0,.int .i64 0] 184 (0,0)):=by rw [ag,aA];exact zy K _
 have aS:RfS g A n c bs (0,0) W2:=⟨⟨0,aT⟩,(hx.up ar hB).more' om⟩;have k4:K.cell? ⟨w.heap.size,4,none⟩=some (.slice A n c):=by rw [cell_of_row K _ _ _ _ _ aw];rfl
 have k2:K.cell? ⟨w.heap.size,2,none⟩=some (.int .i64 9):=by rw [cell_of_row K _ _ _ _ _ aw];rfl
 have HGL:Hid (w.heap.size < g):=by show _ < _;omega
 have aL:=lh aA;have aE:=lh aS;have aq:=lh ar;have HWE:=lh Y;have al:=lh ag;have H1:Hid (∀V,RfS g A n c bs (0,0) V->Calls prog 113 #[.pointer (some ⟨g,0,none⟩)] V (ybG g A n c bs (.int .i64 (rm1 bs).1) (rm1 bs).2 V)):=fun V h=>ybW g A n c bs _ V h T aB;have H2:Hid (∀V,RfS g A n c bs (rm1 bs).2 V->Calls prog 112 #[.pointer (some ⟨g,0,none⟩),.int .i64 7,.int .i64 12] V (ybG g A n c bs (.agg (rv 7 0 (rm2 bs).1 ⟨#[]⟩ 12)) (rm2 bs).2 V)):=fun V h=>rfc_any g A n c bs _ V h T ax 12 de;have L:Hid (∀V,RfS g A n c bs (rm3 bs).2 V->Calls prog 114 #[.pointer (some ⟨g,0,none⟩)] V fun e w'=>e= .returned (.tuple #[.int .i64 (rm3 bs).2.1,.int .i64 (rEnd bs (rm3 bs).2)])/\Below V.heap.size V w'):=fun V h=>ydf g A n c bs _ V h T.2.1 aF;have H3:Hid (∀j V,RfS g A n c bs (rIs bs j (rm2 bs).2).2 V->Calls prog 113 #[.pointer (some ⟨g,0,none⟩)] V (ybG g A n c bs (.int .i64 (rI2 bs (rIs bs j (rm2 bs).2).2).1) (rI2 bs (rIs bs j (rm2 bs).2).2).2 V)):=fun j V h=>ybW g A n c bs _ V h T (rIs_le hl j au);have J:Hid (okM bs=(decide (rEnd bs (rm3 bs).2=0)&&(numB (rm1 bs).1 1&&(ybt (rm3 bs).1&&decide ((nrm (rm3 bs).1).length=(rm3 bs).1.length))))):=rfl;have am:Hid (rEnd bs (rm3 bs).2=0->(rm3 bs).2.2=0):=fun h=>(yca.1 h).1;have ak:Hid (rm3 bs=rIs bs (rm2 bs).1.toNat (rm2 bs).2):=rfl;unfold RMPost;generalize rm3 bs=R3 at*;generalize rm1 bs=R1 at*;generalize rm2 bs=R2 at*;obtain ⟨z1,s1⟩:=R1;obtain ⟨k,H⟩:=R2;obtain ⟨vs,s3⟩:=R3;dsimp only at H1 H2 H3 L J am ak aD ⊢;obtain ⟨k,rfl⟩:∃k':Nat,k=k':=⟨k.toNat,by omega⟩
 have bj:k<=12:=by omega
 rw [Int.toNat_natCast] at ak;obtain ⟨er,aU⟩:=gX (rEnd bs s3);rw [aU] at L J am;have a4:=fun V=>fld2 7 0 (k:Int) ⟨#[]⟩ 12 V;obtain ⟨i0,hi,aJ,aX,aR⟩:=info_parts Tryz.info3;have HI:=lh hi;have bh:=lh aJ;have bi:=lh aX;have a3:=lh aR;clear aD aU hx hB hl T aB ax au aF a0 a9 aw Y ag aP ar aA aT aS hi aJ aX aR;go_enter func62,ntmps62;go_upto_region 3 with fail
 rw [<-HWE.out];go_upto_region 4 with fail
 rw [<-al.out,<-aL.out];clear k4 k2
 go_upto_region 6 with (first
  |(go_at_call 113;(with_reducible refine (H1.out _ aE.out).mono ?_);rintro e V3 ⟨rfl,r,G⟩;(have R3:=lh r);(have B3:=lh G);clear r G)
  |(go_at_call 112;(with_reducible refine (H2.out _ R3.out).mono ?_);rintro e N ⟨rfl,r,G⟩;(have R4:=lh r);(have B4:=lh (B3.out.trans G (fun i hi=> .inl hi)));clear r G))
 obtain ⟨V5,ac⟩:∃V5:World,V5=N.alloc (.cells #[] 3):=⟨_,rfl⟩
 have aj:Below N.heap.size N V5:=by rw [ac];exact bl
 have aH:Hid (Own I 3 V5 N.heap.size (.slice (some ⟨N.heap.size,0,none⟩) 0 0) []):=by show Own _ _ _ _ _ _;rw [ac];exact World.ownsRow_lit N #[] 0 nl ybd rfl
 have R5:=lh (R4.out.on aj);have af:Hid (g < N.heap.size):=R4.out.lt
 have bg:Hid (Below w.heap.size w V5):=by
  have h1:Below w.heap.size w N:=aq.out.trans (B4.out.below aq.out.size (fun i hi=>by subst hi;exact Nat.le_of_lt HGL.out));exact bt h1 aj
 have aW:Hid (w.heap.size<=N.heap.size):=Nat.le_of_lt (Nat.lt_trans HGL.out af.out);have bf:=lh ac;have HS5:Hid (N.heap.size<=V5.heap.size):=aj.size;obtain ⟨W,ao⟩:∃W,W=N.heap.size:=⟨_,rfl⟩
 have a6:=lh ao;rw [<-ao] at aH af aW HS5;clear ac aj ao R3 R4 B3 B4 H1 H2 aE aq HWE al aL a4;go_upto_region 7 with fail
 rw [<-bf.out,<-a6.out];go_wp2_with fail
 go_loopw [8,9] (fun u i wr=>∃(j:Nat),j<=k/\i= .int .i64 j/\Hid (Own I 3 wr W u (rIs bs j H).1)/\Hid (RfS g A n c bs (rIs bs j H).2 wr)/\Hid (Below w.heap.size w wr)/\Hid (W<=wr.heap.size)) (fun _ i _=>k - (intOf i).toNat)
 case atStart=>exact ⟨0,by omega,rfl,aH,R5,bg,HS5⟩
 case round=>
  obtain ⟨j,hj,rfl,M,R,HB,be⟩:=hrel;obtain ⟨⟨pv,hg⟩,_⟩:=R.out;have c3:wr.cell? ⟨g,3,none⟩=some (.int .i64 (rIs bs j H).2.2):=by rw [cell_of_row wr _ _ _ _ _ hg];rfl
  clear hg
  by_cases hlt:j < k
  ·have bk:(j:Int) < (k:Int):=by omega
   by_cases O:(rIs bs j H).2.2=0
   ·have aK:=lh (H3.out j wr R.out);have az:Hid (rIs bs (j+1) H=((rIs bs j H).1++[(rI2 bs (rIs bs j H).2).1],(rI2 bs (rIs bs j H).2).2)):=rfl;have aI:Hid ((rIs bs j H).1.length=j):=rIs_len bs j H;rw [O] at c3;generalize (rI2 bs (rIs bs j H).2).1=x at aK az;have a2:Hid (((rIs bs j H).1.length+1)*8<=140737488355328):=by show _<=_;rw [aI.out];omega
    have a8:Hid ((rIs bs j H).1.length+1<=maxLen):=by show _<=_;rw [aI.out];unfold maxLen;omega
    clear O
    go_wp2_with (first
     |(go_at_call 113;(with_reducible refine aK.out.mono ?_);rintro e w3 ⟨rfl,r3,b3⟩;(have R3:=lh r3);(have a7:Hid (Below w.heap.size w w3):=HB.out.trans (b3.below HB.out.size (fun i hi=>by subst hi;exact Nat.le_of_lt HGL.out)));(have aZ:Hid (Own I 3 w3 W u8 (rIs bs j H).1):=M.out.butG b3 (fun k T e=>by have h1:=(ol M.out k T).1;have h3:=af.out;omega));(have ap:Hid (W<=w3.heap.size):=lT be.out b3.size);clear r3 b3 c3)
     |((with_reducible refine ybw (o:=⟨some 41,_,_,_,_,_⟩) rfl (.tmp 37) (.tmp 40) 27 rfl 3 i0 (.int .i64 0) 8 underlying27 HI.out bh.out bi.out a3.out rfl _ (rIs bs j H).1 W rfl aZ.out x 1 rfl I1 a2.out a8.out ap.out ?_);intro v1 w4 a5 HG5 bo))
    have aC:Below W w3 w4:=ybm HG5.out (fun k T=>(ol aZ.out k T).1) ap.out;go_roundw;case rel=>exact ⟨j+1,by omega,by go_num,by rw [az.out];exact a5,by rw [az.out];exact R3.out.up aC af.out,a7.out.trans (aC.mono aW.out),Nat.le_trans ap.out aC.size⟩
    case measure=>simp [intOf];omega
   ·have bm:((rIs bs j H).2.2==0)=false:=by simp [O]
    have HE:Hid (s3=(rIs bs j H).2):=by
     have:=rIs_er O (k - j);rw [show j+(k - j)=k by omega] at this;show _=_;rw [<-this,<-ak.out]
    have aa:er≠0:=fun h=>O (by have:=am.out h;rw [HE.out] at this;exact this);have aM:(er != 0)=true:=by simp [aa]
    have RE:Hid (RfS g A n c bs s3 wr):=by rw [HE.out];exact R
    clear O;go_wp2_with (go_at_call 114;(with_reducible refine (L.out _ RE.out).mono ?_);rintro e VE ⟨rfl,G⟩;(have U:=lh (bt HB.out G));(have Z:=lh (M.out.on G));clear G c3);refine bodyPost_ret (ybI rfl _ _ _) rfl (.inr ⟨by rw [J.out];simp_all,rfl,U.out⟩)
  ·obtain rfl:j=k:=by omega
   have hv:rIs bs j H=(vs,s3):=ak.out.symm;rw [hv] at M R c3;dsimp only at M R c3;obtain ⟨A5,z,hu,aV,_,_⟩:=M.out.shape;have RE:=R;rw [hu] at M;subst hu
   have a1:Hid (vs.length<=1000000):=by
    have h1:=rIs_len bs j H;rw [hv] at h1;show _<=_;dsimp only at h1;omega
   have aO:Hid (vs.length<=4611686018427387904):=lT a1.out de;clear hv
   by_cases aa:er=0
   ·have aM:(er != 0)=false:=by simp [aa]
    have ai:=lh (fun V=>ydF z1 1 V);obtain ⟨nb,aN⟩:=gX (numB z1 1);rw [aN] at ai J;clear aN
    cases nb with
    |false=>
     go_wp2_with (first |(go_at_call 114;(with_reducible refine (L.out _ RE.out).mono ?_);rintro e VE ⟨rfl,G⟩;(have U:=lh (bt HB.out G));(have Z:=lh (M.out.on G));clear G c3) |(go_at_call 44;(with_reducible refine (ai.out _).mono ?_);rintro e VN ⟨rfl,rfl⟩))
     refine bodyPost_ret (ybI rfl _ _ _) rfl (.inr ⟨by rw [J.out];simp_all,rfl,U.out⟩)
    |true=>
     obtain ⟨vb,ay⟩:=gX (ybt vs);have aY:=lh ay;rw [ay] at J;clear ay
     cases vb with
     |false=>
      go_wp2_with (first |(go_at_call 114;(with_reducible refine (L.out _ RE.out).mono ?_);rintro e VE ⟨rfl,G⟩;(have U:=lh (bt HB.out G));(have Z:=lh (M.out.on G));clear G c3;(have ah:=lh Z.out.slH);(have aQ:Hid (vs.length<=z):=aV)) |(go_at_call 44;(with_reducible refine (ai.out _).mono ?_);rintro e VN ⟨rfl,rfl⟩) |(go_at_call 120;(refine (rvalid_any A5 vs z _ _ ah.out.2 aO.out).mono ?_);rintro e VV ⟨rfl,rfl⟩;(rw [aY.out])))
      refine bodyPost_ret (ybI rfl _ _ _) rfl (.inr ⟨by rw [J.out];simp_all,rfl,U.out⟩)
     |true=>
      go_wp2_with (first |(go_at_call 114;(with_reducible refine (L.out _ RE.out).mono ?_);rintro e VE ⟨rfl,G⟩;(have U:=lh (bt HB.out G));(have Z:=lh (M.out.on G));clear G c3;(have ah:=lh Z.out.slH);(have aQ:Hid (vs.length<=z):=aV)) |(go_at_call 44;(with_reducible refine (ai.out _).mono ?_);rintro e VN ⟨rfl,rfl⟩) |(go_at_call 120;(refine (rvalid_any A5 vs z _ _ ah.out.2 aO.out).mono ?_);rintro e VV ⟨rfl,rfl⟩;(rw [aY.out])) |(go_at_call 121;(with_reducible refine (rnormal_any A5 vs.length vs z _ _ ah.out nl a1.out aQ.out).mono ?_);rintro e VF ⟨A6,n6,c6,rfl,_,aG,G⟩;(have ae:Hid ((nrm vs).length=n6):=aG.1);(have BF:=lh (bt U.out G));(have OF:=lh (Z.out.on G));clear aG G))
      all_goals first
       |(refine bodyPost_ret (ybI rfl _ _ _) rfl (.inl ⟨?_,A5,vs.length,z,rfl,OF.out.slH,BF.out⟩);rw [J.out,ae.out];simp_all;done)
       |(refine bodyPost_ret (ybI rfl _ _ _) rfl (.inr ⟨?_,rfl,BF.out⟩);rw [J.out,ae.out];simp_all;done)
       |(refine bodyPost_ret (ybI rfl _ _ _) rfl (.inl ⟨?_,A5,vs.length,z,rfl,OF.out.slH,BF.out⟩);rw [J.out,ae.out];simp_all;omega)
       |(refine bodyPost_ret (ybI rfl _ _ _) rfl (.inr ⟨?_,rfl,BF.out⟩);rw [J.out,ae.out];simp_all;omega)
   ·have aM:(er != 0)=true:=by simp [aa]
    go_wp2_with (go_at_call 114;(with_reducible refine (L.out _ RE.out).mono ?_);rintro e VE ⟨rfl,G⟩;(have U:=lh (bt HB.out G));(have Z:=lh (M.out.on G));clear G c3)
    refine bodyPost_ret (ybI rfl _ _ _) rfl (.inr ⟨by rw [J.out];simp_all,rfl,U.out⟩)
