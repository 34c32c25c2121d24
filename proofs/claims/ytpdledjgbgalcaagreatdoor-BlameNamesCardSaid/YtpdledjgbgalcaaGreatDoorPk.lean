import Derived.Test.YtpdledjgbgalcaaGreatDoorPo
namespace Go.Proofs.YtpdledjgbgalcaaGreatDoor
set_option maxRecDepth 100000
set_option maxHeartbeats 16000000
open Go.RowKit Go.Lib Go.Proofs.Tryz
set_option linter.unusedVariables false
set_option linter.unusedSimpArgs false
abbrev cPi (s:ByteArray) (ix:Int) (A:Option Addr) (n c:Nat) (A':Option Addr) (m c':Nat):Array Value:=#[.string s,.int .i64 ix,.slice A n c,.slice A' m c']
def aqB (R:Rcp) (s:ByteArray) (ix:Int) (xs:List Int) (ys:List ByteArray):Bool:=decide (s=R.s)&&(decide (ix=R.ix)&&(decide ((xs.length:Int)=R.sz)&&vrB s ix xs ys))
theorem acquits_any (d q:Int) (R:Rcp) (st:ByteArray) (tx:Int) (no an:ByteArray) (s:ByteArray) (ix:Int) (A H:Option Addr) (n c m G B:Nat) (xs:List Int) (ys:List ByteArray) (w:World) (hG:Glob w) (hc:n<=c) (Z:m<=G) (W:Sl fB w B A n xs) (hy:Sl fT w B H m ys) (Y:B<=w.heap.size) (hn:n<=1000000) (hm:m<=1000000) (N:Byt xs):
 Calls prog 15 #[.agg (cA d q R st tx no an),.agg (cPi s ix A n c H m G)] w fun e T=>e= .returned (.bool (aqB R s ix xs ys))/\Below w.heap.size w T:=by
 have HF:Hid (aqB R s ix xs ys=(decide (s=R.s)&&(decide (ix=R.ix)&&(decide ((xs.length:Int)=R.sz)&&vrB s ix xs ys)))):=rfl;have L:xs.length=n:=W.1;have J:Below w.heap.size w ((w.alloc (.cells (cA d q R st tx no an) 39)).alloc (.cells (cPi s ix A n c H m G) 42)):=bl.alloc sI _;have HV:Hid (∀V,Below w.heap.size w V->Calls prog 48 #[.agg (cPi s ix A n c H m G)] V fun e T=>e= .returned (.bool (vrB s ix xs ys))/\Below V.heap.size V T):=fun V K=>sverify_any s ix A H n c m G B xs ys V (hG.on K) hc Z (W.up K Y) (hy.up K Y) (lT Y K.size) hn hm N;have HB1:=lh J;have HC:=lh (HV.out _ J);rw [L] at HF;obtain ⟨vb,M⟩:=gX (vrB s ix xs ys);rw [M] at HC HF;clear HV W hy N L M J hG;obtain ⟨hd,vt,rst,rix,sz,dy,sr,ct,pl,rt,pa,si,pb,pc⟩:=R;dsimp only at HF HC HB1 ⊢
 by_cases h1:s=rst
 ·subst h1;rw [decide_eq_true rfl,Bool.true_and] at HF
  by_cases h2:ix=rix
  ·subst h2;rw [decide_eq_true rfl,Bool.true_and] at HF
   by_cases U:(n:Int)=sz
   ·subst U;rw [decide_eq_true rfl,Bool.true_and] at HF;go_enter func15,ntmps15;go_wp2_with (go_at_call 48;(with_reducible refine HC.out.mono ?_);rintro e w1 ⟨rfl,O⟩;(have aa:=lh O);clear O);go_ret;exact ⟨by rw [HF.out];rfl,HB1.out.trans (aa.out.mono ybh)⟩
   ·rw [decide_eq_false U,Bool.false_and] at HF;have ae:((n:Int)==sz)=false:=by simp [U]
    go_enter func15,ntmps15;go_wp2;go_ret;exact ⟨by rw [HF.out];rfl,HB1.out⟩
  ·rw [decide_eq_false h2,Bool.false_and] at HF;have af:(ix==rix)=false:=by simp [h2]
   go_enter func15,ntmps15;go_wp2;go_ret;exact ⟨by rw [HF.out];rfl,HB1.out⟩
 ·rw [decide_eq_false h1,Bool.false_and] at HF;have z:¬s.toList=rst.toList:=fun h=>h1 (by have:=beqD s rst;rw [decide_eq_false h1] at this;simp [h] at this);have ag:(s.toList==rst.toList)=false:=by rw [<-beqD,decide_eq_false h1]
  have ac:decide (s.toList=rst.toList)=false:=by simp [z]
  go_enter func15,ntmps15;go_wp2;go_ret;exact ⟨by rw [HF.out];rfl,HB1.out⟩
theorem racquits_any (d q:Int) (R:Rcp) (st:ByteArray) (L:Int) (no an:ByteArray) (s:ByteArray) (ix:Int) (A J:Option Addr) (n c m H B:Nat) (xs:List Int) (ys:List ByteArray) (w:World) (hc:n<=c) (ac:m<=H) (hx:Sl fB w B A n xs) (hy:Sl fT w B J m ys) (hB:B<=w.heap.size) (hn:n<=1000000) (hm:m<=1000000) (z:Byt xs):
 Calls prog 16 #[.agg (cA d q R st L no an),.agg (cPi s ix A n c J m H)] w fun e w'=>e= .returned (.bool (aqB R s ix xs ys))/\Below w.heap.size w w':=by
 have HF:Hid (aqB R s ix xs ys=(decide (s=R.s)&&(decide (ix=R.ix)&&(decide ((xs.length:Int)=R.sz)&&vrB s ix xs ys)))):=rfl;have W:xs.length=n:=hx.1;have U:Below w.heap.size w ((w.alloc (.cells (cA d q R st L no an) 50)).alloc (.cells (cPi s ix A n c J m H) 42)):=bl.alloc sI _;have HV:Hid (∀V,Below w.heap.size w V->Calls prog 49 #[.agg (cPi s ix A n c J m H)] V fun e w'=>e= .returned (.bool (vrB s ix xs ys))/\Below V.heap.size V w'):=fun V O=>gverify_any s ix A J n c m H B xs ys V hc ac (hx.up O hB) (hy.up O hB) (lT hB O.size) hn hm z;have HB1:=lh U;have HC:=lh (HV.out _ U);rw [W] at HF;obtain ⟨vb,Z⟩:=gX (vrB s ix xs ys);rw [Z] at HC HF;clear HV hx hy z W Z U;obtain ⟨hd,vt,rst,rix,sz,dy,sr,ct,pl,rt,pa,si,pb,pc⟩:=R;dsimp only at HF HC HB1 ⊢;have T:(((w.alloc (.cells (cA d q ⟨hd,vt,rst,rix,sz,dy,sr,ct,pl,rt,pa,si,pb,pc⟩ st L no an) 50)).alloc (.cells (cPi s ix A n c J m H) 42))).heap.size=w.heap.size+2:=by simp
 have Y:(((w.alloc (.cells (cA d q ⟨hd,vt,rst,rix,sz,dy,sr,ct,pl,rt,pa,si,pb,pc⟩ st L no an) 50)).alloc (.cells (cPi s ix A n c J m H) 42))).heap[w.heap.size]? =some (.cells (cA d q ⟨hd,vt,rst,rix,sz,dy,sr,ct,pl,rt,pa,si,pb,pc⟩ st L no an) 50 (0,0)):=(zx _ _ _ sI).trans (zy w _)
 have aa:(((w.alloc (.cells (cA d q ⟨hd,vt,rst,rix,sz,dy,sr,ct,pl,rt,pa,si,pb,pc⟩ st L no an) 50)).alloc (.cells (cPi s ix A n c J m H) 42))).heap[w.heap.size+1]? =some (.cells (cPi s ix A n c J m H) 42 (0,0)):=by
  have:=zy (w.alloc (.cells (cA d q ⟨hd,vt,rst,rix,sz,dy,sr,ct,pl,rt,pa,si,pb,pc⟩ st L no an) 50)) (.cells (cPi s ix A n c J m H) 42);simpa using this
 have N:Hid (∀V,Below (((w.alloc (.cells (cA d q ⟨hd,vt,rst,rix,sz,dy,sr,ct,pl,rt,pa,si,pb,pc⟩ st L no an) 50)).alloc (.cells (cPi s ix A n c J m H) 42))).heap.size (((w.alloc (.cells (cA d q ⟨hd,vt,rst,rix,sz,dy,sr,ct,pl,rt,pa,si,pb,pc⟩ st L no an) 50)).alloc (.cells (cPi s ix A n c J m H) 42))) V->V.heap[w.heap.size]? =some (.cells (cA d q ⟨hd,vt,rst,rix,sz,dy,sr,ct,pl,rt,pa,si,pb,pc⟩ st L no an) 50 (0,0))):=fun V O=>(O.block _ (by rw [T];omega)).trans Y;have M:Hid (∀V,Below (((w.alloc (.cells (cA d q ⟨hd,vt,rst,rix,sz,dy,sr,ct,pl,rt,pa,si,pb,pc⟩ st L no an) 50)).alloc (.cells (cPi s ix A n c J m H) 42))).heap.size (((w.alloc (.cells (cA d q ⟨hd,vt,rst,rix,sz,dy,sr,ct,pl,rt,pa,si,pb,pc⟩ st L no an) 50)).alloc (.cells (cPi s ix A n c J m H) 42))) V->V.heap[w.heap.size+1]? =some (.cells (cPi s ix A n c J m H) 42 (0,0))):=fun V O=>(O.block _ (by rw [T];omega)).trans aa;clear T Y aa
 cases vb with
 |false=>
  have af:Hid (aqB ⟨hd,vt,rst,rix,sz,dy,sr,ct,pl,rt,pa,si,pb,pc⟩ s ix xs ys=false):=by show _=_;rw [HF.out];simp
  go_enter func16,ntmps16;go_wp2_with (go_at_call 49;(with_reducible refine HC.out.mono ?_);rintro e w1 ⟨rfl,G⟩;(have K:=lh G);(have g1:=N.out w1 G);(have g2:=M.out w1 G);(have k4:w1.cell? ⟨w.heap.size,4,none⟩=some (.string rst):=by rw [cell_of_row w1 _ _ _ _ _ g1];rfl);(have k5:w1.cell? ⟨w.heap.size,5,none⟩=some (.int .i64 rix):=by rw [cell_of_row w1 _ _ _ _ _ g1];rfl);(have k6:w1.cell? ⟨w.heap.size,6,none⟩=some (.int .i64 sz):=by rw [cell_of_row w1 _ _ _ _ _ g1];rfl);(have p0:w1.cell? ⟨w.heap.size+1,0,none⟩=some (.string s):=by rw [cell_of_row w1 _ _ _ _ _ g2];rfl);(have p1:w1.cell? ⟨w.heap.size+1,1,none⟩=some (.int .i64 ix):=by rw [cell_of_row w1 _ _ _ _ _ g2];rfl);(have p2:w1.cell? ⟨w.heap.size+1,2,none⟩=some (.slice A n c):=by rw [cell_of_row w1 _ _ _ _ _ g2];rfl);clear G g1 g2);go_ret;exact ⟨by rw [af.out];rfl,HB1.out.trans (K.out.mono ybh)⟩
 |true=>
  by_cases h1:s=rst
  ·subst h1;rw [decide_eq_true rfl,Bool.true_and] at HF
   by_cases h2:ix=rix
   ·subst h2;rw [decide_eq_true rfl,Bool.true_and,Bool.and_true] at HF
    by_cases h3:(n:Int)=sz
    ·subst h3;rw [decide_eq_true rfl] at HF;go_enter func16,ntmps16;go_wp2_with (go_at_call 49;(with_reducible refine HC.out.mono ?_);rintro e w1 ⟨rfl,G⟩;(have K:=lh G);(have g1:=N.out w1 G);(have g2:=M.out w1 G);(have k4:w1.cell? ⟨w.heap.size,4,none⟩=some (.string s):=by rw [cell_of_row w1 _ _ _ _ _ g1];rfl);(have k5:w1.cell? ⟨w.heap.size,5,none⟩=some (.int .i64 ix):=by rw [cell_of_row w1 _ _ _ _ _ g1];rfl);(have k6:w1.cell? ⟨w.heap.size,6,none⟩=some (.int .i64 (n:Int)):=by rw [cell_of_row w1 _ _ _ _ _ g1];rfl);(have p0:w1.cell? ⟨w.heap.size+1,0,none⟩=some (.string s):=by rw [cell_of_row w1 _ _ _ _ _ g2];rfl);(have p1:w1.cell? ⟨w.heap.size+1,1,none⟩=some (.int .i64 ix):=by rw [cell_of_row w1 _ _ _ _ _ g2];rfl);(have p2:w1.cell? ⟨w.heap.size+1,2,none⟩=some (.slice A n c):=by rw [cell_of_row w1 _ _ _ _ _ g2];rfl);clear G g1 g2);go_ret;exact ⟨by rw [HF.out];rfl,HB1.out.trans (K.out.mono ybh)⟩
    ·rw [decide_eq_false h3] at HF;have ah:((n:Int)==sz)=false:=by simp [h3]
     go_enter func16,ntmps16;go_wp2_with (go_at_call 49;(with_reducible refine HC.out.mono ?_);rintro e w1 ⟨rfl,G⟩;(have K:=lh G);(have g1:=N.out w1 G);(have g2:=M.out w1 G);(have k4:w1.cell? ⟨w.heap.size,4,none⟩=some (.string s):=by rw [cell_of_row w1 _ _ _ _ _ g1];rfl);(have k5:w1.cell? ⟨w.heap.size,5,none⟩=some (.int .i64 ix):=by rw [cell_of_row w1 _ _ _ _ _ g1];rfl);(have k6:w1.cell? ⟨w.heap.size,6,none⟩=some (.int .i64 sz):=by rw [cell_of_row w1 _ _ _ _ _ g1];rfl);(have p0:w1.cell? ⟨w.heap.size+1,0,none⟩=some (.string s):=by rw [cell_of_row w1 _ _ _ _ _ g2];rfl);(have p1:w1.cell? ⟨w.heap.size+1,1,none⟩=some (.int .i64 ix):=by rw [cell_of_row w1 _ _ _ _ _ g2];rfl);(have p2:w1.cell? ⟨w.heap.size+1,2,none⟩=some (.slice A n c):=by rw [cell_of_row w1 _ _ _ _ _ g2];rfl);clear G g1 g2);go_ret;exact ⟨by rw [HF.out];rfl,HB1.out.trans (K.out.mono ybh)⟩
   ·rw [decide_eq_false h2,Bool.false_and] at HF;have ai:(ix==rix)=false:=by simp [h2]
    go_enter func16,ntmps16;go_wp2_with (go_at_call 49;(with_reducible refine HC.out.mono ?_);rintro e w1 ⟨rfl,G⟩;(have K:=lh G);(have g1:=N.out w1 G);(have g2:=M.out w1 G);(have k4:w1.cell? ⟨w.heap.size,4,none⟩=some (.string s):=by rw [cell_of_row w1 _ _ _ _ _ g1];rfl);(have k5:w1.cell? ⟨w.heap.size,5,none⟩=some (.int .i64 rix):=by rw [cell_of_row w1 _ _ _ _ _ g1];rfl);(have k6:w1.cell? ⟨w.heap.size,6,none⟩=some (.int .i64 sz):=by rw [cell_of_row w1 _ _ _ _ _ g1];rfl);(have p0:w1.cell? ⟨w.heap.size+1,0,none⟩=some (.string s):=by rw [cell_of_row w1 _ _ _ _ _ g2];rfl);(have p1:w1.cell? ⟨w.heap.size+1,1,none⟩=some (.int .i64 ix):=by rw [cell_of_row w1 _ _ _ _ _ g2];rfl);(have p2:w1.cell? ⟨w.heap.size+1,2,none⟩=some (.slice A n c):=by rw [cell_of_row w1 _ _ _ _ _ g2];rfl);clear G g1 g2);go_ret;exact ⟨by rw [HF.out];rfl,HB1.out.trans (K.out.mono ybh)⟩
  ·rw [decide_eq_false h1,Bool.false_and] at HF;have ae:¬s.toList=rst.toList:=fun h=>h1 (by have:=beqD s rst;rw [decide_eq_false h1] at this;simp [h] at this);have aj:(s.toList==rst.toList)=false:=by rw [<-beqD,decide_eq_false h1]
   have ag:decide (s.toList=rst.toList)=false:=by simp [ae]
   go_enter func16,ntmps16;go_wp2_with (go_at_call 49;(with_reducible refine HC.out.mono ?_);rintro e w1 ⟨rfl,G⟩;(have K:=lh G);(have g1:=N.out w1 G);(have g2:=M.out w1 G);(have k4:w1.cell? ⟨w.heap.size,4,none⟩=some (.string rst):=by rw [cell_of_row w1 _ _ _ _ _ g1];rfl);(have k5:w1.cell? ⟨w.heap.size,5,none⟩=some (.int .i64 rix):=by rw [cell_of_row w1 _ _ _ _ _ g1];rfl);(have k6:w1.cell? ⟨w.heap.size,6,none⟩=some (.int .i64 sz):=by rw [cell_of_row w1 _ _ _ _ _ g1];rfl);(have p0:w1.cell? ⟨w.heap.size+1,0,none⟩=some (.string s):=by rw [cell_of_row w1 _ _ _ _ _ g2];rfl);(have p1:w1.cell? ⟨w.heap.size+1,1,none⟩=some (.int .i64 ix):=by rw [cell_of_row w1 _ _ _ _ _ g2];rfl);(have p2:w1.cell? ⟨w.heap.size+1,2,none⟩=some (.slice A n c):=by rw [cell_of_row w1 _ _ _ _ _ g2];rfl);clear G g1 g2);go_ret;exact ⟨by rw [HF.out];rfl,HB1.out.trans (K.out.mono ybh)⟩
theorem indexJ_any (A:Option Addr) (n c B:Nat) (xs:List Int) (h:Int) (w:World) (K:Sl I w B A n xs) (hl:n<=9223372036854775807):
 Calls prog 86 #[.slice A n c,.int .i64 h] w fun e U=>∃z:Int,e= .returned (.int .i64 z)/\(decide (0<=z)=xs.contains h)/\w=U:=by
 have W:=lh K;have HXN:Hid (xs.length=n):=K.1;clear K;go_enter func86,ntmps86;go_wp2
 go_loopw [8] (fun i wr=>IdxP h xs w i wr) (fun i _=>n - (intOf i).toNat)
 case atStart=>exact ⟨0,by omega,rfl,by show h∉xs.take 0;simp,rfl⟩
 case round=>
  obtain ⟨k,O,rfl,N,rfl⟩:=hrel;rw [HXN.out] at O
  by_cases hlt:k < n
  ·obtain ⟨b,Y,x,rfl,_,G,J⟩:=W.out.2.at_ (k:=k) yba;have Z:(k:Int) < (n:Int):=by omega
   by_cases H:h=x
   ·subst H
    have M:Hid (xs.contains h=true):=by
     show _=_;simp only [List.contains_iff_mem];exact List.mem_of_getElem? G
    clear G;go_wp2;go_ret;exact ⟨_,rfl,by rw [M.out];simp,rfl⟩
   ·have T:=lh G;have L:=lh H;clear G;go_wp2;refine ⟨?rel,?measure⟩;case rel=>exact ⟨k+1,by rw [HXN.out];omega,by go_num,ydb T.out N.out L.out,rfl⟩
    case measure=>simp [intOf];omega
  ·obtain rfl:k=n:=by omega
   go_wp2;go_ret;refine ⟨-1,rfl,?_,rfl⟩;have h1:=N.out;rw [List.take_of_length_le ya4] at h1
   have h2:xs.contains h=false:=by
    cases J:xs.contains h
    ·rfl
    ·rw [List.contains_iff_mem] at J;exact absurd J h1
   rw [h2];rfl
theorem containsJ_any (A:Option Addr) (n c B:Nat) (xs:List Int) (h:Int) (w:World) (G:Sl I w B A n xs) (hl:n<=9223372036854775807):
 Calls prog 41 #[.slice A n c,.int .i64 h] w fun e J=>e= .returned (.bool (xs.contains h))/\w=J:=by
 have HC:=lh (indexJ_any A n c B xs h w G hl);clear G;go_enter func41,ntmps41
 go_wp2_with (first
  |(go_at_call 86;(with_reducible refine HC.out.mono ?_);rintro e w1 ⟨z,rfl,H,rfl⟩;(have K:=lh H);clear H))
 go_ret;exact ⟨ybo K.out,rfl⟩
theorem inJ_any (A:Option Addr) (n c B:Nat) (xs:List Int) (h:Int) (w:World) (K:Sl I w B A n xs) (hl:n<=9223372036854775807):
 Calls prog 20 #[.slice A n c,.int .i64 h] w fun e U=>e= .returned (.bool (xs.contains h))/\w=U:=by
 have W:=lh K;have HXN:Hid (xs.length=n):=K.1;clear K;go_enter func20,ntmps20;go_wp2
 go_loopw [5] (fun i wr=>IdxP h xs w i wr) (fun i _=>n - (intOf i).toNat)
 case atStart=>exact ⟨0,by omega,rfl,by show h∉xs.take 0;simp,rfl⟩
 case round=>
  obtain ⟨k,O,rfl,N,rfl⟩:=hrel;rw [HXN.out] at O
  by_cases hlt:k < n
  ·obtain ⟨b,Y,x,rfl,_,G,J⟩:=W.out.2.at_ (k:=k) yba;have Z:(k:Int) < (n:Int):=by omega
   by_cases H:x=h
   ·subst H
    have M:Hid (xs.contains x=true):=by
     show _=_;simp only [List.contains_iff_mem];exact List.mem_of_getElem? G
    clear G;go_wp2;go_ret;exact ⟨by rw [M.out];rfl,rfl⟩
   ·have T:=lh G;have L:=lh H;clear G;go_wp2;refine ⟨?rel,?measure⟩;case rel=>exact ⟨k+1,by rw [HXN.out];omega,by go_num,ydb T.out N.out (fun e=>L.out e.symm),rfl⟩
    case measure=>simp [intOf];omega
  ·obtain rfl:k=n:=by omega
   go_wp2;go_ret;have h1:=N.out;rw [List.take_of_length_le ya4] at h1
   have h2:xs.contains h=false:=by
    cases J:xs.contains h
    ·rfl
    ·rw [List.contains_iff_mem] at J;exact absurd J h1
   exact ⟨by rw [h2];rfl,rfl⟩
structure VtR where
 num:Int
 wr:Hd
 dt:Int
 tt:Int
 th:Int
 pr:ByteArray
 c0:Int
 c1:Int
 c2:Int
 c3:Int
 c4:Int
 r0:Int
 r1:Int
 r2:Int
 r3:Int
 xs:List Int
abbrev fVt (v:VtR):List Value:=[.int .i64 v.num,.slice v.wr.a v.wr.n v.wr.c,.int .i64 v.dt,.int .i64 v.tt,.int .i64 v.th,.string v.pr,.int .i64 v.c0,.int .i64 v.c1,.int .i64 v.c2,.int .i64 v.c3,.int .u64 v.c4,.int .i64 v.r0,.int .i64 v.r1,.int .i64 v.r2,.int .i64 v.r3]
theorem fVt_len:∀v,(fVt v).length=15:=fun _=>rfl
def VtIn (w:World) (B:Nat) (A:Option Addr) (n:Nat) (vs:List VtR):Prop:=SlN fVt 15 w B A n vs/\∀v∈vs,Sl I w B v.wr.a v.wr.n v.xs/\v.wr.n<=9223372036854775807
theorem VtIn.up {w J:World} {B G n:Nat} {A:Option Addr} {vs:List VtR} (h:VtIn w B A n vs) (L:Below G w J) (K:B<=G):VtIn J B A n vs:=⟨h.1.up L K,fun v H=>⟨(h.2 v H).1.up L K,(h.2 v H).2⟩⟩
theorem Tryz.sizeVt:(prog.info? 99).map (·.size)=some 15:=by kernel_rfl
theorem sizeVtL (v:VtR):(prog.info? 99).map (·.size)=some (fVt v).length:=Tryz.sizeVt
def fiV (vt:Int):List VtR->Option VtR
 | []=>none
 |v::t=>if v.num=vt then some v else fiV vt t
theorem fiV_skip {vt:Int}:∀ {vs:List VtR} {k:Nat} {v:VtR},vs[k]? =some v->(∀(j:Nat) (u:VtR),j < k->vs[j]? =some u->u.num≠vt)->fiV vt vs=fiV vt (vs.drop k)
 | [],k,v,h,_=>by simp at h
 |u::t,0,v,h,_=>rfl
 |u::t,k+1,v,h,hn=>by
  have h0:=hn 0 u om rfl;rw [fiV,if_neg h0,List.drop_succ_cons];exact fiV_skip (vs:=t) (k:=k) (v:=v) (by simpa using h) (fun j y hj G=>hn (j+1) y om (by simpa using G))
theorem fiV_at {vt:Int} {vs:List VtR} {k:Nat} {v:VtR} (h:vs[k]? =some v) (H:v.num=vt) (hn:∀(j:Nat) (u:VtR),j < k->vs[j]? =some u->u.num≠vt):fiV vt vs=some v:=by
 rw [fiV_skip h hn];have G:=(List.getElem?_eq_some_iff.1 h);rw [List.drop_eq_getElem_cons G.1,G.2,fiV,if_pos H]
theorem fiV_none {vt:Int}:∀ {vs:List VtR},(∀(j:Nat) (u:VtR),vs[j]? =some u->u.num≠vt)->fiV vt vs=none
 | [],_=>rfl
 |u::t,hn=>by
  rw [fiV,if_neg (hn 0 u rfl)];exact fiV_none (vs:=t) (fun j y G=>hn (j+1) y (by simpa using G))
theorem vcl_any (v:VtR) (g:Nat) (vt:Int) (w:World) (J:∀V,Below w.heap.size w V->V.cell? ⟨g,3,none⟩=some (.int .i64 vt)):
 Calls prog 40 #[.agg (fVt v).toArray,.pointer (some ⟨g,0,none⟩)] w fun e L=>e= .returned (.bool (decide (v.num=vt)))/\Below w.heap.size w L:=by
 have G:Below w.heap.size w (w.alloc (.cells (fVt v).toArray 99)):=bl;have K:=J _ G;have HB:=lh G;have H:Hid (decide (v.num=vt)=(v.num==vt)):=by show _=_;by_cases h:v.num=vt<;>simp [h]
 rw [H.out];obtain ⟨num,wr,dt,tt,th,pr,c0,c1,c2,c3,c4,r0,r1,r2,r3,xs⟩:=v;dsimp only at H HB K ⊢;clear J G;go_enter func40,ntmps40;go_wp2;go_ret;exact ⟨rfl,HB.out⟩
def FiP (vt:Int) (vs:List VtR) (w:World) (e:Ending) (w':World):Prop:=
 ∃z:Int,e= .returned (.int .i64 z)/\((∃(k:Nat) (v:VtR),z=(k:Int)/\vs[k]? =some v/\fiV vt vs=some v)∨(z= -1/\fiV vt vs=none))/\Below w.heap.size w w'
theorem indexV_any (A:Option Addr) (n c B:Nat) (vs:List VtR) (g:Nat) (vt:Int) (w:World) (W:SlN fVt 15 w B A n vs) (hB:B<=w.heap.size) (hn:n<=1000000) (Z:∀V,Below w.heap.size w V->V.cell? ⟨g,3,none⟩=some (.int .i64 vt)):
 Calls prog 39 #[.slice A n c,.func (.func 40) #[] #[.pointer (some ⟨g,0,none⟩)]] w (FiP vt vs w):=by
 have HX:Hid (∀V,Below w.heap.size w V->SlN fVt 15 V B A n vs):=fun V T=>W.up T hB;have HXN:Hid (vs.length=n):=W.1;have HC:Hid (∀v V,Below w.heap.size w V->Calls prog 40 #[.agg (fVt v).toArray,.pointer (some ⟨g,0,none⟩)] V fun e w'=>e= .returned (.bool (decide (v.num=vt)))/\Below V.heap.size V w'):=fun v V T=>vcl_any v g vt V (fun V2 h2=>Z V2 (bt T h2));have M:Hid (Below w.heap.size w w):=Below.refl _ _;clear W Z;go_enter func39,ntmps39;go_wp2
 go_loopw [8] (fun i wr=>∃k:Nat,k<=n/\i= .int .i64 k/\Hid (∀(j:Nat) (u:VtR),j < k->vs[j]? =some u->u.num≠vt)/\Hid (Below w.heap.size w wr)) (fun i _=>n - (intOf i).toNat)
 case atStart=>exact ⟨0,by omega,rfl,fun j u hj=>absurd hj om,M⟩
 case round=>
  clear M;obtain ⟨k,hk,rfl,HK,HBr⟩:=hrel
  by_cases hlt:k < n
  ·obtain ⟨O,U,v,hA,_,H,N⟩:=(HX.out wr HBr.out).at_ (k:=k) hlt;subst hA;have ac:(k:Int) < (n:Int):=by omega
   have aa:(0:Int)<=(k:Int):=by omega
   have L:Hid (wr.rangeAt O (U+k*15) (fVt v)):=fun j u hj=>by
    have:=N j u hj;rw [<-Nat.add_assoc] at this;exact this
   have J:=lh (HC.out v wr HBr.out);clear N
   by_cases K:v.num=vt
   ·rw [decide_eq_true K] at J;have HF:Hid (fiV vt vs=some v):=fiV_at H K HK.out;have Y:=lh H;clear K H
    go_wp2_with (first
     |(with_reducible refine wpList_load_mid (op:=⟨some 15,_,_,_,_,_⟩) rfl 99 (.tmp 14) rfl O (U+k*15) rfl (fVt v) _ L.out underlying99 rfl (sizeVtL v) ?_)
     |(go_at_call 40;(with_reducible refine J.out.mono ?_);rintro e w1 ⟨rfl,G⟩;(have HB1:=lh (bt HBr.out G));clear G))
    go_ret;exact ⟨_,rfl,Or.inl ⟨k,v,rfl,Y.out,HF.out⟩,HB1.out⟩
   ·rw [decide_eq_false K] at J
    have z:Hid (∀(j:Nat) (u:VtR),j < k+1->vs[j]? =some u->u.num≠vt):=fun j u hj h=>by
     rcases Nat.lt_or_ge j k with c |c
     ·exact HK.out j u c h
     ·obtain rfl:j=k:=by omega
      rw [H] at h;cases h;exact K
    clear K H
    go_wp2_with (first
     |(with_reducible refine wpList_load_mid (op:=⟨some 15,_,_,_,_,_⟩) rfl 99 (.tmp 14) rfl O (U+k*15) rfl (fVt v) _ L.out underlying99 rfl (sizeVtL v) ?_)
     |(go_at_call 40;(with_reducible refine J.out.mono ?_);rintro e w1 ⟨rfl,G⟩;(have HB1:=lh (bt HBr.out G));clear G))
    refine ⟨?rel,?measure⟩;case rel=>exact ⟨k+1,by omega,by go_num,z,HB1⟩
    case measure=>(simp [intOf]<;>omega)
  ·obtain rfl:k=n:=by omega
   have HF:Hid (fiV vt vs=none):=fiV_none (fun j u h=>HK.out j u (by have:=(List.getElem?_eq_some_iff.1 h).1;have:=HXN.out;omega) h);go_wp2;go_ret;exact ⟨_,rfl,Or.inr ⟨rfl,HF.out⟩,HBr.out⟩
structure Vw where
 E:Hd
 V:Hd
 P:Hd
 b:Int
 h:Int
 D:Hd
 F:Hd
abbrev cVw (x:Vw):Array Value:=#[.slice x.E.a x.E.n x.E.c,.slice x.V.a x.V.n x.V.c,.slice x.P.a x.P.n x.P.c,.int .i64 x.b,.int .i64 x.h,.slice x.D.a x.D.n x.D.c,.slice x.F.a x.F.n x.F.c]
def wvB (pubs:List ByteArray) (b h:Int) (v:VtR) (d:Int) (R:Rcp) (ps qs rs:List ByteArray):Bool:=
 v.xs.contains d&&(!v.xs.contains R.hd&&(decide (0<=R.hd/\R.hd<=(pubs.length:Int) - 1)&&rvB (pubs.getD R.hd.toNat ⟨#[]⟩) b h R ps qs rs))
def wvO (pubs:List ByteArray) (b h:Int) (o:Option VtR) (d:Int) (R:Rcp) (ps qs rs:List ByteArray):Bool:=
 match o with
 |none=>false
 |some v=>wvB pubs b h v d R ps qs rs
def cnB (pubs:List ByteArray) (b h:Int) (vs:List VtR) (d q:Int) (R:Rcp) (st:ByteArray) (tx:Int) (no an:ByteArray) (ps qs rs:List ByteArray):Bool:=
 numB d q&&(tkB st tx no an&&(decide (st=R.s)&&(decide (tx=R.ix)&&wvO pubs b h (fiV R.vt vs) d R ps qs rs)))
theorem rangeA2 {w:World} {b:Nat} {t:TypeId} {d q:Int} {R:Rcp} {st:ByteArray} {G:Int} {no an:ByteArray} (h:w.heap[b]? =some (.cells (cA d q R st G no an) t (0,0))):w.rangeAt b 2 (cR R).toList:=fun j v H=>by
 rw [cell_of_row w b (2+j) _ _ _ h,<-Array.getElem?_toList];have:(cA d q R st G no an).toList=[.int .i64 d,.int .i64 q]++((cR R).toList++[.string st,.int .i64 G,.string no,.string an]):=rfl;rw [this,List.getElem?_append_right (by show 2<=2+j;omega)];have hj:j < (cR R).toList.length:=(List.getElem?_eq_some_iff.1 H).1;show ((cR R).toList++_)[2+j - 2]? =some v;rw [Nat.add_sub_cancel_left,List.getElem?_append_left hj];exact H
theorem ybK {w:World} {b:Nat} {t:TypeId} {d q:Int} {R:Rcp} {st:ByteArray} {G:Int} {no an:ByteArray} (h:w.heap[b]? =some (.cells (cA d q R st G no an) t (0,0))):w.cell? ⟨b,16,none⟩=some (.string st)/\w.cell? ⟨b,17,none⟩=some (.int .i64 G)/\w.cell? ⟨b,18,none⟩=some (.string no)/\w.cell? ⟨b,19,none⟩=some (.string an):=by
 refine ⟨?_,?_,?_,?_⟩<;>(rw [cell_of_row w _ _ _ _ _ h];rfl)
theorem ybC {w:World} {b:Nat} {t:TypeId} {d q:Int} {R:Rcp} {st:ByteArray} {G:Int} {no an:ByteArray} (h:w.heap[b]? =some (.cells (cA d q R st G no an) t (0,0))):w.cell? ⟨b,0,none⟩=some (.int .i64 d)/\w.cell? ⟨b,1,none⟩=some (.int .i64 q)/\w.cell? ⟨b,2,none⟩=some (.int .i64 R.hd)/\w.cell? ⟨b,3,none⟩=some (.int .i64 R.vt)/\w.cell? ⟨b,4,none⟩=some (.string R.s)/\w.cell? ⟨b,5,none⟩=some (.int .i64 R.ix):=by
 refine ⟨?_,?_,?_,?_,?_,?_⟩<;>(rw [cell_of_row w _ _ _ _ _ h];rfl)
theorem ybv {w:World} {b:Nat} {t:TypeId} {x:Vw} (h:w.heap[b]? =some (.cells (cVw x) t (0,0))):w.cell? ⟨b,0,none⟩=some (.slice x.E.a x.E.n x.E.c)/\w.cell? ⟨b,1,none⟩=some (.slice x.V.a x.V.n x.V.c)/\w.cell? ⟨b,2,none⟩=some (.slice x.P.a x.P.n x.P.c)/\w.cell? ⟨b,3,none⟩=some (.int .i64 x.b)/\w.cell? ⟨b,4,none⟩=some (.int .i64 x.h)/\w.cell? ⟨b,5,none⟩=some (.slice x.D.a x.D.n x.D.c)/\w.cell? ⟨b,6,none⟩=some (.slice x.F.a x.F.n x.F.c):=by
 refine ⟨?_,?_,?_,?_,?_,?_,?_⟩<;>(rw [cell_of_row w _ _ _ _ _ h];rfl)
theorem bvalid_any (x:Vw) (H:List ByteArray) (vs:List VtR) (d q:Int) (R:Rcp) (st:ByteArray) (tx:Int) (no an:ByteArray) (ps qs rs:List ByteArray) (B:Nat) (w:World) (hG:Glob w) (hV:VtIn w B x.V.a x.V.n vs) (hP:Sl fT w B x.P.a x.P.n H) (hR:RcIn w B R ps qs rs) (hB:B<=w.heap.size) (aZ:x.V.n<=1000) (a7:x.P.n<=1000) (aL:R.pa.n<=R.pa.c):
 Calls prog 12 #[.agg (cVw x),.agg (cA d q R st tx no an)] w fun e w'=>e= .returned (.bool (cnB H x.b x.h vs d q R st tx no an ps qs rs))/\Below w.heap.size w w':=by
 have HF:Hid (cnB H x.b x.h vs d q R st tx no an ps qs rs=(numB d q&&(tkB st tx no an&&(decide (st=R.s)&&(decide (tx=R.ix)&&wvO H x.b x.h (fiV R.vt vs) d R ps qs rs))))):=rfl;have ac:=lh (fun W=>ycW d q W);have ae:=lh (fun W=>isToken_any st tx no an W);obtain ⟨G,af⟩:∃G:World,G=(w.alloc (.cells (cVw x) 29)).alloc (.cells (cA d q R st tx no an) 39):=⟨_,rfl⟩
 have aC:G.heap.size=w.heap.size+2:=by rw [af];simp
 have aJ:G.heap[w.heap.size]? =some (.cells (cVw x) 29 (0,0)):=by
  rw [af];exact (zx _ _ _ sI).trans (zy w _)
 have aA:G.heap[w.heap.size+1]? =some (.cells (cA d q R st tx no an) 39 (0,0)):=by
  rw [af];have:=zy (w.alloc (.cells (cVw x) 29)) (.cells (cA d q R st tx no an) 39);simpa using this
 have HB:Hid (Below w.heap.size w G):=by
  show Below ..
  rw [af];exact bl.alloc sI _
 have HC:Hid (∀V,Below (w.heap.size+2) G V->V.heap[w.heap.size]? =some (.cells (cVw x) 29 (0,0))/\V.heap[w.heap.size+1]? =some (.cells (cA d q R st tx no an) 39 (0,0))):=fun V T=>⟨(T.block _ om).trans aJ,(T.block _ om).trans aA⟩
 have HX:Hid (∀V,Below (w.heap.size+2) G V->VtIn V B x.V.a x.V.n vs/\Sl fT V B x.P.a x.P.n H/\RcIn V B R ps qs rs/\B<=V.heap.size/\Below w.heap.size w V):=fun V T=>by
  have hb:Below w.heap.size w V:=HB.out.trans (T.mono (Nat.le_add_right _ 2));exact ⟨hV.up hb hB,hP.up hb hB,hR.up hb hB,Nat.le_trans hB hb.size,hb⟩
 have HS:=lh aC;have HWE:=lh af;have HB1:Hid (Below (w.heap.size+2) G G):=Below.refl _ _;have au:Hid (H.length=x.P.n):=hP.1;have aS:Hid (vs.length=x.V.n):=hV.1.1;clear aJ aA aC af;have aQ:Hid (∀V,Below (w.heap.size+2) G V->Calls prog 39 #[.slice x.V.a x.V.n x.V.c,.func (.func 40) #[] #[.pointer (some ⟨w.heap.size+1,0,none⟩)]] V (FiP R.vt vs V)):=fun V T=>indexV_any x.V.a x.V.n x.V.c B vs (w.heap.size+1) R.vt V (HX.out V T).1.1 (HX.out V T).2.2.2.1 om (fun V2 h2=>(ybC (HC.out V2 (T.trans (h2.mono (HS.out▸T.size)))).2).2.2.2.1);have aG:Hid (∀(V:World) (u:VtR) (y:Int),Below (w.heap.size+2) G V->u∈vs->Calls prog 41 #[.slice u.wr.a u.wr.n u.wr.c,.int .i64 y] V fun e w'=>e= .returned (.bool (u.xs.contains y))/\V=w'):=fun V u y T hu=>containsJ_any u.wr.a u.wr.n u.wr.c B u.xs y V ((HX.out V T).1.2 u hu).1 ((HX.out V T).1.2 u hu).2;have ao:=lh (fun W=>ybZ R.hd 0 ((x.P.n:Int) - 1) W);have az:Hid (∀aa V,Below (w.heap.size+2) G V->Calls prog 43 #[.string aa,.agg (cSc x.b x.h),.agg (cR R)] V fun e w'=>e= .returned (.bool (rvB aa x.b x.h R ps qs rs))/\Below V.heap.size V w'):=fun aa V T=>rcverify_any aa x.b x.h R ps qs rs B V (hG.on (HX.out V T).2.2.2.2) (HX.out V T).2.2.1 (HX.out V T).2.2.2.1 aL;have aM:(0:Int)<=(x.P.n:Int) - 1∨True:= .inr trivial;obtain ⟨a0,a1,a2,a3,a4,a5⟩:=ybC (HC.out G HB1.out).2;obtain ⟨M,O,L,N⟩:=ybK (HC.out G HB1.out).2;obtain ⟨Z,U,v2,v3,v4,v5,v6⟩:=ybv (HC.out G HB1.out).1;clear hV hP hR hB hG aL aM
 cases ah:numB d q with
 |false=>
  rw [ah] at ac HF;rw [Bool.false_and] at HF;clear ah;go_enter func12,ntmps12;go_upto_region 1 with fail
  rw [<-HWE.out];go_wp2_with (go_at_call 37;(with_reducible refine (ac.out _).mono ?_);rintro e w5 ⟨rfl,rfl⟩);go_ret;exact ⟨by rw [HF.out];rfl,HB.out.trans (HB1.out.mono (Nat.le_add_right _ 2))⟩
 |true=>
  rw [ah] at ac HF;rw [Bool.true_and] at HF;clear ah
  cases ar:tkB st tx no an with
  |false=>
   rw [ar] at ae HF;rw [Bool.false_and] at HF;clear ar;go_enter func12,ntmps12;go_upto_region 1 with fail
   rw [<-HWE.out];go_wp2_with (first |(go_at_call 37;(with_reducible refine (ac.out _).mono ?_);rintro e w5 ⟨rfl,rfl⟩) |(go_at_call 38;(with_reducible refine (ae.out _).mono ?_);rintro e J ⟨rfl,Y⟩;(have HBx:Hid (Below (w.heap.size+2) G J):=Below.mono Y (Nat.le_of_eq HS.out.symm));clear Y;clear a0 a1 a2 a3 a4 a5 M O L N Z U v2 v3 v4 v5 v6;obtain ⟨a0,a1,a2,a3,a4,a5⟩:=ybC (HC.out J HBx.out).2;obtain ⟨M,O,L,N⟩:=ybK (HC.out J HBx.out).2;obtain ⟨Z,U,v2,v3,v4,v5,v6⟩:=ybv (HC.out J HBx.out).1));go_ret;exact ⟨by rw [HF.out];rfl,HB.out.trans (HBx.out.mono (Nat.le_add_right _ 2))⟩
  |true=>
   rw [ar] at ae HF;rw [Bool.true_and] at HF;clear ar
   by_cases h1:st=R.s
   ·by_cases h2:tx=R.ix
    ·rw [decide_eq_true h1,decide_eq_true h2,Bool.true_and,Bool.true_and] at HF;subst h1;subst h2;go_enter func12,ntmps12;go_upto_region 1 with fail
     rw [<-HWE.out];go_upto_region 4 with (first |(go_at_call 37;(with_reducible refine (ac.out _).mono ?_);rintro e w5 ⟨rfl,rfl⟩) |(go_at_call 38;(with_reducible refine (ae.out _).mono ?_);rintro e J ⟨rfl,Y⟩;(have HBx:Hid (Below (w.heap.size+2) G J):=Below.mono Y (Nat.le_of_eq HS.out.symm));clear Y;clear a0 a1 a2 a3 a4 a5 M O L N Z U v2 v3 v4 v5 v6;obtain ⟨a0,a1,a2,a3,a4,a5⟩:=ybC (HC.out J HBx.out).2;obtain ⟨M,O,L,N⟩:=ybK (HC.out J HBx.out).2;obtain ⟨Z,U,v2,v3,v4,v5,v6⟩:=ybv (HC.out J HBx.out).1) |(go_at_call 39;(with_reducible refine (aQ.out _ HBx.out).mono ?_);rintro e w7 ⟨z,rfl,hz,aK⟩;(have HB7:Hid (Below (w.heap.size+2) G w7):=HBx.out.trans (Below.mono aK (HS.out▸HBx.out.size)));clear aK;(have HZ:=lh hz);clear hz;clear a0 a1 a2 a3 a4 a5 M O L N Z U v2 v3 v4 v5 v6;obtain ⟨a0,a1,a2,a3,a4,a5⟩:=ybC (HC.out w7 HB7.out).2;obtain ⟨M,O,L,N⟩:=ybK (HC.out w7 HB7.out).2;obtain ⟨Z,U,v2,v3,v4,v5,v6⟩:=ybv (HC.out w7 HB7.out).1))
     rcases HZ.out with ⟨k,u,rfl,am,aF⟩ |⟨rfl,aI⟩
     ·rw [aF] at HF;have ai:Hid (cnB H x.b x.h vs d q R R.s R.ix no an ps qs rs=(u.xs.contains d&&(!u.xs.contains R.hd&&(decide (0<=R.hd/\R.hd<=(H.length:Int) - 1)&&rvB (H.getD R.hd.toNat ⟨#[]⟩) x.b x.h R ps qs rs)))):=HF;clear HF;have HF:=ai;have hu:=List.mem_of_getElem? am;have aO:k < x.V.n:=by have:=(List.getElem?_eq_some_iff.1 am).1;have:=aS.out;omega
      have aV:(k:Int) < (x.V.n:Int):=by omega
      have aX:(0:Int)<=(k:Int):=by omega
      obtain ⟨bv,ov,u2,aB,_,ax,aH⟩:=(HX.out w7 HB7.out).1.1.at_ (k:=k) aO;rw [am] at ax;cases ax
      have kw:=aH 1 _ rfl;rw [<-Nat.add_assoc] at kw;rw [aB] at U;have aj:=lh (aG.out w7 u d HB7.out hu);have al:=lh (aG.out w7 u R.hd HB7.out hu);clear aH am aF hu aB ai
      cases ap:u.xs.contains d with
      |false=>
       rw [ap] at aj HF;rw [Bool.false_and] at HF;clear ap;go_wp2_with (go_at_call 41;(with_reducible refine aj.out.mono ?_);rintro e w8 ⟨rfl,rfl⟩);go_ret;exact ⟨by rw [HF.out];rfl,HB.out.trans (HB7.out.mono (Nat.le_add_right _ 2))⟩
      |true=>
       rw [ap] at aj HF;rw [Bool.true_and] at HF;clear ap
       cases aq:u.xs.contains R.hd with
       |true=>
        rw [aq] at al HF;rw [Bool.not_true,Bool.false_and] at HF;clear aq;go_wp2_with (go_at_call 41;(first |(with_reducible refine aj.out.mono ?_) |(with_reducible refine al.out.mono ?_));rintro e w8 ⟨rfl,rfl⟩);go_ret;exact ⟨by rw [HF.out];rfl,HB.out.trans (HB7.out.mono (Nat.le_add_right _ 2))⟩
       |false=>
        rw [aq] at al HF;rw [Bool.not_false,Bool.true_and] at HF;clear aq;go_upto_region 10 with (go_at_call 41;(first |(with_reducible refine aj.out.mono ?_) |(with_reducible refine al.out.mono ?_));rintro e w8 ⟨rfl,rfl⟩)
        rw [au.out] at HF;have a8:IntKind.i64.wrap ((x.P.n:Int) - 1)=(x.P.n:Int) - 1:=IntWalk.i64_in _ om
        by_cases ay:0<=R.hd/\R.hd<=(x.P.n:Int) - 1
        ·
         rw [decide_eq_true ay] at HF ao;rw [Bool.true_and] at HF;obtain ⟨bp,op,aa,aP,_,aw,_⟩:=(HX.out w7 HB7.out).2.1.2.at_ (k:=R.hd.toNat) (by rw [au.out];omega);rw [ybA aw] at HF
         have HPC:Hid (∀V,Below (w.heap.size+2) G V->V.cell? ⟨bp,op+R.hd.toNat,none⟩=some (.string aa)):=fun V T=>by
          obtain ⟨b3,o3,x3,e3,_,g3,k3⟩:=(HX.out V T).2.1.2.at_ (k:=R.hd.toNat) (by rw [au.out];omega);rw [aP] at e3;cases e3
          rw [aw] at g3;cases g3
          exact k3
         have aU:0<=R.hd:=ay.1;have aT:R.hd < (x.P.n:Int):=by omega
         have az:=lh (az.out aa);clear aw;clear a0 a1 a2 a3 a4 a5 M O L N Z U v2 v3 v4 v5 v6;refine rH (S:=(fun w'=>w'.heap[w.heap.size]? =some (.cells (cVw x) 29 (0,0))/\w'.heap[w.heap.size+1]? =some (.cells (cA d q R R.s R.ix no an) 39 (0,0))/\w'.cell? ⟨bp,op+R.hd.toNat,none⟩=some (.string aa))) ybi yae (fun ag=>?_)
         (iterate 2 refine tkA ?_)
         refine tkH (i:=2) (v:=?zB2v) (y:=(Or.inl ⟨by rfl,?zB2y⟩)) (h:=?zB2r);case zB2y=>(intro w hSw;(try dsimp only at hSw);(obtain ⟨Z,U,v2,v3,v4,v5,v6⟩:=ybv hSw.1);go_simp;try (with_reducible rfl))
         try simp only [pt]
         refine tkY 3 ?_;refine tkY 4 ?_;refine rd1 5 (fun K hK=>?_)
         (go_simp;go_at_call 42;(with_reducible refine (ao.out _).mono ?_);rintro e w8 ⟨rfl,rfl⟩;go_wp2_with fail)
         refine hK.out _ _ yae (fun ak=>?_);clear hK K ag
         try simp only [pt]
         refine tkY 6 ?_;refine tkY 7 ?_;refine tkH (i:=8) (v:=?zB8v) (y:=(Or.inl ⟨by rfl,?zB8y⟩)) (h:=?zB8r);case zB8y=>(intro w hSw;(try dsimp only at hSw);(obtain ⟨Z,U,v2,v3,v4,v5,v6⟩:=ybv hSw.1);go_simp;try (with_reducible rfl))
         try simp only [pt]
         refine tkY 9 ?_;refine tkY 10 ?_;refine tkH (i:=11) (v:=?zB11v) (y:=(Or.inl ⟨by rfl,?zB11y⟩)) (h:=?zB11r);case zB11y=>(intro w hSw;(try dsimp only at hSw);(have hp:=hSw.2.2);go_simp;try (with_reducible rfl))
         try simp only [pt]
         refine tkY 12 ?_;refine tkH (i:=13) (v:=?zB13v) (y:=(Or.inl ⟨by rfl,?zB13y⟩)) (h:=?zB13r);case zB13y=>(intro w hSw;(try dsimp only at hSw);(obtain ⟨Z,U,v2,v3,v4,v5,v6⟩:=ybv hSw.1);go_simp;try (with_reducible rfl))
         try simp only [pt]
         refine tkY 14 ?_;refine tkH (i:=15) (v:=_) (y:=(yieldsIf_load_mid (by rfl) tR (.tmp 68) rfl (w.heap.size+1) 2 (by rfl) (cR R).toList _ (fun _ h=>rangeA2 h.2.1) underlying35 rfl (ybT R))) (h:=?_)
         try simp only [pt]
         refine rd1 16 (fun K hK=>?_)
         (go_simp;go_at_call 43;(with_reducible refine (az.out _ yav).mono ?_);rintro e w9 ⟨rfl,aD⟩;(have HBy:Hid (Below (w.heap.size+2) G w9):=Below.trans (B:=w.heap.size+2) yav (Below.mono aD (HS.out▸HB7.out.size)));clear aD;go_wp2_with fail)
         refine hK.out _ _ yae (fun aE=>?_);clear hK K ak
         try simp only [pt]
         refine tkY 17 ?_;refine tkY 18 ?_;refine wpAnyH_done ybi ?_ _;go_wp2_with fail;go_ret;exact ⟨by rw [HF.out];rfl,yax⟩
        ·
         rw [decide_eq_false ay] at HF ao;rw [Bool.false_and] at HF;have HBy:=HB7;clear a0 a1 a2 a3 a4 a5 M O L N Z U v2 v3 v4 v5 v6;refine rH (S:=(fun w'=>w'.heap[w.heap.size]? =some (.cells (cVw x) 29 (0,0))/\w'.heap[w.heap.size+1]? =some (.cells (cA d q R R.s R.ix no an) 39 (0,0)))) ybi yas (fun ag=>?_)
         (iterate 2 refine tkA ?_)
         refine tkH (i:=2) (v:=?zA2v) (y:=(Or.inl ⟨by rfl,?zA2y⟩)) (h:=?zA2r);case zA2y=>(intro w hSw;(try dsimp only at hSw);(obtain ⟨Z,U,v2,v3,v4,v5,v6⟩:=ybv hSw.1);go_simp;try (with_reducible rfl))
         try simp only [pt]
         refine tkY 3 ?_;refine tkY 4 ?_;refine rd1 5 (fun K hK=>?_)
         (go_simp;go_at_call 42;(with_reducible refine (ao.out _).mono ?_);rintro e w8 ⟨rfl,rfl⟩;go_wp2_with fail)
         refine hK.out _ _ yas (fun aN=>?_);clear hK K ag
         try simp only [pt]
         refine tkY 6 ?_;refine tkN 7 ?_;refine tkN 8 ?_;refine tkN 9 ?_;refine tkN 10 ?_;refine tkN 11 ?_;refine tkN 12 ?_;refine tkN 13 ?_;refine tkN 14 ?_;refine tkN 15 ?_;refine tkN 16 ?_;refine tkY 17 ?_;refine tkY 18 ?_;refine wpAnyH_done ybi ?_ _;go_wp2_with fail;go_ret;exact ⟨by rw [HF.out];rfl,yax⟩
     ·rw [aI] at HF;have ai:Hid (cnB H x.b x.h vs d q R R.s R.ix no an ps qs rs=false):=HF;clear HF;have HF:=ai;clear ai aI;go_wp2;go_ret;exact ⟨by rw [HF.out];rfl,HB.out.trans (HB7.out.mono (Nat.le_add_right _ 2))⟩
    ·rw [decide_eq_true h1,decide_eq_false h2,Bool.true_and,Bool.false_and] at HF;subst h1;have aW:(tx==R.ix)=false:=by simp [h2]
     go_enter func12,ntmps12;go_upto_region 1 with fail
     rw [<-HWE.out];go_wp2_with (first |(go_at_call 37;(with_reducible refine (ac.out _).mono ?_);rintro e w5 ⟨rfl,rfl⟩) |(go_at_call 38;(with_reducible refine (ae.out _).mono ?_);rintro e J ⟨rfl,Y⟩;(have HBx:Hid (Below (w.heap.size+2) G J):=Below.mono Y (Nat.le_of_eq HS.out.symm));clear Y;clear a0 a1 a2 a3 a4 a5 M O L N Z U v2 v3 v4 v5 v6;obtain ⟨a0,a1,a2,a3,a4,a5⟩:=ybC (HC.out J HBx.out).2;obtain ⟨M,O,L,N⟩:=ybK (HC.out J HBx.out).2;obtain ⟨Z,U,v2,v3,v4,v5,v6⟩:=ybv (HC.out J HBx.out).1));go_ret;exact ⟨by rw [HF.out];rfl,HB.out.trans (HBx.out.mono (Nat.le_add_right _ 2))⟩
   ·rw [decide_eq_false h1,Bool.false_and] at HF
    (have aR:¬st.toList=R.s.toList:=fun h=>h1 (by have:=beqD st R.s;rw [decide_eq_false h1] at this;simp [h] at this));(have a6:(st.toList==R.s.toList)=false:=by rw [<-beqD,decide_eq_false h1]);(have aY:decide (st.toList=R.s.toList)=false:=by simp [aR])
    go_enter func12,ntmps12;go_upto_region 1 with fail
    rw [<-HWE.out];go_wp2_with (first |(go_at_call 37;(with_reducible refine (ac.out _).mono ?_);rintro e w5 ⟨rfl,rfl⟩) |(go_at_call 38;(with_reducible refine (ae.out _).mono ?_);rintro e J ⟨rfl,Y⟩;(have HBx:Hid (Below (w.heap.size+2) G J):=Below.mono Y (Nat.le_of_eq HS.out.symm));clear Y;clear a0 a1 a2 a3 a4 a5 M O L N Z U v2 v3 v4 v5 v6;obtain ⟨a0,a1,a2,a3,a4,a5⟩:=ybC (HC.out J HBx.out).2;obtain ⟨M,O,L,N⟩:=ybK (HC.out J HBx.out).2;obtain ⟨Z,U,v2,v3,v4,v5,v6⟩:=ybv (HC.out J HBx.out).1));go_ret;exact ⟨by rw [HF.out];rfl,HB.out.trans (HBx.out.mono (Nat.le_add_right _ 2))⟩
