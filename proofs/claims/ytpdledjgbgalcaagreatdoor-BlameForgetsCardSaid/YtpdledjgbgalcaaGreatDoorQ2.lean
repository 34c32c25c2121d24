/- writeID, EncodeAcquittal. -/
import Derived.Test.YtpdledjgbgalcaaGreatDoorPh
import Derived.Test.YtpdledjgbgalcaaGreatDoorMa
namespace Go.Proofs.YtpdledjgbgalcaaGreatDoor
set_option maxRecDepth 100000
set_option maxHeartbeats 8000000
open Go.RowKit Go.Lib
set_option linter.unusedVariables false
set_option linter.unusedSimpArgs false
theorem Wc.sl {α:Type} {f:α→Value} {g base:Nat} {v:Value} {w0 w:World} {bs:List Int} {B n:Nat} {A:Option Addr} {xs:List α} (h:Wc g base v w0 bs w) (hx:Sl f w0 B A n xs) (hB:B≤w0.heap.size) (hf:∀k,k < B→¬foot g v k):Sl f w B A n xs:=⟨hx.1,fun hn=>by
 obtain ⟨b,off,e,hlt,hc⟩:=hx.2 hn
 exact ⟨b,off,e,hlt,hc.keep (h.keep (hf b hlt) (Nat.lt_of_lt_of_le hlt hB))⟩⟩
theorem yc6 {g:Nat} {B:Nat} (hg:B≤g):∀k,k < B→¬foot g (.slice none 0 0) k:=fun k hk h=>by
 rcases h with rfl |h
 ·omega
 ·cases h
theorem Wc.behind {g base:Nat} {v:Value} {w0 w:World} {bs:List Int} {o:Obj} (h:Wc g base v (w0.alloc o) bs w):Wc g base v w0 bs w:=by
 obtain ⟨v1,h1,h2,h3⟩:=h;refine ⟨v1,h1,((But.refl _ w0).alloc o).trans h2 (fun i hi=> .inl hi),?_⟩;rcases h3 with h |⟨k,h,hk⟩
 ·exact .inl h
 ·exact .inr ⟨k,h,Nat.le_trans sI hk⟩
theorem wid_any (g base:Nat) (v:Value) (bs:List Int) (s:ByteArray) (ix:Nat) (w:World) (hw:Wr w g base v bs) (hs:s.size=32) (hix:ix≤15) (hlen:bs.length≤1000000):
 Calls Tryz.prog 74 #[.pointer (some ⟨g,0,none⟩),.agg #[.string s,.int .i64 ix]] w (WPost g base v (bs++(sB s++enc ix)) w):=by
 obtain ⟨W,hW⟩:∃W:World,W=w.alloc (.cells #[.string s,.int .i64 ix] 31):=⟨_,rfl⟩
 have hK:W.heap[w.heap.size]? =some (.cells #[.string s,.int .i64 ix] 31 (0,0)):=by rw [hW];exact heap_alloc_new w _
 have hW0:Wc g base v W bs W:=by rw [hW];exact Wc.start (hw.alloc _)
 have hF:=hw.fresh
 have HK:Hid (∀bs' V,Wc g base v W bs' V→V.cell? ⟨w.heap.size,1,none⟩=some (.int .i64 ix)):=fun bs' V h=>by
  rw [cell_of_row V _ 1 _ _ _ ((h.keep hF (lt_of_block hK)).trans hK)];rfl
 have HP:Hid (∀bs' V,Wc g base v W bs' V→WPost g base v bs' w (.returned (.tuple #[])) V):=fun bs' V h=>by rw [hW] at h;exact h.behind.post
 have HWE:=lh hW;have c0:W.cell? ⟨w.heap.size,0,none⟩=some (.string s):=by rw [cell_of_row W _ 0 _ _ _ hK];rfl
 have HC1:=lh (hW0.step (P:=Tryz.prog) (fun v' hv' _=>ydA g base v' bs s W hv' hs om));have hsl:(sB s).length=32:=(ya9 s).trans hs;have hixm:(ix:Int) % 18446744073709551616=ix:=by omega
 rw [hW] at c0;clear hw hK hW0 hF hW hs;go_enter Tryz.func74,Tryz.ntmps74
 go_wp2_with fail
 rw [←HWE.out];refine HC1.out.mono ?_;rintro e w2 ⟨rfl,hw2⟩;clear c0;have c1:=HK.out _ _ hw2;have HC2:=lh (hw2.step (P:=Tryz.prog) (fun v' hv' _=>ybp g base v' _ ix w2 hv' om (by simp only [List.length_append];omega)));clear hw2
 go_wp2_with fail
 refine HC2.out.mono ?_;rintro e w3 ⟨rfl,hw3⟩;have HW3:=lh hw3;clear hw3 c1;go_wp2
 go_end0
 have:=HP.out _ _ HW3.out
 rwa [List.append_assoc] at this
def encA (d q:Nat) (s:ByteArray) (ix:Nat) (xs:List Int) (ys:List ByteArray):List Int:=
 enc d++(enc q++(sB s++(enc ix++(enc xs.length++(xs++(enc ys.length++ys.flatMap sB))))))
theorem yby:∀ {ys:List ByteArray},(∀s∈ys,s.size=32)→(ys.flatMap sB).length=32*ys.length
 | [],_=>rfl
 |y::l,h=>by
  rw [List.flatMap_cons,List.length_append,ya9,h y (List.mem_cons_self ..),yby (fun s hs=>h s (List.mem_cons_of_mem _ hs)),List.length_cons];omega
theorem flat_snoc {ys:List ByteArray} {k:Nat} {x:ByteArray} (h:ys[k]? =some x):(ys.take (k+1)).flatMap sB=(ys.take k).flatMap sB++sB x:=by
 rw [yba h,List.flatMap_append];simp
abbrev accZ (d q:Int):Value:= .agg #[.int .i64 d,.int .i64 q,.int .i64 0,.int .i64 0,.string ⟨#[]⟩,.int .i64 0,.int .i64 0,.int .i64 0,.int .i64 0,.int .i64 0,.int .i64 0,.string ⟨#[]⟩,.slice none 0 0,.int .i64 0,.slice none 0 0,.slice none 0 0,.string ⟨#[]⟩,.int .i64 0,.string ⟨#[]⟩,.string ⟨#[]⟩]
def EAPost (d q:Int) (p:Pc) (xs:List Int) (ys:List ByteArray) (w:World) (e:Ending) (w':World):Prop:=
 ((numB d q&&shB p ys)=true∧Slc2 fB (encA d.toNat q.toNat p.s p.ix.toNat xs ys) 0 w e w')∨((numB d q&&shB p ys)=false∧e= .returned (.tuple #[.slice none 0 0,.int .i64 1])∧Below w.heap.size w w')
theorem eacq_any (d q:Int) (p:Pc) (xs:List Int) (ys:List ByteArray) (B:Nat) (w:World) (hx:PcIn w B p xs ys) (hB:B≤w.heap.size):
 Calls Tryz.prog 32 #[accZ d q,.agg (cPc p)] w (EAPost d q p xs ys w):=by
 obtain ⟨s,ix,⟨a,n,c⟩,⟨a',m,c'⟩⟩:=p;obtain ⟨W1,hW1⟩:∃W1:World,W1=(w.alloc (.cells #[.int .i64 d,.int .i64 q,.int .i64 0,.int .i64 0,.string ⟨#[]⟩,.int .i64 0,.int .i64 0,.int .i64 0,.int .i64 0,.int .i64 0,.int .i64 0,.string ⟨#[]⟩,.slice none 0 0,.int .i64 0,.slice none 0 0,.slice none 0 0,.string ⟨#[]⟩,.int .i64 0,.string ⟨#[]⟩,.string ⟨#[]⟩] 39)).alloc (.cells #[.string s,.int .i64 ix,.slice a n c,.slice a' m c'] 42):=⟨_,rfl⟩
 have hb1:Below w.heap.size w W1:=by rw [hW1];exact bl.alloc sI _
 have hs1:W1.heap.size=w.heap.size+1+1:=by rw [hW1];simp
 have hca:W1.heap[w.heap.size]? =some (.cells #[.int .i64 d,.int .i64 q,.int .i64 0,.int .i64 0,.string ⟨#[]⟩,.int .i64 0,.int .i64 0,.int .i64 0,.int .i64 0,.int .i64 0,.int .i64 0,.string ⟨#[]⟩,.slice none 0 0,.int .i64 0,.slice none 0 0,.slice none 0 0,.string ⟨#[]⟩,.int .i64 0,.string ⟨#[]⟩,.string ⟨#[]⟩] 39 (0,0)):=by rw [hW1,Below.heap_alloc _ _ _ sI];exact heap_alloc_new w _
 have hcp:W1.heap[w.heap.size+1]? =some (.cells #[.string s,.int .i64 ix,.slice a n c,.slice a' m c'] 42 (0,0)):=by
  rw [hW1]
  have:=heap_alloc_new (w.alloc (.cells #[.int .i64 d,.int .i64 q,.int .i64 0,.int .i64 0,.string ⟨#[]⟩,.int .i64 0,.int .i64 0,.int .i64 0,.int .i64 0,.int .i64 0,.int .i64 0,.string ⟨#[]⟩,.slice none 0 0,.int .i64 0,.slice none 0 0,.slice none 0 0,.string ⟨#[]⟩,.int .i64 0,.string ⟨#[]⟩,.string ⟨#[]⟩] 39)) (.cells #[.string s,.int .i64 ix,.slice a n c,.slice a' m c'] 42)
  simpa using this
 have HN:=lh (fun W=>yb3 d q W);have HS:=lh (isShown_any ⟨s,ix,⟨a,n,c⟩,⟨a',m,c'⟩⟩ xs ys B W1 (hx.up hb1 hB) (Nat.le_trans hB hb1.size));have HB1:=lh hb1;have HWE:=lh hW1;have HX:=lh hx;have HBB:=lh hB;have HCA:=lh hca;have HCP:=lh hcp;have HS1:=lh hs1;have hshow:EAPost d q ⟨s,ix,⟨a,n,c⟩,⟨a',m,c'⟩⟩ xs ys w=EAPost d q ⟨s,ix,⟨a,n,c⟩,⟨a',m,c'⟩⟩ xs ys w:=rfl
 show Calls Tryz.prog 32 #[accZ d q,.agg #[.string s,.int .i64 ix,.slice a n c,.slice a' m c']] w _
 unfold EAPost;rw [hW1] at HS;clear hx hB hb1 hs1 hca hcp hW1 hshow
 cases h0:numB d q
 ·rw [h0] at HN
  clear h0 HS;go_enter Tryz.func32,Tryz.ntmps32
  go_wp2_with (first
   |(go_at_call 37;(with_reducible refine (HN.out _).mono ?_);rintro e w2 ⟨rfl,rfl⟩))
  go_ret2;refine .inr ⟨rfl,rfl,?_⟩;rw [←HWE.out];exact HB1.out
 ·rw [h0] at HN
  have hnb:=of_decide_eq_true h0
  cases h1:shB ⟨s,ix,⟨a,n,c⟩,⟨a',m,c'⟩⟩ ys
  ·rw [h1] at HS
   clear h0 h1 hnb;go_enter Tryz.func32,Tryz.ntmps32
   go_wp2_with (first
    |(go_at_call 37;(with_reducible refine (HN.out _).mono ?_);rintro e w2 ⟨rfl,rfl⟩)
    |(go_at_call 71;(with_reducible refine HS.out.mono ?_);rintro e w2 ⟨rfl,hb2⟩;rw [←HWE.out] at hb2;have HB2:=lh hb2;clear hb2))
   go_ret2;exact .inr ⟨rfl,rfl,HB1.out.trans (HB2.out.mono HB1.out.size)⟩
  ·rw [h1] at HS
   have hsb:=of_decide_eq_true h1;obtain ⟨⟨z1,z2,z3⟩,⟨z4,z5⟩,⟨z6,z7⟩,z8⟩:=hsb;obtain ⟨⟨y1,y2⟩,⟨y3,y4⟩⟩:=hnb;dsimp only at z1 z2 z3 z4 z5 z6 z7;have HSU:=lh (ybC.1 z8);have HXN:Hid (xs.length=n):=HX.out.1.1;have HYN:Hid (ys.length=m):=HX.out.2.1.1;obtain ⟨d,rfl⟩:∃k:Nat,d=k:=⟨d.toNat,by omega⟩
   obtain ⟨q,rfl⟩:∃k:Nat,q=k:=⟨q.toNat,by omega⟩
   obtain ⟨ix,rfl⟩:∃k:Nat,ix=k:=⟨ix.toNat,by omega⟩
   have hdm:(d:Int) % 18446744073709551616=d:=by omega
   have hqm:(q:Int) % 18446744073709551616=q:=by omega
   clear h0 h1 z8 hdm hqm;go_enter Tryz.func32,Tryz.ntmps32
   go_upto_region 3 with (first
    |(go_at_call 37;(with_reducible refine (HN.out _).mono ?_);rintro e w2 ⟨rfl,rfl⟩)
    |(go_at_call 71;(with_reducible refine HS.out.mono ?_);rintro e W2 ⟨rfl,hb2⟩;rw [←HWE.out] at hb2;have HB2:=lh hb2;clear hb2))
   have hdm:(d:Int) % 18446744073709551616=d:=by omega
   have hqm:(q:Int) % 18446744073709551616=q:=by omega
   obtain ⟨g,hg⟩:∃g,g=W2.heap.size:=⟨_,rfl⟩
   have hwg:w.heap.size+1+1≤g:=by rw [hg,←HS1.out];exact HB2.out.size
   obtain ⟨W3,hW3⟩:∃W3:World,W3=W2.alloc (.cells #[.slice none 0 0,.int .i64 0] 217):=⟨_,rfl⟩
   have h23:Below W2.heap.size W2 W3:=by rw [hW3];exact bl
   have h13:Below W1.heap.size W1 W3:=HB2.out.trans (h23.mono HB2.out.size);have hs3:g+1=W3.heap.size:=by rw [hW3,hg];simp
   have H0:Hid (Wc g (g+1) (.slice none 0 0) W3 [] W3):=by show Wc _ _ _ _ _ _;rw [hW3,hg];exact Wc.start (Wr.new W2)
   have ka:W3.heap[w.heap.size]? =some (.cells #[.int .i64 (d:Int),.int .i64 (q:Int),.int .i64 0,.int .i64 0,.string ⟨#[]⟩,.int .i64 0,.int .i64 0,.int .i64 0,.int .i64 0,.int .i64 0,.int .i64 0,.string ⟨#[]⟩,.slice none 0 0,.int .i64 0,.slice none 0 0,.slice none 0 0,.string ⟨#[]⟩,.int .i64 0,.string ⟨#[]⟩,.string ⟨#[]⟩] 39 (0,0)):=(h13.block _ yaU).trans HCA.out;have kp:W3.heap[w.heap.size+1]? =some (.cells #[.string s,.int .i64 (ix:Int),.slice a n c,.slice a' m c'] 42 (0,0)):=(h13.block _ yaU).trans HCP.out
   have HCB:Hid (∀bs V,Wc g (g+1) (.slice none 0 0) W3 bs V→V.cell? ⟨w.heap.size,0,none⟩=some (.int .i64 d)∧V.cell? ⟨w.heap.size,1,none⟩=some (.int .i64 q)∧V.cell? ⟨w.heap.size+1,0,none⟩=some (.string s)∧V.cell? ⟨w.heap.size+1,1,none⟩=some (.int .i64 ix)∧V.cell? ⟨w.heap.size+1,2,none⟩=some (.slice a n c)∧V.cell? ⟨w.heap.size+1,3,none⟩=some (.slice a' m c')):=fun bs V h=>by
    have ka':=(h.keep (yc6 (B:=w.heap.size+1+1) hwg _ om) (lt_of_block ka)).trans ka;have kp':=(h.keep (yc6 (B:=w.heap.size+1+1) hwg _ om) (lt_of_block kp)).trans kp;refine ⟨?_,?_,?_,?_,?_,?_⟩
    ·rw [cell_of_row V _ 0 _ _ _ ka'];rfl
    ·rw [cell_of_row V _ 1 _ _ _ ka'];rfl
    ·rw [cell_of_row V _ 0 _ _ _ kp'];rfl
    ·rw [cell_of_row V _ 1 _ _ _ kp'];rfl
    ·rw [cell_of_row V _ 2 _ _ _ kp'];rfl
    ·rw [cell_of_row V _ 3 _ _ _ kp'];rfl
   have h03:Below w.heap.size w W3:=HB1.out.trans (h13.mono HB1.out.size)
   have HXC:Hid (∀bs V,Wc g (g+1) (.slice none 0 0) W3 bs V→Sl fB V B a n xs∧Sl fT V B a' m ys∧B≤V.heap.size):=fun bs V h=>by
    have hB3:=Nat.le_trans HBB.out h03.size;exact ⟨h.sl (HX.out.1.up h03 HBB.out) hB3 (yc6 (by have:=HBB.out;omega)),h.sl (HX.out.2.1.up h03 HBB.out) hB3 (yc6 (by have:=HBB.out;omega)),Nat.le_trans hB3 h.size⟩
   have HFT:Hid (∀v',NewRow (.slice none 0 0) v' W3→∀k,k < B→¬foot g v' k):=fun v' hn k hk=>foot_still hn (yc6 (B:=B) (by have:=HBB.out;omega) k hk) (Nat.lt_of_lt_of_le (Nat.lt_of_lt_of_le hk HBB.out) h03.size)
   have HBW:Hid (∀bs V,Wc g (g+1) (.slice none 0 0) W3 bs V→Below w.heap.size w V):=fun bs V h=>by
    obtain ⟨v1,_,hb,_⟩:=h
    exact h03.trans (hb.below h03.size (fun i hi=>by
     rcases hi with rfl |hi
     ·omega
     ·cases hi))
   have HW3:=lh hW3;have HG:=lh hg;clear hg hW3 h23 h13 hs3 ka kp h03
   go_wp2_with fail
   refine (ybR W2).mono ?_;rintro e V1 ⟨rfl,hV1⟩;rw [←HW3.out] at hV1;subst hV1;rw [←HG.out];obtain ⟨k0,k1,k2,k3,k4,k5⟩:=HCB.out _ _ H0.out;have HC1:=lh (H0.out.step (P:=Tryz.prog) (fun v' hv' _=>ybp g (g+1) v' _ d W3 hv' om sI))
   go_wp2_with fail
   refine HC1.out.mono ?_;rintro e V2 ⟨rfl,hV2⟩;clear k0 k1 k2 k3 k4 k5;obtain ⟨k0,k1,k2,k3,k4,k5⟩:=HCB.out _ _ hV2;obtain ⟨x1,x2,x3⟩:=HXC.out _ _ hV2;have HC2:=lh (hV2.step (P:=Tryz.prog) (fun v' hv' hn=>ybp g (g+1) v' _ q V2 hv' om yao));clear hV2 x1 x2 x3
   go_wp2_with fail
   refine HC2.out.mono ?_;rintro e V3 ⟨rfl,hV3⟩;clear k0 k1 k2 k3 k4 k5;obtain ⟨k0,k1,k2,k3,k4,k5⟩:=HCB.out _ _ hV3;obtain ⟨x1,x2,x3⟩:=HXC.out _ _ hV3;have HC3:=lh (hV3.step (P:=Tryz.prog) (fun v' hv' hn=>wid_any g (g+1) v' _ s ix V3 hv' z1 om yao));clear hV3 x1 x2 x3
   go_wp2_with fail
   refine HC3.out.mono ?_;rintro e V4 ⟨rfl,hV4⟩;clear k0 k1 k2 k3 k4 k5;obtain ⟨k0,k1,k2,k3,k4,k5⟩:=HCB.out _ _ hV4;obtain ⟨x1,x2,x3⟩:=HXC.out _ _ hV4;have HC4:=lh (hV4.step (P:=Tryz.prog) (fun v' hv' hn=>wbytes_any g (g+1) v' _ a n c B xs V4 hv' x1 x3 (HFT.out v' hn) om yao));clear hV4 x1 x2 x3
   go_wp2_with fail
   refine HC4.out.mono ?_;rintro e V5 ⟨rfl,hV5⟩;clear k0 k1 k2 k3 k4 k5;obtain ⟨k0,k1,k2,k3,k4,k5⟩:=HCB.out _ _ hV5;obtain ⟨x1,x2,x3⟩:=HXC.out _ _ hV5;have HC5:=lh (hV5.step (P:=Tryz.prog) (fun v' hv' hn=>wcount_any g (g+1) v' _ m V5 hv' om (by simp only [List.length_append,List.length_nil];have:=ya1 d;have:=ya1 q;have:=ya1 ix;have:=ya9 s;have:=ya1 n;have:=HXN.out;omega)));clear hV5 x1 x2 x3
   go_wp2_with fail
   refine HC5.out.mono ?_;rintro e V6 ⟨rfl,hV6⟩;clear k0 k1 k2 k3 k4 k5;obtain ⟨k0,k1,k2,k3,k4,k5⟩:=HCB.out _ _ hV6;obtain ⟨L,hL⟩:∃L,L=([]++enc d++enc q++(sB s++enc ix)++(enc n++xs)++enc m:List Int):=⟨_,rfl⟩
   rw [←hL] at hV6;have hLl:L.length≤70000:=by rw [hL];simp only [List.length_append,List.length_nil];have:=ya1 d;have:=ya1 q;have:=ya1 ix;have:=ya9 s;have:=ya1 n;have:=ya1 m;have:=HXN.out;omega
   have HLE:=lh hL;have H6:=lh hV6;clear hV6 hL
   go_wp2_with fail
   clear k0 k1 k2 k3 k4 k5
   go_loopw [47] (fun i wr=>∃k:Nat,k≤m∧i= .int .i64 k∧Hid (Wc g (g+1) (.slice none 0 0) W3 (L++(ys.take k).flatMap sB) wr)) (fun i _=>m - (intOf i).toNat)
   case atStart=>exact ⟨0,by omega,rfl,by show Wc _ _ _ _ _ _;simpa using H6.out⟩
   case round=>
    obtain ⟨k,hk,rfl,HK⟩:=hrel
    by_cases hlt:k < m
    ·obtain ⟨x1,x2,x3⟩:=HXC.out _ _ HK.out
     obtain ⟨b,off,x,hax,_,hxk,hxc⟩:=x2.2.at_ (k:=k) (by rw [HYN.out];exact hlt);subst hax;have hkI:(k:Int) < (m:Int):=by omega
     have hxs:=HSU.out x (List.mem_of_getElem? hxk);have HT:Hid (L++(ys.take k).flatMap sB++sB x=L++(ys.take (k+1)).flatMap sB):=by show _=_;rw [flat_snoc hxk,List.append_assoc]
     have hfl:((ys.take k).flatMap sB).length=32*(ys.take k).length:=yby (fun s hs=>HSU.out s (List.mem_of_mem_take hs));rw [List.length_take] at hfl;have HC:=lh (HK.out.step (P:=Tryz.prog) (fun v' hv' _=>ydA g (g+1) v' _ x wr hv' hxs (by rw [List.length_append];omega)));clear x1 x2 x3 hxk hxs hfl
     go_wp2_with fail
     refine HC.out.mono ?_;rintro e w2 ⟨rfl,h2⟩;rw [HT.out] at h2;have H2:=lh h2;clear h2;go_wp2
     go_roundw
     case rel=>exact ⟨k+1,by omega,by go_num,H2⟩
     case measure=>simp [intOf];omega
    ·obtain rfl:k=m:=by omega
     have hK:=HK.out;rw [List.take_of_length_le (by rw [HYN.out];exact Nat.le_refl _)] at hK;have hfl:(ys.flatMap sB).length=32*ys.length:=yby HSU.out;have hyn:=HYN.out;obtain ⟨v9,hw9,_,_⟩:=hK;have HBK:=lh (HBW.out _ _ HK.out);have HD:=lh (ycP g (g+1) v9 _ wr hw9 (by rw [List.length_append];omega))
     have HEQ:Hid (L++ys.flatMap sB=encA (d:Int).toNat (q:Int).toNat s (ix:Int).toNat xs ys):=by
      show _=_
      rw [HLE.out];unfold encA;simp only [Int.toNat_natCast,HXN.out,HYN.out,List.append_assoc,List.nil_append]
     rw [HEQ.out] at HD;clear hw9 hfl hyn
     go_wp2_with fail
     refine HD.out.mono ?_;rintro e V9 ⟨A9,n9,c9,rfl,q1,q2,q3⟩;have Q1:=lh q1;have Q2:=lh q2;have Q3:=lh q3;clear q1 q2 q3
     go_wp2_with fail
     go_ret2;exact .inl ⟨rfl,A9,n9,c9,rfl,Q1.out,Q2.out,HBK.out.trans (Q3.out.mono HBK.out.size)⟩
