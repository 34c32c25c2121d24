/- wire.Reader.Fail; readUint, readID. -/
import Derived.Test.YtpdledjgbgalcaaGreatDoorMc
import Derived.Test.YtpdledjgbgalcaaGreatDoorPf
namespace Go.Proofs.YtpdledjgbgalcaaGreatDoor
set_option maxRecDepth 20000
set_option maxHeartbeats 2000000
open Go.RowKit Go.Lib
set_option linter.unusedVariables false
set_option linter.unusedSimpArgs false
theorem fail_ok (g:Nat) (A:Option Addr) (n c p q:Nat) (w:World) (hr:Rd w g A n c p (q:Int) 0):
 Calls Tryz.prog 210 #[.pointer (some ⟨g,0,none⟩)] w fun e w'=>e= .returned (.tuple #[])∧Rd w' g A n c q (q:Int) 3∧But (fun k=>k=g) w w':=by
 have c3:=cell_of_row w g 3 _ _ _ hr
 have f1:=frozen_of_row w g 1 _ _ hr
 have f3:=frozen_of_row w g 3 _ _ hr
 simp at c3
 have h1:Rd (w.setCell ⟨g,3,none⟩ (.int .i64 3)) g A n c p (q:Int) 3:=heap_setCell_same _ _ 3 _ _ (.int .i64 3) hr
 have d2:=cell_of_row _ g 2 _ _ _ h1
 simp at d2
 have H2:Hid (Rd ((w.setCell ⟨g,3,none⟩ (.int .i64 3)).setCell ⟨g,1,none⟩ (.int .i64 (q:Int))) g A n c q (q:Int) 3):=heap_setCell_same _ _ 1 _ _ (.int .i64 (q:Int)) h1
 have HB:Hid (But (fun k=>k=g) w ((w.setCell ⟨g,3,none⟩ (.int .i64 3)).setCell ⟨g,1,none⟩ (.int .i64 (q:Int)))):=But.setCell (p:=fun k=>k=g) (x:=⟨g,1,none⟩) (But.setCell (p:=fun k=>k=g) (x:=⟨g,3,none⟩) (But.refl _ _) (.inl rfl) _) (.inl rfl) _
 have c2:=cell_of_row w g 2 _ _ _ hr
 have c1:=cell_of_row w g 1 _ _ _ hr
 simp at c1 c2
 clear hr h1
 go_enter Tryz.func210,Tryz.ntmps210
 go_wp2
 go_end0
 exact ⟨rfl,H2.out,HB.out⟩
theorem fail_err (g:Nat) (A:Option Addr) (n c p:Nat) (pv er:Int) (w:World) (hr:Rd w g A n c p pv er) (he:er≠0):
 Calls Tryz.prog 210 #[.pointer (some ⟨g,0,none⟩)] w fun e w'=>e= .returned (.tuple #[])∧w=w':=by
 have heb:(er==0)=false:=by simp [he]
 have c3:=cell_of_row w g 3 _ _ _ hr
 simp at c3
 clear hr he
 go_enter Tryz.func210,Tryz.ntmps210
 go_wp2
 go_end0
 exact ⟨rfl,rfl⟩
theorem ru2_any (g:Nat) (A:Option Addr) (n c:Nat) (bs:List Int) (s:RS) (w:World) (hr:RdS g A n c bs s w) (hk:RK bs n c) (hp:s.1≤n):
 Calls Tryz.prog 82 #[.pointer (some ⟨g,0,none⟩)] w fun e w'=>e= .returned (.int .u64 (rU bs s).1)∧(∃pv,Rd w' g A n c (rU bs s).2.1 pv (rU bs s).2.2∧(s.2=0→pv=(s.1:Int)))∧Sl fB w' g A n bs∧But (fun k=>k=g) w w':=by
 obtain ⟨⟨pv,h1⟩,h2⟩:=hr
 obtain ⟨p,er⟩:=s
 have hgl:=Nat.le_of_lt (lt_of_block h1)
 by_cases h0:er=0
 ·subst h0
  refine (ruint_ok g A n c p pv bs w h1 h2 hk.1 hp hk.2.1).mono ?_
  rintro e w' ⟨rfl,k1,k2⟩
  have hx:=h2.butg k2 hgl
  unfold rU
  simp only [rV,if_true] at k1 ⊢
  split
  ·next hz=>
   rw [if_pos hz] at k1
   rw [hz] at k1
   exact ⟨rfl,⟨_,k1,fun _=>rfl⟩,hx,k2⟩
  ·next hz=>
   rw [if_neg hz] at k1
   exact ⟨rfl,⟨_,k1,fun _=>rfl⟩,hx,k2⟩
 ·refine (ruint_err g A n c p pv er w h1 h0).mono ?_
  rintro e w' ⟨rfl,k1,k2⟩
  unfold rU
  simp only [rV,h0,if_false]
  exact ⟨by first |rfl |trivial,⟨pv,k1,by first |trivial |exact fun h=>h.elim⟩,h2.butg (But.of_below k2) hgl,But.of_below k2⟩
def rN (a m:Nat) (bs:List Int) (s:RS):Int × RS:=if s.2=0∧(rU bs s).2.2=0 then (if (a:Int)≤(rU bs s).1∧(rU bs s).1≤(m:Int) then rU bs s else (0,(s.1,3))) else (0,(rU bs s).2)
theorem rU_nonneg (bs:List Int) (s:RS):0≤(rU bs s).1:=by
 unfold rU rV
 split
 ·split
  ·exact numF_nonneg ..
  ·exact Int.le_refl _
 ·exact Int.le_refl _
theorem rU_bad {bs:List Int} {s:RS} (h:¬(s.2=0∧(rU bs s).2.2=0)):(rU bs s).1=0∧(rU bs s).2.2≠0:=by
 unfold rU at h ⊢
 by_cases h1:s.2=0
 ·unfold rV at h ⊢
  rw [if_pos h1] at h ⊢
  by_cases h2:(numF bs 10 0 0 s.1).2.1=0
  ·rw [if_pos h2] at h;exact absurd ⟨h1,rfl⟩ h
  ·rw [if_neg h2];exact ⟨rfl,h2⟩
 ·unfold rV
  rw [if_neg h1];exact ⟨rfl,h1⟩
theorem rN_le {a m:Nat} {bs:List Int} {s:RS} {n:Nat} (hl:bs.length=n) (h:s.1≤n):(rN a m bs s).2.1≤n:=by
 have h1:=rU_le hl h
 unfold rN
 split
 ·split
  ·exact h1
  ·exact h
 ·exact h1
theorem rN_range {a m:Nat} {bs:List Int} {s:RS}:0≤(rN a m bs s).1∧(rN a m bs s).1≤(m:Int):=by
 unfold rN
 split
 ·split
  ·next h=>exact ⟨rU_nonneg _ _,h.2⟩
  ·exact ⟨Int.le_refl _,Int.natCast_nonneg _⟩
 ·exact ⟨Int.le_refl _,Int.natCast_nonneg _⟩
theorem rn_any (a m:Nat) (ha:a≤1) (hm:m≤1099511627776) (g:Nat) (A:Option Addr) (n c:Nat) (bs:List Int) (s:RS) (w:World) (hr:RdS g A n c bs s w) (hk:RK bs n c) (hp:s.1≤n):
 Calls Tryz.prog 169 #[.pointer (some ⟨g,0,none⟩),.int .i64 a,.int .i64 m] w (RPost g A n c bs (.int .i64 (rN a m bs s).1) (rN a m bs s).2 w):=by
 have HC:=Lib.hid (ru2_any g A n c bs s w hr hk hp)
 have hnn:=rU_nonneg bs s
 have hbad:=rU_bad (bs:=bs) (s:=s)
 have hgl:Hid (g < w.heap.size):=hr.lt
 have ham:(a:Int) % 18446744073709551616=a:=by omega
 have hmm:(m:Int) % 18446744073709551616=m:=by omega
 unfold rN
 obtain ⟨z,s',hz⟩:∃z s',rU bs s=(z,s'):=⟨_,_,rfl⟩
 rw [hz] at HC hnn hbad ⊢
 dsimp only at hnn hbad
 clear hr hz hk hp
 by_cases hok:s.2=0∧s'.2=0
 ·obtain ⟨h1,h2⟩:=hok
  rw [if_pos ⟨h1,h2⟩]
  have HC2:Hid (Calls Tryz.prog 82 #[.pointer (some ⟨g,0,none⟩)] w fun e w'=>e= .returned (.int .u64 z)∧Rd w' g A n c s'.1 (s.1:Int) 0∧Sl fB w' g A n bs∧But (fun k=>k=g) w w'):=HC.out.mono (fun e w' ⟨k1,⟨pv,k2,k3⟩,k4,k5⟩=>by
   rw [k3 h1] at k2
   exact ⟨k1,(by rw [←h2];exact k2),k4,k5⟩)
  obtain ⟨q,q2⟩:=s'
  obtain ⟨p,p2⟩:=s
  dsimp only at h1 h2 HC2 hbad
  subst h1
  subst h2
  clear HC hbad
  have HFL:Hid (∀w1,Rd w1 g A n c q (p:Int) 0∧Sl fB w1 g A n bs∧But (fun k=>k=g) w w1→Calls Tryz.prog 210 #[.pointer (some ⟨g,0,none⟩)] w1 fun e w'=>e= .returned (.tuple #[])∧RdS g A n c bs (p,3) w'∧But (fun k=>k=g) w w'):=fun w1 ⟨k1,k2,k3⟩=>
   (fail_ok g A n c q p w1 k1).mono (fun e w' ⟨j1,j2,j3⟩=>⟨j1,⟨⟨_,j2⟩,k2.butg j3 (Nat.le_trans (Nat.le_of_lt hgl.out) k3.size)⟩,k3.trans j3 (fun i hi=> .inl hi)⟩)
  by_cases hlo:z < (a:Int)
  ·rw [if_neg (by omega)]
   go_enter Tryz.func169,Tryz.ntmps169
   go_wp2_with (first
    |(go_at_call 82;(with_reducible refine HC2.out.mono ?_);rintro e w1 ⟨rfl,k⟩;have K:=Lib.hid k;clear k)
    |(go_at_call 210;(with_reducible refine (HFL.out _ K.out).mono ?_);rintro e w2 ⟨rfl,k⟩;have K2:=Lib.hid k;clear k))
   go_ret
   exact ⟨rfl,K2.out.1,K2.out.2⟩
  ·by_cases hhi:(m:Int) < z
   ·rw [if_neg (by omega)]
    go_enter Tryz.func169,Tryz.ntmps169
    go_wp2_with (first
     |(go_at_call 82;(with_reducible refine HC2.out.mono ?_);rintro e w1 ⟨rfl,k⟩;have K:=Lib.hid k;clear k)
     |(go_at_call 210;(with_reducible refine (HFL.out _ K.out).mono ?_);rintro e w2 ⟨rfl,k⟩;have K2:=Lib.hid k;clear k))
    go_ret
    exact ⟨rfl,K2.out.1,K2.out.2⟩
   ·rw [if_pos (by omega)]
    clear HFL
    go_enter Tryz.func169,Tryz.ntmps169
    go_wp2_with (first
     |(go_at_call 82;(with_reducible refine HC2.out.mono ?_);rintro e w1 ⟨rfl,k⟩;have K:=Lib.hid k;clear k))
    go_ret
    exact ⟨by first |rfl |exact ret_int (show wrap64 z=z by unfold wrap64;omega),⟨⟨_,K.out.1⟩,K.out.2.1⟩,K.out.2.2⟩
 ·rw [if_neg hok]
  obtain ⟨hz0,he⟩:=hbad hok
  have HC2:Hid (Calls Tryz.prog 82 #[.pointer (some ⟨g,0,none⟩)] w fun e w'=>e= .returned (.int .u64 0)∧RdS g A n c bs s' w'∧But (fun k=>k=g) w w'):=HC.out.mono (fun e w' ⟨k1,⟨pv,k2,k3⟩,k4,k5⟩=>⟨by rw [k1,hz0],⟨⟨pv,k2⟩,k4⟩,k5⟩)
  have HFL:Hid (∀w1,RdS g A n c bs s' w1∧But (fun k=>k=g) w w1→Calls Tryz.prog 210 #[.pointer (some ⟨g,0,none⟩)] w1 fun e w'=>e= .returned (.tuple #[])∧w1=w'):=fun w1 ⟨⟨⟨pv,k1⟩,k2⟩,k3⟩=>fail_err g A n c s'.1 pv s'.2 w1 k1 he
  have hmn:¬(m:Int) < 0:=by omega
  clear HC hbad hok hz0 he hnn
  rcases (show a=0∨a=1 by omega) with rfl |rfl
  ·go_enter Tryz.func169,Tryz.ntmps169
   go_wp2_with (first
    |(go_at_call 82;(with_reducible refine HC2.out.mono ?_);rintro e w1 ⟨rfl,k⟩;have K:=Lib.hid k;clear k))
   go_ret
   exact ⟨rfl,K.out.1,K.out.2⟩
  ·go_enter Tryz.func169,Tryz.ntmps169
   go_wp2_with (first
    |(go_at_call 82;(with_reducible refine HC2.out.mono ?_);rintro e w1 ⟨rfl,k⟩;have K:=Lib.hid k;clear k)
    |(go_at_call 210;(with_reducible refine (HFL.out _ K.out).mono ?_);rintro e w2 ⟨rfl,rfl⟩))
   go_ret
   exact ⟨rfl,K.out.1,K.out.2⟩
def rId (bs:List Int) (s:RS):(ByteArray × Int) × RS:=(((rS bs s).1,(rN 0 15 bs (rS bs s).2).1),(rN 0 15 bs (rS bs s).2).2)
theorem rId_le {bs:List Int} {s:RS} {n:Nat} (hl:bs.length=n) (h:s.1≤n):(rId bs s).2.1≤n:=rN_le hl (rS_le hl h)
theorem Tryz.sizePid:(Tryz.prog.info? 31).map (·.size)=some 2:=by kernel_rfl
theorem pid_one (s:ByteArray) (ix:Int):(#[.string s,.int .i64 ix]:Array Value).all (·.oneCell')=true:=by
 rw [Array.all_eq_true']
 intro x hx
 simp at hx
 rcases hx with rfl |rfl<;>rfl
theorem pid_size (s:ByteArray) (ix:Int):(Tryz.prog.info? 31).map (·.size)=some (#[.string s,.int .i64 ix]:Array Value).size:=Tryz.sizePid
theorem pid_sz (s:ByteArray) (ix:Int):(#[.string ⟨#[]⟩,.int .i64 0]:Array Value).size=(#[.string s,.int .i64 ix]:Array Value).size:=rfl
theorem rid_any (g:Nat) (A:Option Addr) (n c:Nat) (bs:List Int) (s:RS) (w:World) (hr:RdS g A n c bs s w) (hk:RK bs n c) (hp:s.1≤n):
 Calls Tryz.prog 170 #[.pointer (some ⟨g,0,none⟩)] w (RPost g A n c bs (.agg #[.string (rId bs s).1.1,.int .i64 (rId bs s).1.2]) (rId bs s).2 w):=by
 have hl:=hr.len
 have hgl:=hr.lt
 obtain ⟨W,hW⟩:∃W:World,W=w.alloc (.cells #[.string ⟨#[]⟩,.int .i64 0] 31):=⟨_,rfl⟩
 have hBW:Below w.heap.size w W:=by rw [hW];exact (Below.refl _ _).alloc (Nat.le_refl _) _
 have hZ:W.heap[w.heap.size]? =some (.cells #[.string ⟨#[]⟩,.int .i64 0] 31 (0,0)):=by rw [hW];exact heap_alloc_new w _
 have HC1:=Lib.hid (rs_any g A n c bs s W (hr.on hBW) hk hp)
 have hp1:=rS_le hl hp
 have HD:Hid (rId bs s=(((rS bs s).1,(rN 0 15 bs (rS bs s).2).1),(rN 0 15 bs (rS bs s).2).2)):=rfl
 rw [HD.out]
 obtain ⟨st,s1,e1⟩:∃z s',rS bs s=(z,s'):=⟨_,_,rfl⟩
 rw [e1] at HC1 hp1 ⊢
 have HC2:Hid (∀V,RdS g A n c bs s1 V→Calls Tryz.prog 169 #[.pointer (some ⟨g,0,none⟩),.int .i64 0,.int .i64 15] V (RPost g A n c bs (.int .i64 (rN 0 15 bs s1).1) (rN 0 15 bs s1).2 V)):=fun V hV=>rn_any 0 15 (by decide) (by decide) g A n c bs s1 V hV hk hp1
 obtain ⟨ix,s2,e2⟩:∃z s',rN 0 15 bs s1=(z,s'):=⟨_,_,rfl⟩
 dsimp only
 rw [e2] at HC2 ⊢
 have HZ:=Lib.hid hZ
 have HBW:=Lib.hid hBW
 have HWE:=Lib.hid hW
 have HGL:=Lib.hid hgl
 rw [hW] at HC1
 clear hr hk hl hBW hZ hW e1 e2 HD hp hp1 hgl
 go_enter Tryz.func170,Tryz.ntmps170
 go_wp2_with (first
  |(go_at_call 172;(with_reducible refine HC1.out.mono ?_);rintro e w1 ⟨rfl,r1,b1⟩
    rw [←HWE.out] at b1
    have HG1:Hid (w1.heap[w.heap.size]? =some (.cells #[.string ⟨#[]⟩,.int .i64 0] 31 (0,0))):=(b1.block _ (lt_of_block HZ.out) (by have:=HGL.out;omega)).trans HZ.out
    have R1:=Lib.hid r1
    have B1:Hid (But (fun k=>k=g) w w1):=(But.of_below HBW.out).trans b1 (fun i hi=> .inl hi)
    clear r1 b1)
  |(go_at_call 169;(with_reducible refine (HC2.out _ R1.out).mono ?_);rintro e w2 ⟨rfl,r2,b2⟩
    have HG2:Hid (w2.heap[w.heap.size]? =some (.cells #[.string ⟨#[]⟩,.int .i64 0] 31 (0,0))):=(b2.block _ (lt_of_block HG1.out) (by have:=HGL.out;omega)).trans HG1.out
    have R2:=Lib.hid r2
    have B2:Hid (But (fun k=>k=g) w w2):=B1.out.trans b2 (fun i hi=> .inl hi)
    clear r2 b2)
  |((with_reducible refine wpList_store_but (o:=⟨none,_,_,_,_,_⟩) rfl 31 (.tmp 2) (.tmp 9) rfl w.heap.size 31 _ _ rfl rfl HG2.out (pid_size _ _) (pid_sz _ _) (pid_one _ _) ?_);intro W7 HG7 HB7))
 refine bodyPost_ret (results_cell_row rfl _ _ _ _ _ _ _ rfl HG7.out Tryz.underlying31 rfl (pid_size _ _)) rfl ⟨rfl,?_,?_⟩
 ·exact R2.out.but HB7.out (fun k hk h=>by have:=HGL.out;omega)
 ·exact B2.out.trans HB7.out (fun i hi=> .inr (by omega))
