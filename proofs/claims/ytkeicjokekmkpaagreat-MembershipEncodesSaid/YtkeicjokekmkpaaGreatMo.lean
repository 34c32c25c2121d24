/- readChange. apply: a change that was read is performed. -/
import Derived.Test.YtkeicjokekmkpaaGreatRi
import Derived.Test.YtkeicjokekmkpaaGreatMk
import Derived.Test.YtkeicjokekmkpaaGreatMj
import Derived.Test.YtkeicjokekmkpaaGreatRv
namespace Go.Proofs.YtkeicjokekmkpaaGreat
open Go.RowKit Mb
set_option linter.unusedVariables false
set_option linter.unusedSimpArgs false

/-- A change, or none. -/
def oC : Option Chg → Value
  | none => .nilIface
  | some c => fC c
set_option maxRecDepth 20000 in
set_option maxHeartbeats 1000000 in
theorem rchg_any (g : Nat) (A : Option Addr) (n c : Nat) (bs : List Int) (s : RS) (N : Int) (w : World) (hr : RdS g A n c bs s w) (hk : RK bs n c) (hp : s.1 ≤ n) :
    Calls Tryz.prog 43 #[.pointer (some ⟨g, 0, none⟩), .int .i64 N] w (RPost g A n c bs (oC (decX bs N s).1) (decX bs N s).2 w) := by
  have hl := hr.len
  have HC := Lib.hid (ru_any g A n c bs s w hr hk hp)
  have hp1 := rU_le hl hp
  have HD : Hid (decX bs N s = if (rU bs s).1 = 1 then (some (.adm (decM bs N (rU bs s).2).1), (decM bs N (rU bs s).2).2)
    else if (rU bs s).1 = 2 then (some (.bal (rI bs (rU bs s).2).1 (rI bs (rI bs (rU bs s).2).2).1), (rI bs (rI bs (rU bs s).2).2).2)
    else if (rU bs s).1 = 3 then (some (.rep (rI bs (rU bs s).2).1 (rI bs (rI bs (rU bs s).2).2).1 (rI bs (rI bs (rI bs (rU bs s).2).2).2).1), (rI bs (rI bs (rI bs (rU bs s).2).2).2).2)
    else (none, (rU bs s).2)) := rfl
  obtain ⟨z, s1, e1⟩ : ∃ z s', rU bs s = (z, s') := ⟨_, _, rfl⟩
  rw [e1] at HC HD hp1
  rw [HD.out]
  have HK := Lib.hid hk
  have hp2 := rI_le hl hp1
  have hp3 := rI_le hl hp2
  clear hr hk e1 HD
  simp only at hp1
  by_cases h1 : z = 1
  · subst h1
    simp only [if_true]
    obtain ⟨m, s2, e2⟩ : ∃ z s', decM bs N s1 = (z, s') := ⟨_, _, rfl⟩
    rw [e2]
    have HE2 := Lib.hid e2
    clear e2
    go_enter Tryz.func43, Tryz.ntmps43
    go_wp2_with fail
    refine HC.out.mono ?_
    rintro e w1 ⟨rfl, r1, b1⟩
    have HB1 := Lib.hid b1
    have HM := Lib.hid (rdmem_any g A n c bs s1 N w1 r1 HK.out hp1)
    rw [HE2.out] at HM
    clear r1 b1
    go_wp2_with fail
    refine HM.out.mono ?_
    rintro e w2 ⟨rfl, r2, b2⟩
    have HR2 := Lib.hid r2
    have HB2 : Hid (But (fun k => k = g) w w2) := HB1.out.trans b2 (fun i hi => .inl hi)
    clear r2 b2
    go_wp2_with fail
    go_ret
    exact ⟨rfl, HR2.out, HB2.out⟩
  · have e1 : (z == 1) = false := by simpa using h1
    simp only [h1, if_false]
    by_cases h2 : z = 2
    · subst h2
      simp only [if_true]
      obtain ⟨a, s2, q2⟩ : ∃ z s', rI bs s1 = (z, s') := ⟨_, _, rfl⟩
      rw [q2] at hp2 ⊢
      simp only at hp2
      have HE_s2 := Lib.hid q2
      clear q2
      obtain ⟨b, s3, q3⟩ : ∃ z s', rI bs s2 = (z, s') := ⟨_, _, rfl⟩
      rw [q3]
      have HE_s3 := Lib.hid q3
      clear q3
      go_enter Tryz.func43, Tryz.ntmps43
      go_wp2_with fail
      refine HC.out.mono ?_
      rintro e w1 ⟨rfl, r1, b1⟩
      have HB1 := Lib.hid b1
      have HM := Lib.hid (ri_any g A n c bs s1 w1 r1 HK.out hp1)
      rw [HE_s2.out] at HM
      clear r1 b1
      go_wp2_with fail
      refine HM.out.mono ?_
      rintro e w2 ⟨rfl, r2, b2⟩
      have HB2 : Hid (But (fun k => k = g) w w2) := HB1.out.trans b2 (fun i hi => .inl hi)
      have HM2 := Lib.hid (ri_any g A n c bs s2 w2 r2 HK.out hp2)
      rw [HE_s3.out] at HM2
      clear r2 b2
      go_wp2_with fail
      refine HM2.out.mono ?_
      rintro e w3 ⟨rfl, r3, b3⟩
      have HR3 := Lib.hid r3
      have HB3 : Hid (But (fun k => k = g) w w3) := HB2.out.trans b3 (fun i hi => .inl hi)
      clear r3 b3
      go_wp2_with fail
      go_ret
      exact ⟨rfl, HR3.out, HB3.out⟩
    · have e2 : (z == 2) = false := by simpa using h2
      simp only [h2, if_false]
      by_cases h3 : z = 3
      · subst h3
        simp only [if_true]
        obtain ⟨v, s2, q2⟩ : ∃ z s', rI bs s1 = (z, s') := ⟨_, _, rfl⟩
        rw [q2] at hp2 hp3 ⊢
        simp only at hp2 hp3
        have HE_s2 := Lib.hid q2
        clear q2
        obtain ⟨a, s3, q3⟩ : ∃ z s', rI bs s2 = (z, s') := ⟨_, _, rfl⟩
        rw [q3] at hp3 ⊢
        simp only at hp3
        have HE_s3 := Lib.hid q3
        clear q3
        obtain ⟨b, s4, q4⟩ : ∃ z s', rI bs s3 = (z, s') := ⟨_, _, rfl⟩
        rw [q4]
        have HE_s4 := Lib.hid q4
        clear q4
        go_enter Tryz.func43, Tryz.ntmps43
        go_wp2_with fail
        refine HC.out.mono ?_
        rintro e w1 ⟨rfl, r1, b1⟩
        have HB1 := Lib.hid b1
        have HM := Lib.hid (ri_any g A n c bs s1 w1 r1 HK.out hp1)
        rw [HE_s2.out] at HM
        clear r1 b1
        go_wp2_with fail
        refine HM.out.mono ?_
        rintro e w2 ⟨rfl, r2, b2⟩
        have HB2 : Hid (But (fun k => k = g) w w2) := HB1.out.trans b2 (fun i hi => .inl hi)
        have HM2 := Lib.hid (ri_any g A n c bs s2 w2 r2 HK.out hp2)
        rw [HE_s3.out] at HM2
        clear r2 b2
        go_wp2_with fail
        refine HM2.out.mono ?_
        rintro e w3 ⟨rfl, r3, b3⟩
        have HB3 : Hid (But (fun k => k = g) w w3) := HB2.out.trans b3 (fun i hi => .inl hi)
        have HM3 := Lib.hid (ri_any g A n c bs s3 w3 r3 HK.out hp3)
        rw [HE_s4.out] at HM3
        clear r3 b3
        go_wp2_with fail
        refine HM3.out.mono ?_
        rintro e w4 ⟨rfl, r4, b4⟩
        have HR4 := Lib.hid r4
        have HB4 : Hid (But (fun k => k = g) w w4) := HB3.out.trans b4 (fun i hi => .inl hi)
        clear r4 b4
        go_wp2_with fail
        go_ret
        exact ⟨rfl, HR4.out, HB4.out⟩
      · have e3 : (z == 3) = false := by simpa using h3
        simp only [h3, if_false]
        go_enter Tryz.func43, Tryz.ntmps43
        go_wp2_with fail
        refine HC.out.mono ?_
        rintro e w1 ⟨rfl, r1, b1⟩
        have HR1 := Lib.hid r1
        have HB1 := Lib.hid b1
        clear r1 b1
        go_wp2_with fail
        go_ret
        exact ⟨rfl, HR1.out, HB1.out⟩
end Go.Proofs.YtkeicjokekmkpaaGreat
namespace Go.Proofs.YtkeicjokekmkpaaGreat
open Go.RowKit Mb
set_option linter.unusedVariables false
set_option linter.unusedSimpArgs false

theorem adm_apply (g : Nat) (lab : Nat → Nat) (S : Cst) (m : Mem) (w : World) (hC : Cir w lab g S) (hI : Inv S.s) (hch : S.chs.length ≤ 1000000) (hs : m.name.size ≤ 9223372036854775807) (hp : m.pub.size ≤ 9223372036854775807) :
    Calls Tryz.prog 142 #[aM m, fG g] w (MutP (admC S m) lab g (.int .i64 (admE S.s m)) w) := by
  obtain ⟨W, hW⟩ : ∃ W : World, W = w.alloc (.cells #[.int .i64 m.dev, .string m.name, .string m.pub, .int .i64 m.quota, .bool m.exp] 88) := ⟨_, rfl⟩
  have hB : Below w.heap.size w W := by rw [hW]; exact (Below.refl _ _).alloc (Nat.le_refl _) _
  have HC := Lib.hid (admit_any g lab S m W (hC.on hB) hI hch hs hp)
  have HB := Lib.hid hB
  have HW := Lib.hid hW
  clear hC hI hB hW
  go_enter Tryz.func142, Tryz.ntmps142
  go_wp2_with fail
  rw [← HW.out]
  refine HC.out.mono ?_
  rintro e w1 ⟨rfl, lab', h3, h4⟩
  have H3 := Lib.hid h3
  have H4 := Lib.hid h4
  clear h3 h4
  go_wp2_with fail
  go_ret
  exact ⟨rfl, lab', H3.out, (Fr.of_below HB.out).trans H4.out⟩
theorem bal_apply (g : Nat) (lab : Nat → Nat) (S : Cst) (a b : Int) (w : World) (hC : Cir w lab g S) (hI : Inv S.s) (hch : S.chs.length ≤ 1000000) (hvl : S.s.votes.length ≤ 1000000) :
    Calls Tryz.prog 143 #[.agg #[.int .i64 a, .int .i64 b], fG g] w (MutP (votC S a b) lab g (.int .i64 (votE S.s a b)) w) := by
  obtain ⟨W, hW⟩ : ∃ W : World, W = w.alloc (.cells #[.int .i64 a, .int .i64 b] 90) := ⟨_, rfl⟩
  have hB : Below w.heap.size w W := by rw [hW]; exact (Below.refl _ _).alloc (Nat.le_refl _) _
  have HC := Lib.hid (vote_any g lab S a b W (hC.on hB) hI hch hvl)
  have HB := Lib.hid hB
  have HW := Lib.hid hW
  clear hC hI hB hW
  go_enter Tryz.func143, Tryz.ntmps143
  go_wp2_with fail
  rw [← HW.out]
  refine HC.out.mono ?_
  rintro e w1 ⟨rfl, lab', h3, h4⟩
  have H3 := Lib.hid h3
  have H4 := Lib.hid h4
  clear h3 h4
  unfold votR
  go_wp2_with fail
  go_ret
  exact ⟨rfl, lab', H3.out, (Fr.of_below HB.out).trans H4.out⟩
theorem rep_apply (g : Nat) (lab : Nat → Nat) (S : Cst) (v a b : Int) (w : World) (hC : Cir w lab g S) (hI : Inv S.s) (hch : S.chs.length ≤ 1000000) :
    Calls Tryz.prog 144 #[.agg #[.int .i64 v, .int .i64 a, .int .i64 b], fG g] w (MutP (repC S v a b) lab g (.int .i64 (repE S.s v a b)) w) := by
  obtain ⟨W, hW⟩ : ∃ W : World, W = w.alloc (.cells #[.int .i64 v, .int .i64 a, .int .i64 b] 92) := ⟨_, rfl⟩
  have hB : Below w.heap.size w W := by rw [hW]; exact (Below.refl _ _).alloc (Nat.le_refl _) _
  have HC := Lib.hid (replace_any g lab S v a b W (hC.on hB) hI hch)
  have HB := Lib.hid hB
  have HW := Lib.hid hW
  clear hC hI hB hW
  go_enter Tryz.func144, Tryz.ntmps144
  go_wp2_with fail
  rw [← HW.out]
  refine HC.out.mono ?_
  rintro e w1 ⟨rfl, lab', h3, h4⟩
  have H3 := Lib.hid h3
  have H4 := Lib.hid h4
  clear h3 h4
  go_wp2_with fail
  go_ret
  exact ⟨rfl, lab', H3.out, (Fr.of_below HB.out).trans H4.out⟩
theorem mt_adm (v : Value) (w : World) : (method 300 88 v ((Tryz.t88.methods.getD 0 default).name)).run Tryz.prog w = .ok (142, v) w := by kernel_rfl
theorem mt_bal (v : Value) (w : World) : (method 300 90 v ((Tryz.t90.methods.getD 0 default).name)).run Tryz.prog w = .ok (143, v) w := by kernel_rfl
theorem mt_rep (v : Value) (w : World) : (method 300 92 v ((Tryz.t92.methods.getD 0 default).name)).run Tryz.prog w = .ok (144, v) w := by kernel_rfl
/-- The function and its receiver. -/
def apF : Chg → FuncId
  | .adm _ => 142
  | .bal _ _ => 143
  | .rep _ _ _ => 144
def apV : Chg → Value
  | .adm m => aM m
  | .bal a b => .agg #[.int .i64 a, .int .i64 b]
  | .rep v a b => .agg #[.int .i64 v, .int .i64 a, .int .i64 b]
def szX : Chg → Prop
  | .adm m => m.name.size ≤ 9223372036854775807 ∧ m.pub.size ≤ 9223372036854775807
  | _ => True
theorem apply_any (g : Nat) (lab : Nat → Nat) (S : Cst) (c : Chg) (w : World) (hC : Cir w lab g S) (hI : Inv S.s) (hch : S.chs.length ≤ 1000000) (hvl : S.s.votes.length ≤ 1000000) (hs : szX c) :
    Calls Tryz.prog (apF c) #[apV c, fG g] w (MutP (playC S (toChn c)) lab g (.int .i64 (playE S.s (toChn c))) w) := by
  cases c with
  | adm m =>
    rw [playC_adm rfl]
    exact adm_apply g lab S m w hC hI hch hs.1 hs.2
  | bal a b =>
    rw [playC_vot rfl]
    exact bal_apply g lab S a b w hC hI hch hvl
  | rep v a b =>
    rw [playC_rep (by simp [toChn]) (by simp [toChn])]
    exact rep_apply g lab S v a b w hC hI hch
theorem tk_size {bs : List Int} {k p : Nat} : (tkF bs k p).1.size ≤ bs.length := by
  rw [tkF_eq]
  split
  · exact Nat.zero_le _
  · show (baOf ((bs.drop p).take k)).size ≤ _
    have h := strOfNums_size ((bs.drop p).take k)
    unfold baOf
    rw [h, List.length_take, List.length_drop]
    omega
theorem blk_size {bs : List Int} {k p : Nat} : (blkF bs k p).1.size ≤ bs.length := by
  rw [blkF_eq]
  split
  · exact tk_size
  · exact Nat.zero_le _
theorem rT_size {bs : List Int} {m : Nat} {s : RS} : (rT bs m s).1.size ≤ bs.length := by
  unfold rT rV
  split
  · split
    · exact blk_size
    · exact Nat.zero_le _
  · exact Nat.zero_le _
theorem rS_size {bs : List Int} {s : RS} : (rS bs s).1.size ≤ bs.length := by
  unfold rS rV
  split
  · split
    · exact tk_size
    · exact Nat.zero_le _
  · exact Nat.zero_le _
theorem decX_size {bs : List Int} {N : Int} {s s' : RS} {c : Chg} (hn : bs.length ≤ 1000000) (h : decX bs N s = (some c, s')) : szX c := by
  unfold decX at h
  split at h
  · simp only [Prod.mk.injEq, Option.some.injEq] at h
    obtain ⟨rfl, _⟩ := h
    have h1 := rT_size (bs := bs) (m := 16) (s := (rU bs s).2)
    have h2 := rS_size (bs := bs) (s := (rT bs 16 (rU bs s).2).2)
    exact ⟨Nat.le_trans h1 (by omega), Nat.le_trans h2 (by omega)⟩
  · split at h
    · simp only [Prod.mk.injEq, Option.some.injEq] at h
      obtain ⟨rfl, _⟩ := h
      trivial
    · split at h
      · simp only [Prod.mk.injEq, Option.some.injEq] at h
        obtain ⟨rfl, _⟩ := h
        trivial
      · cases h
theorem decX_le {bs : List Int} {N : Int} {s : RS} {n : Nat} (hl : bs.length = n) (h : s.1 ≤ n) : (decX bs N s).2.1 ≤ n := by
  unfold decX
  split
  · exact rI_le hl (rS_le hl (rT_le hl (rU_le hl h)))
  · split
    · exact rI_le hl (rI_le hl (rU_le hl h))
    · split
      · exact rI_le hl (rI_le hl (rI_le hl (rU_le hl h)))
      · exact rU_le hl h
theorem decM_le {bs : List Int} {d : Int} {s : RS} {n : Nat} (hl : bs.length = n) (h : s.1 ≤ n) : (decM bs d s).2.1 ≤ n := rI_le hl (rS_le hl (rT_le hl h))
theorem decVt_le {bs : List Int} {d : Int} {s : RS} {n : Nat} (hl : bs.length = n) (h : s.1 ≤ n) : (decVt bs d s).2.1 ≤ n := by
  unfold decVt
  exact rI_le hl (rI_le hl (rI_le hl (rI_le hl (rI_le hl (rI_le hl (rI_le hl (rI_le hl (rS_le hl (rI_le hl (rI_le hl (rI_le hl (decLs_le (fun _ s h => rI_le hl h) (rC_le hl h) _))))))))))))
theorem decVt_ws {bs : List Int} {d : Int} {s : RS} : (decVt bs d s).1.ws.length ≤ 3 := by
  unfold decVt
  show (decLs (fun _ => rI bs) (rC bs 3 s).2 (rC bs 3 s).1.toNat).1.length ≤ 3
  rw [decLs_len]
  obtain ⟨cnt, h1, h2⟩ := rC_val (bs := bs) (m := 3) (s := s)
  omega
theorem decVt_print {bs : List Int} {d : Int} {s : RS} : (decVt bs d s).1.print.size ≤ bs.length := by
  unfold decVt
  exact rS_size
theorem decM_name {bs : List Int} {d : Int} {s : RS} : (decM bs d s).1.name.size ≤ bs.length ∧ (decM bs d s).1.pub.size ≤ bs.length := ⟨rT_size, rS_size⟩
theorem decLs_all {α : Type} {f : Nat → RS → α × RS} {p : α → Prop} (h : ∀ k s, p (f k s).1) (s : RS) : ∀ k, ∀ x ∈ (decLs f s k).1, p x
  | 0, x, hx => by cases hx
  | k + 1, x, hx => by
    rw [decLs] at hx
    rcases List.mem_append.1 hx with hx | hx
    · exact decLs_all h s k x hx
    · obtain rfl := List.mem_singleton.1 hx; exact h _ _
end Go.Proofs.YtkeicjokekmkpaaGreat
