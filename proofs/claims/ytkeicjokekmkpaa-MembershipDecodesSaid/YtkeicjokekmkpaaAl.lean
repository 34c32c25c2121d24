/- apply: a change that was read is performed. -/
import Derived.Test.YtkeicjokekmkpaaPy
import Derived.Test.YtkeicjokekmkpaaDm
import Derived.Test.YtkeicjokekmkpaaGm
import Derived.Test.YtkeicjokekmkpaaRv
namespace Go.Proofs.Ytkeicjokekmkpaa
open Go.RowKit Mb
set_option linter.unusedVariables false
set_option linter.unusedSimpArgs false

theorem adm_apply (g : Nat) (lab : Nat → Nat) (S : Cst) (m : Mem) (w : World) (hC : Cir w lab g S) (hI : Inv S.s) (hch : S.chs.length ≤ 1000000) (hs : m.name.size ≤ 9223372036854775807) (hp : m.pub.size ≤ 9223372036854775807) :
    Calls Try.prog 114 #[aM m, fG g] w (MutP (admC S m) lab g (.int .i64 (admE S.s m)) w) := by
  obtain ⟨W, hW⟩ : ∃ W : World, W = w.alloc (.cells #[.int .i64 m.dev, .string m.name, .string m.pub, .int .i64 m.quota, .bool m.exp] 82) := ⟨_, rfl⟩
  have hB : Below w.heap.size w W := by rw [hW]; exact (Below.refl _ _).alloc (Nat.le_refl _) _
  have HC := Lib.hid (admit_any g lab S m W (hC.on hB) hI hch hs hp)
  have HB := Lib.hid hB
  have HW := Lib.hid hW
  clear hC hI hB hW
  go_enter Try.func114, Try.ntmps114
  go_wp2_with fail
  rw [← HW.out]
  refine HC.out.mono ?_
  rintro e w1 ⟨rfl, lab', h3, h4⟩
  have H3 := Lib.hid h3
  have H4 := Lib.hid h4
  clear h3 h4
  go_wp2_with fail
  go_ret
  exact ⟨rfl, lab', H3.out, (Fr.of_below HB.out).trans H4.out⟩
theorem bal_apply (g : Nat) (lab : Nat → Nat) (S : Cst) (a b : Int) (w : World) (hC : Cir w lab g S) (hI : Inv S.s) (hch : S.chs.length ≤ 1000000) (hvl : S.s.votes.length ≤ 1000000) :
    Calls Try.prog 115 #[.agg #[.int .i64 a, .int .i64 b], fG g] w (MutP (votC S a b) lab g (.int .i64 (votE S.s a b)) w) := by
  obtain ⟨W, hW⟩ : ∃ W : World, W = w.alloc (.cells #[.int .i64 a, .int .i64 b] 84) := ⟨_, rfl⟩
  have hB : Below w.heap.size w W := by rw [hW]; exact (Below.refl _ _).alloc (Nat.le_refl _) _
  have HC := Lib.hid (vote_any g lab S a b W (hC.on hB) hI hch hvl)
  have HB := Lib.hid hB
  have HW := Lib.hid hW
  clear hC hI hB hW
  go_enter Try.func115, Try.ntmps115
  go_wp2_with fail
  rw [← HW.out]
  refine HC.out.mono ?_
  rintro e w1 ⟨rfl, lab', h3, h4⟩
  have H3 := Lib.hid h3
  have H4 := Lib.hid h4
  clear h3 h4
  unfold votR
  go_wp2_with fail
  go_ret
  exact ⟨rfl, lab', H3.out, (Fr.of_below HB.out).trans H4.out⟩
theorem rep_apply (g : Nat) (lab : Nat → Nat) (S : Cst) (v a b : Int) (w : World) (hC : Cir w lab g S) (hI : Inv S.s) (hch : S.chs.length ≤ 1000000) :
    Calls Try.prog 116 #[.agg #[.int .i64 v, .int .i64 a, .int .i64 b], fG g] w (MutP (repC S v a b) lab g (.int .i64 (repE S.s v a b)) w) := by
  obtain ⟨W, hW⟩ : ∃ W : World, W = w.alloc (.cells #[.int .i64 v, .int .i64 a, .int .i64 b] 86) := ⟨_, rfl⟩
  have hB : Below w.heap.size w W := by rw [hW]; exact (Below.refl _ _).alloc (Nat.le_refl _) _
  have HC := Lib.hid (replace_any g lab S v a b W (hC.on hB) hI hch)
  have HB := Lib.hid hB
  have HW := Lib.hid hW
  clear hC hI hB hW
  go_enter Try.func116, Try.ntmps116
  go_wp2_with fail
  rw [← HW.out]
  refine HC.out.mono ?_
  rintro e w1 ⟨rfl, lab', h3, h4⟩
  have H3 := Lib.hid h3
  have H4 := Lib.hid h4
  clear h3 h4
  go_wp2_with fail
  go_ret
  exact ⟨rfl, lab', H3.out, (Fr.of_below HB.out).trans H4.out⟩
theorem mt_adm (v : Value) (w : World) : (method 277 82 v ((Try.t82.methods.getD 0 default).name)).run Try.prog w = .ok (114, v) w := by kernel_rfl
theorem mt_bal (v : Value) (w : World) : (method 277 84 v ((Try.t84.methods.getD 0 default).name)).run Try.prog w = .ok (115, v) w := by kernel_rfl
theorem mt_rep (v : Value) (w : World) : (method 277 86 v ((Try.t86.methods.getD 0 default).name)).run Try.prog w = .ok (116, v) w := by kernel_rfl
/-- The function and its receiver. -/
def apF : Chg → FuncId
  | .adm _ => 114
  | .bal _ _ => 115
  | .rep _ _ _ => 116
def apV : Chg → Value
  | .adm m => aM m
  | .bal a b => .agg #[.int .i64 a, .int .i64 b]
  | .rep v a b => .agg #[.int .i64 v, .int .i64 a, .int .i64 b]
def szX : Chg → Prop
  | .adm m => m.name.size ≤ 9223372036854775807 ∧ m.pub.size ≤ 9223372036854775807
  | _ => True
theorem apply_any (g : Nat) (lab : Nat → Nat) (S : Cst) (c : Chg) (w : World) (hC : Cir w lab g S) (hI : Inv S.s) (hch : S.chs.length ≤ 1000000) (hvl : S.s.votes.length ≤ 1000000) (hs : szX c) :
    Calls Try.prog (apF c) #[apV c, fG g] w (MutP (playC S (toChn c)) lab g (.int .i64 (playE S.s (toChn c))) w) := by
  cases c with
  | adm m =>
    rw [playC_adm rfl]
    exact adm_apply g lab S m w hC hI hch hs.1 hs.2
  | bal a b =>
    rw [playC_vot rfl]
    exact bal_apply g lab S a b w hC hI hch hvl
  | rep v a b =>
    rw [playC_rep (by simp [toChn]) (by simp [toChn])]
    exact rep_apply g lab S v a b w hC hI hch
theorem tk_size {bs : List Int} {k p : Nat} : (tkF bs k p).1.size ≤ bs.length := by
  rw [tkF_eq]
  split
  · exact Nat.zero_le _
  · show (baOf ((bs.drop p).take k)).size ≤ _
    have h := strOfNums_size ((bs.drop p).take k)
    unfold baOf
    rw [h, List.length_take, List.length_drop]
    omega
theorem blk_size {bs : List Int} {k p : Nat} : (blkF bs k p).1.size ≤ bs.length := by
  rw [blkF_eq]
  split
  · exact tk_size
  · exact Nat.zero_le _
theorem rT_size {bs : List Int} {m : Nat} {s : RS} : (rT bs m s).1.size ≤ bs.length := by
  unfold rT rV
  split
  · split
    · exact blk_size
    · exact Nat.zero_le _
  · exact Nat.zero_le _
theorem rS_size {bs : List Int} {s : RS} : (rS bs s).1.size ≤ bs.length := by
  unfold rS rV
  split
  · split
    · exact tk_size
    · exact Nat.zero_le _
  · exact Nat.zero_le _
theorem decX_size {bs : List Int} {N : Int} {s s' : RS} {c : Chg} (hn : bs.length ≤ 1000000) (h : decX bs N s = (some c, s')) : szX c := by
  unfold decX at h
  split at h
  · simp only [Prod.mk.injEq, Option.some.injEq] at h
    obtain ⟨rfl, _⟩ := h
    have h1 := rT_size (bs := bs) (m := 16) (s := (rU bs s).2)
    have h2 := rS_size (bs := bs) (s := (rT bs 16 (rU bs s).2).2)
    exact ⟨Nat.le_trans h1 (by omega), Nat.le_trans h2 (by omega)⟩
  · split at h
    · simp only [Prod.mk.injEq, Option.some.injEq] at h
      obtain ⟨rfl, _⟩ := h
      trivial
    · split at h
      · simp only [Prod.mk.injEq, Option.some.injEq] at h
        obtain ⟨rfl, _⟩ := h
        trivial
      · cases h
theorem decX_le {bs : List Int} {N : Int} {s : RS} {n : Nat} (hl : bs.length = n) (h : s.1 ≤ n) : (decX bs N s).2.1 ≤ n := by
  unfold decX
  split
  · exact rI_le hl (rS_le hl (rT_le hl (rU_le hl h)))
  · split
    · exact rI_le hl (rI_le hl (rU_le hl h))
    · split
      · exact rI_le hl (rI_le hl (rI_le hl (rU_le hl h)))
      · exact rU_le hl h
theorem decM_le {bs : List Int} {d : Int} {s : RS} {n : Nat} (hl : bs.length = n) (h : s.1 ≤ n) : (decM bs d s).2.1 ≤ n := rI_le hl (rS_le hl (rT_le hl h))
theorem decVt_le {bs : List Int} {d : Int} {s : RS} {n : Nat} (hl : bs.length = n) (h : s.1 ≤ n) : (decVt bs d s).2.1 ≤ n := by
  unfold decVt
  exact rI_le hl (rI_le hl (rI_le hl (rI_le hl (rI_le hl (rI_le hl (rI_le hl (rI_le hl (rS_le hl (rI_le hl (rI_le hl (rI_le hl (decLs_le (fun _ s h => rI_le hl h) (rC_le hl h) _))))))))))))
theorem decVt_ws {bs : List Int} {d : Int} {s : RS} : (decVt bs d s).1.ws.length ≤ 3 := by
  unfold decVt
  show (decLs (fun _ => rI bs) (rC bs 3 s).2 (rC bs 3 s).1.toNat).1.length ≤ 3
  rw [decLs_len]
  obtain ⟨cnt, h1, h2⟩ := rC_val (bs := bs) (m := 3) (s := s)
  omega
theorem decVt_print {bs : List Int} {d : Int} {s : RS} : (decVt bs d s).1.print.size ≤ bs.length := by
  unfold decVt
  exact rS_size
theorem decM_name {bs : List Int} {d : Int} {s : RS} : (decM bs d s).1.name.size ≤ bs.length ∧ (decM bs d s).1.pub.size ≤ bs.length := ⟨rT_size, rS_size⟩
theorem decLs_all {α : Type} {f : Nat → RS → α × RS} {p : α → Prop} (h : ∀ k s, p (f k s).1) (s : RS) : ∀ k, ∀ x ∈ (decLs f s k).1, p x
  | 0, x, hx => by cases hx
  | k + 1, x, hx => by
    rw [decLs] at hx
    rcases List.mem_append.1 hx with hx | hx
    · exact decLs_all h s k x hx
    · obtain rfl := List.mem_singleton.1 hx; exact h _ _
end Go.Proofs.Ytkeicjokekmkpaa
