/- built. -/
import Derived.Test.YtafhpomoobdmdaaOp
import Derived.Test.YtafhpomoobdmdaaAw
namespace Go.Proofs.Ytafhpomoobdmdaa
open Go.RowKit Mb
set_option linter.unusedVariables false
set_option linter.unusedSimpArgs false

/-- The circle behind changes. -/
def playsC (S : Cst) (xs : List Chn) : Cst := xs.foldl playC S
theorem playsC_snoc (S : Cst) (xs : List Chn) (x : Chn) : playsC S (xs ++ [x]) = playC (playsC S xs) x := by unfold playsC; rw [List.foldl_append]; rfl
theorem playsC_s : ∀ (S : Cst) (xs : List Chn), (playsC S xs).s = plays S.s xs
  | _, [] => rfl
  | S, x :: l => playsC_s (playC S x) l
theorem playS_q {S : St} {x : Chn} : (playS S x).q = S.q := by
  unfold playS
  split
  · split
    · rfl
    · split
      · exact votS_q
      · rfl
  · rfl
theorem plays_q : ∀ {S : St} {xs : List Chn}, (plays S xs).q = S.q
  | _, [] => rfl
  | S, x :: l => (plays_q (S := playS S x) (xs := l)).trans playS_q
theorem chgs_le (S : St) (x : Chn) : (chgs S x).length ≤ 1 := by unfold chgs; split <;> simp
theorem votes_le (S : St) (x : Chn) : (playS S x).votes.length ≤ S.votes.length + 1 := by
  unfold playS
  split
  · split
    · show S.votes.length ≤ _; omega
    · split
      · rw [votS_votes]; simp
      · show S.votes.length ≤ _; omega
  · omega
theorem playsC_chs : ∀ (S : Cst) (xs : List Chn), (playsC S xs).chs.length ≤ S.chs.length + xs.length
  | _, [] => Nat.le_refl _
  | S, x :: l => by
    have h := playsC_chs (playC S x) l
    have h1 := chgs_le S.s x
    have h2 : (playC S x).chs.length = S.chs.length + (chgs S.s x).length := by simp [playC]
    show (playsC (playC S x) l).chs.length ≤ _
    simp only [List.length_cons]
    omega
theorem playsC_votes : ∀ (S : Cst) (xs : List Chn), (playsC S xs).s.votes.length ≤ S.s.votes.length + xs.length
  | _, [] => Nat.le_refl _
  | S, x :: l => by
    have h := playsC_votes (playC S x) l
    have h1 := votes_le S.s x
    have h2 : (playC S x).s.votes.length ≤ S.s.votes.length + 1 := h1
    show (playsC (playC S x) l).s.votes.length ≤ _
    simp only [List.length_cons]
    omega
theorem playsC_inv {S : Cst} (h : Inv S.s) (xs : List Chn) : Inv (playsC S xs).s := by rw [playsC_s]; exact plays_inv h xs
/-- The circle that New makes. -/
abbrev S0 (ms : List Mem) (ps : List VP) (q : Int) : Cst := ⟨⟨ms, ps.map Prod.fst, q, []⟩, ms, ps.map Prod.fst, []⟩
section
variable {W V : World} {A A' A'' : Option Addr} {n c n' c' n'' c'' : Nat} {ms : List Mem} {ps : List VP} {xs : List Chn}
theorem maxLen_le {k : Nat} (h : k ≤ maxLen) : k ≤ 9223372036854775807 := h
theorem InSet.on (h : InSet W A n c A' n' c' A'' n'' c'' ms ps xs) (hb : Below W.heap.size W V) : InSet V A n c A' n' c' A'' n'' c'' ms ps xs :=
  ⟨(h.fms.up hb (Nat.le_refl _)).more hb.size, h.cap, h.sz, (h.fvs.up hb (Nat.le_refl _)).more hb.size, fun p hp => ⟨((h.vk p hp).1.up hb (Nat.le_refl _)).more' hb.size, (h.vk p hp).2⟩, (h.fxs.up hb (Nat.le_refl _)).more hb.size, h.xz⟩
theorem new_set (q : Int) (h : InSet V A n c A' n' c' A'' n'' c'' ms ps xs) : Calls Try.prog 9 #[.slice A n c, .slice A' n' c', .int .i64 q] V (NewP ms (ps.map Prod.fst) q V) :=
  new_any A A' n n' c c' q ms ps V h.cap h.fms (fun m hm => h.sz m hm) ⟨h.fvs, fun p hp => (h.vk p hp).1⟩ (fun p hp => ⟨Nat.le_trans (h.vk p hp).2.1 (h.vk p hp).2.2.1, (h.vk p hp).2.2.2⟩)
end
/-- The nine cells of a change in a row. -/
theorem nine {w : World} {b off k : Nat} {x : Chn} (h : ∀ j v, (fX x)[j]? = some v → w.cell? ⟨b, off + (k * 9 + j), none⟩ = some v) :
    w.cell? ⟨b, off + k * 9, none⟩ = some (.int .i64 x.kind) ∧ w.cell? ⟨b, off + k * 9 + 1, none⟩ = some (.int .i64 x.m.dev) ∧ w.cell? ⟨b, off + k * 9 + 2, none⟩ = some (.string x.m.name) ∧ w.cell? ⟨b, off + k * 9 + 3, none⟩ = some (.string x.m.pub) ∧ w.cell? ⟨b, off + k * 9 + 4, none⟩ = some (.int .i64 x.m.quota) ∧ w.cell? ⟨b, off + k * 9 + 5, none⟩ = some (.bool x.m.exp) ∧ w.cell? ⟨b, off + k * 9 + 6, none⟩ = some (.int .i64 x.v) ∧ w.cell? ⟨b, off + k * 9 + 7, none⟩ = some (.int .i64 x.a) ∧ w.cell? ⟨b, off + k * 9 + 8, none⟩ = some (.int .i64 x.b) := by
  refine ⟨?_, ?_, ?_, ?_, ?_, ?_, ?_, ?_, ?_⟩
  · exact h 0 _ rfl
  · rw [Nat.add_assoc]; exact h 1 _ rfl
  · rw [Nat.add_assoc]; exact h 2 _ rfl
  · rw [Nat.add_assoc]; exact h 3 _ rfl
  · rw [Nat.add_assoc]; exact h 4 _ rfl
  · rw [Nat.add_assoc]; exact h 5 _ rfl
  · rw [Nat.add_assoc]; exact h 6 _ rfl
  · rw [Nat.add_assoc]; exact h 7 _ rfl
  · rw [Nat.add_assoc]; exact h 8 _ rfl
abbrev oSet (A : Option Addr) (n c : Nat) (A' : Option Addr) (n' c' : Nat) (q : Int) (A'' : Option Addr) (n'' c'' : Nat) : Obj := .cells #[.slice A n c, .slice A' n' c', .int .i64 q, .slice A'' n'' c''] 26
theorem four_of {w : World} {b : Nat} {A A' A'' : Option Addr} {n c n' c' n'' c'' : Nat} {q : Int} (h : w.heap[b]? = some (oSet A n c A' n' c' q A'' n'' c'')) :
    w.cell? ⟨b, 0, none⟩ = some (.slice A n c) ∧ w.cell? ⟨b, 1, none⟩ = some (.slice A' n' c') ∧ w.cell? ⟨b, 2, none⟩ = some (.int .i64 q) ∧ w.cell? ⟨b, 3, none⟩ = some (.slice A'' n'' c'') := by
  refine ⟨?_, ?_, ?_, ?_⟩ <;> (rw [cell_of_row w b _ _ _ _ h]; rfl)
/-- What built does. -/
def BuiltP (ms : List Mem) (ps : List VP) (q : Int) (xs : List Chn) (w : World) (e : Ending) (w' : World) : Prop :=
  (newE ms (ps.map Prod.fst) q = 0 ∧ ∃ g lab, e = .returned (.tuple #[fG g, .bool true]) ∧ Cir w' lab g (playsC (S0 ms ps q) xs) ∧ (∀ k, k < w.heap.size → lab k = 0) ∧ Below w.heap.size w w') ∨
  (newE ms (ps.map Prod.fst) q ≠ 0 ∧ e = .returned (.tuple #[.pointer none, .bool false]) ∧ Below w.heap.size w w')
set_option maxRecDepth 20000 in
set_option maxHeartbeats 4000000 in
theorem built_any (A : Option Addr) (n c : Nat) (A' : Option Addr) (n' c' : Nat) (q : Int) (A'' : Option Addr) (n'' c'' : Nat) (ms : List Mem) (ps : List VP) (xs : List Chn) (w : World) (hx : InSet w A n c A' n' c' A'' n'' c'' ms ps xs) (hn : n'' ≤ 40) :
    Calls Try.prog 14 #[aSet A n c A' n' c' q A'' n'' c''] w (BuiltP ms ps q xs w) := by
  obtain ⟨W, hW⟩ : ∃ W : World, W = w.alloc (oSet A n c A' n' c' q A'' n'' c'') := ⟨_, rfl⟩
  have hB : Below w.heap.size w W := by rw [hW]; exact (Below.refl _ _).alloc (Nat.le_refl _) _
  have hG : W.heap[w.heap.size]? = some (oSet A n c A' n' c' q A'' n'' c'') := by rw [hW]; exact heap_alloc_new w _
  have HN := Lib.hid (new_set q (hx.on hB))
  have HX := Lib.hid hx
  have HB := Lib.hid hB
  have HG := Lib.hid hG
  have HW := Lib.hid hW
  clear hx hB hG hW
  go_enter Try.func14, Try.ntmps14
  go_wp2_with fail
  refine (show Calls Try.prog 9 _ _ (NewP ms (ps.map Prod.fst) q W) from HW.out ▸ HN.out).mono ?_
  rintro e w1 h1
  rcases h1 with ⟨h0, h1⟩ | ⟨h0, h1, h2⟩
  · obtain ⟨g, lab0, rfl, hC, hl, _, hb⟩ := h1.cir
    have HE := Lib.hid h0
    have HI0 : Hid (Inv (S0 ms ps q).s) := newE_inv h0
    have HL0 : Hid (∀ k, k < W.heap.size → lab0 k = 0) := hl
    have HC0 : Hid (Cir w1 lab0 g (S0 ms ps q)) := hC
    have HB1 : Hid (Below W.heap.size W w1) := hb
    have hG1 : w1.heap[w.heap.size]? = some (oSet A n c A' n' c' q A'' n'' c'') := (hb.block _ (lt_of_block HG.out)).trans HG.out
    obtain ⟨s0, s1, s2, s3⟩ := four_of hG1
    clear h1 hC hl hb h0 hG1
    go_wp2_with fail
    clear s0 s1 s2 s3
    go_loopw [6] (fun i wr => ∃ (k : Nat) (lab : Nat → Nat), k ≤ n'' ∧ i = .int .i64 k ∧ Hid (Cir wr lab g (playsC (S0 ms ps q) (xs.take k))) ∧ Hid (Fr w1 lab0 wr lab)) (fun i _ => n'' - (intOf i).toNat)
    case atStart => exact ⟨0, lab0, Nat.zero_le _, rfl, HC0, Fr.refl _ _⟩
    case round =>
      obtain ⟨k, lab, hk, rfl, HC, HF⟩ := hrel
      have HBk : Hid (Below w.heap.size w wr) := HB.out.trans ((HB1.out.trans (HF.out.below HB1.out.size HL0.out)).mono HB.out.size)
      have hGk : wr.heap[w.heap.size]? = some (oSet A n c A' n' c' q A'' n'' c'') := ((HB1.out.trans (HF.out.below HB1.out.size HL0.out)).block _ (lt_of_block HG.out)).trans HG.out
      obtain ⟨s0, s1, s2, s3⟩ := four_of hGk
      clear hGk
      by_cases hlt : k < n''
      · have hXk := HX.out.on HBk.out
        obtain ⟨b, off, x, hA'', hbB, hxk, hcell⟩ := hXk.fxs.at_ hlt
        subst hA''
        have hxz := hXk.xz x (List.mem_of_getElem? hxk)
        obtain ⟨c0, c1, c2, c3, c4, c5, c6, c7, c8⟩ := nine hcell
        have hlen : (xs.take k).length ≤ 40 := by rw [List.length_take]; omega
        have HPL := Lib.hid (play_any g lab (playsC (S0 ms ps q) (xs.take k)) x wr HC.out (playsC_inv HI0.out _) (by have := playsC_chs (S0 ms ps q) (xs.take k); simp at this; omega) (by have := playsC_votes (S0 ms ps q) (xs.take k); simp at this; omega) hxz.1 hxz.2)
        have HTK : Hid (playsC (S0 ms ps q) (xs.take (k + 1)) = playC (playsC (S0 ms ps q) (xs.take k)) x) := by show _ = _; rw [take_snoc hxk, playsC_snoc]
        clear hXk hcell hxk hxz hlen hbB
        go_wp2_with fail
        refine HPL.out.mono ?_
        rintro e w5 ⟨rfl, lab5, hC5, hF5⟩
        have HC5 : Hid (Cir w5 lab5 g (playsC (S0 ms ps q) (xs.take (k + 1)))) := by show Cir _ _ _ _; rw [HTK.out]; exact hC5
        have HF5 : Hid (Fr w1 lab0 w5 lab5) := HF.out.trans hF5
        clear hC5 hF5 c0 c1 c2 c3 c4 c5 c6 c7 c8
        unfold votR
        go_wp2_with fail
        go_roundw
        case rel => exact ⟨k + 1, lab5, by omega, by go_num, HC5, HF5⟩
        case measure => simp [intOf]; omega
      · obtain rfl : k = n'' := by omega
        have HT : Hid (Cir wr lab g (playsC (S0 ms ps q) xs)) := by
          have h5 := HC.out
          rw [List.take_of_length_le (by have := HX.out.fxs.1; omega)] at h5
          exact h5
        go_wp2_with fail
        go_ret2
        exact .inl ⟨HE.out, g, lab, rfl, HT.out, fun j hj => (HF.out.keep j (Nat.lt_of_lt_of_le (Nat.lt_of_lt_of_le hj HB.out.size) HB1.out.size)).trans (HL0.out j (Nat.lt_of_lt_of_le hj HB.out.size)), HBk.out⟩
  · subst h1
    have HE := Lib.hid h0
    have HB1 : Hid (Below W.heap.size W w1) := h2
    have hG1 : w1.heap[w.heap.size]? = some (oSet A n c A' n' c' q A'' n'' c'') := (h2.block _ (lt_of_block HG.out)).trans HG.out
    obtain ⟨s0, s1, s2, s3⟩ := four_of hG1
    have he0 : (newE ms (ps.map Prod.fst) q == 0) = false := by simpa using h0
    clear h2 h0 hG1
    go_wp2_with fail
    go_loopw [6] (fun i wr => i = .int .i64 0 ∧ wr = w1) (fun _ _ => 0)
    case atStart => exact ⟨rfl, rfl⟩
    case round =>
      obtain ⟨rfl, rfl⟩ := hrel
      by_cases hz : n'' = 0
      · subst hz
        go_wp2_with fail
        go_ret2
        exact .inr ⟨HE.out, rfl, HB.out.trans (HB1.out.mono HB.out.size)⟩
      · have hz' : (0 : Int) < (n'' : Int) := by omega
        go_wp2_with fail
        go_ret2
        exact .inr ⟨HE.out, rfl, HB.out.trans (HB1.out.mono HB.out.size)⟩
end Go.Proofs.Ytafhpomoobdmdaa
