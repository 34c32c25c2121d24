/- The circle of the chapter's examples. -/
import Derived.Test.YtkeicjokekmkpaaGreatMj
namespace Go.Proofs.YtkeicjokekmkpaaGreat
open Go.RowKit Mb
set_option linter.unusedVariables false
set_option linter.unusedSimpArgs false

abbrev exM0 : Mem := ⟨0, ⟨#[97, 110, 110]⟩, keyS 97, 1000, false⟩
abbrev exM1 : Mem := ⟨1, ⟨#[98, 111, 98]⟩, keyS 98, 1000, false⟩
abbrev exM2 : Mem := ⟨2, ⟨#[99, 121]⟩, keyS 99, 1000, false⟩
abbrev exM3 : Mem := ⟨3, ⟨#[100, 101, 101]⟩, keyS 100, 1000, false⟩
def exMs : List Mem := [exM0, exM1, exM2, exM3]
def exV (t : Int) : Vlt := ⟨0, [0], 1, t, 2, keyS 112, 4, 16, 2, 2, 0, 7, 0, 0, 0⟩
abbrev nmO : Obj := .cells #[.string ⟨#[97, 110, 110]⟩, .string ⟨#[98, 111, 98]⟩, .string ⟨#[99, 121]⟩, .string ⟨#[100, 101, 101]⟩] 9
theorem ne_new {v u : Value} {X b : Nat} (h : v.ownBlock = u.ownBlock ∨ v.ownBlock = some X) (hu : u.ownBlock ≠ some b) (hX : b < X) : v.ownBlock ≠ some b := by
  rcases h with h | h
  · rw [h]; exact hu
  · rw [h]; intro e; injection e with e; omega
/-- What New does, with the circle in roles. -/
def NewR (ms : List Mem) (vs : List Vlt) (q : Int) (w : World) (e : Ending) (w' : World) : Prop :=
  (newE ms vs q = 0 ∧ ∃ g lab, e = .returned (.tuple #[fG g, .int .i64 0]) ∧ Cir w' lab g ⟨⟨ms, vs, q, []⟩, ms, vs, []⟩ ∧ (∀ k, k < w.heap.size → lab k = 0) ∧ Below w.heap.size w w') ∨ (newE ms vs q ≠ 0 ∧ ErrP (newE ms vs q) w e w')
theorem NewP.r {ms : List Mem} {vs : List Vlt} {q : Int} {w W w' : World} {e : Ending} (hb : Below w.heap.size w W) (h : NewP ms vs q W e w') : NewR ms vs q w e w' := by
  rcases h with ⟨h0, h⟩ | ⟨h0, h, h'⟩
  · obtain ⟨g, lab, h1, h2, h3, _, h5⟩ := h.cir
    exact .inl ⟨h0, g, lab, h1, h2, fun k hk => h3 k (Nat.lt_of_lt_of_le hk hb.size), hb.trans (h5.mono hb.size)⟩
  · exact .inr ⟨h0, h, hb.trans (h'.mono hb.size)⟩
set_option maxRecDepth 20000 in
set_option maxHeartbeats 4000000 in
theorem example_any (total : Int) (w : World) : Calls Tryz.prog 13 #[.int .i64 total] w (NewR exMs [exV total] 2 w) := by
  obtain ⟨i0, hi, hz0, hz1, hz2⟩ := info_parts Tryz.infoM
  have HI := Lib.hid hi
  have HZ0 := Lib.hid hz0
  have HZ1 := Lib.hid hz1
  have HZ2 := Lib.hid hz2
  obtain ⟨W, hW⟩ : ∃ W : World, W = (w.alloc (.cells #[] 40)).alloc nmO := ⟨_, rfl⟩
  have hB : Below w.heap.size w W := by rw [hW]; exact ((Below.refl _ _).alloc (Nat.le_refl _) _).alloc (by simp) _
  have hO : OwnN fM 5 40 W w.heap.size (.slice (some ⟨w.heap.size, 0, none⟩) 0 0) [] := by
    rw [hW]
    exact OwnN.alloc (show OwnN fM 5 40 (w.alloc (.cells #[] 40)) w.heap.size (.slice (some ⟨w.heap.size, 0, none⟩) 0 0) [] from World.ownsRow_lit w #[] 0 (Nat.le_refl _) (by unfold maxLen; omega) rfl) _
  have hN : W.heap[w.heap.size + 1]? = some nmO := by rw [hW]; exact heap_new_at (by simp)
  have HB := Lib.hid hB
  have HO := Lib.hid hO
  have HN := Lib.hid hN
  have HW := Lib.hid hW
  clear hi hz0 hz1 hz2 hB hO hN hW
  go_enter Tryz.func13, Tryz.ntmps13
  go_wp2
  rw [← HW.out]
  clear HW
  go_loopw [4, 6] (fun u i wr => ∃ k : Nat, k ≤ 4 ∧ i = .int .i64 k ∧ Hid (OwnN fM 5 40 wr w.heap.size u (exMs.take k)) ∧ Hid (u.ownBlock ≠ some (w.heap.size + 1)) ∧ Hid (wr.heap[w.heap.size + 1]? = some nmO) ∧ Hid (Below w.heap.size w wr)) (fun _ i _ => 4 - (intOf i).toNat)
  case atStart => exact ⟨0, Nat.zero_le _, rfl, HO, by show _ ≠ _; simp [Value.ownBlock], HN, HB⟩
  case round =>
    obtain ⟨k, hk, rfl, HO0, HNE, HN0, HB0⟩ := hrel
    clear HO HN HB
    by_cases hlt : k < 4
    · have HRL : Hid (∀ V, Below wr.heap.size wr V → OwnN fM 5 40 V w.heap.size u4 (exMs.take k)) := fun V h => HO0.out.on h
      have hnl := lt_of_block HN0.out
      have HNL := Lib.hid hnl
      clear hnl
      obtain rfl | rfl | rfl | rfl : k = 0 ∨ k = 1 ∨ k = 2 ∨ k = 3 := by omega
      · have hc0 : wr.cell? ⟨w.heap.size + 1, 0, none⟩ = some (.string ⟨#[97, 110, 110]⟩) := by rw [cell_of_row wr _ _ _ _ _ HN0.out]; rfl
        have HC0 := Lib.hid hc0
        have HKY : Hid (∀ V, Calls Tryz.prog 56 #[.int .u8 97] V fun e w' => e = .returned (.string (keyS 97)) ∧ Below V.heap.size V w') := fun V => key_any 97 V
        go_wp2
        go_region_held3 (fun w' => w'.cell? ⟨w.heap.size + 1, 0, none⟩ = some (.string ⟨#[97, 110, 110]⟩)) (first | exact (by rw [cell_of_row _ _ _ _ _ _ HN6.out]; rfl) | exact (HB5.out.cell (p := ⟨w.heap.size + 1, 0, none⟩) HNL.out).trans HC0.out | exact HC0.out | go_keep) (first | (go_at_call 56; refine (HKY.out _).mono ?_; rintro e w5 ⟨rfl, hb5⟩; (have HB5 : Hid (Below wr.heap.size wr w5) := Below.trans (by repeat (first | exact Below.refl _ _ | refine Below.alloc ?_ (by simp <;> omega) _ | refine Below.drew ?_ | refine below_dN' ?_ _)) (hb5.mono (by first | exact Nat.le_refl _ | exact Nat.le_of_eq rfl))); clear hb5) | (refine step_appN fM_len (by omega) rfl (.tmp 14) (.tmp 27) 22 rfl 40 i0 _ 56 Tryz.underlying22 HI.out HZ0.out HZ1.out HZ2.out Tryz.zsM u4 (exMs.take 0) w.heap.size ?_ ?_ (some ⟨w5.heap.size, 0, none⟩) 1 1 (w5.heap.size + 1) [exM0] ?_ ?_ fM_one (by decide) (by decide) ?_ ?_; (exact rfl); (exact HRL.out _ (by repeat (first | exact Below.refl _ _ | exact HB5.out | refine Below.alloc ?_ (by simp <;> omega) _ | refine Below.alloc ?_ HB5.out.size _ | refine Below.drew ?_ | refine below_dN' ?_ _))); (exact rfl); (exact SlN.of_block (t := 40) (fr := (0, 0)) (heap_alloc_new _ _) (Nat.lt_succ_self _)); (have := HB0.out.size; have := HB5.out.size; simp <;> omega); (intro v6 w6 HO6 HG6 HV6; (have HGW : Hid (wr.grownBy w6 u4.ownBlock) := grown_from (by repeat (first | exact Below.refl _ _ | exact HB5.out | refine Below.alloc ?_ (by simp <;> omega) _ | refine Below.alloc ?_ HB5.out.size _ | refine Below.drew ?_ | refine below_dN' ?_ _)) HG6.out); (have HN6 : Hid (w6.heap[w.heap.size + 1]? = some nmO) := (HGW.out.block _ HNL.out (fun e => HNE.out e.symm)).trans HN0.out); (have HE6 : Hid (v6.ownBlock ≠ some (w.heap.size + 1)) := ne_new HV6.out HNE.out (by have h1 := HNL.out; have h2 := HB5.out.size; first | (simp; done) | (simp; omega) | omega)); (have HB6 : Hid (Below w.heap.size w w6) := HB0.out.grown HGW.out HB0.out.size (fun j hj => (World.ownsRow.lt HO0.out j hj).1)); clear HG6 HV6)))
        clear hc0
        go_wp2_with fail
        go_roundw
        case rel => exact ⟨1, by omega, by go_num, HO6, HE6, HN6, HB6⟩
        case measure => simp [intOf]
      · have hc0 : wr.cell? ⟨w.heap.size + 1, 1, none⟩ = some (.string ⟨#[98, 111, 98]⟩) := by rw [cell_of_row wr _ _ _ _ _ HN0.out]; rfl
        have HC0 := Lib.hid hc0
        have HKY : Hid (∀ V, Calls Tryz.prog 56 #[.int .u8 98] V fun e w' => e = .returned (.string (keyS 98)) ∧ Below V.heap.size V w') := fun V => key_any 98 V
        go_wp2
        go_region_held3 (fun w' => w'.cell? ⟨w.heap.size + 1, 1, none⟩ = some (.string ⟨#[98, 111, 98]⟩)) (first | exact (by rw [cell_of_row _ _ _ _ _ _ HN6.out]; rfl) | exact (HB5.out.cell (p := ⟨w.heap.size + 1, 1, none⟩) HNL.out).trans HC0.out | exact HC0.out | go_keep) (first | (go_at_call 56; refine (HKY.out _).mono ?_; rintro e w5 ⟨rfl, hb5⟩; (have HB5 : Hid (Below wr.heap.size wr w5) := Below.trans (by repeat (first | exact Below.refl _ _ | refine Below.alloc ?_ (by simp <;> omega) _ | refine Below.drew ?_ | refine below_dN' ?_ _)) (hb5.mono (by first | exact Nat.le_refl _ | exact Nat.le_of_eq rfl))); clear hb5) | (refine step_appN fM_len (by omega) rfl (.tmp 14) (.tmp 27) 22 rfl 40 i0 _ 56 Tryz.underlying22 HI.out HZ0.out HZ1.out HZ2.out Tryz.zsM u4 (exMs.take 1) w.heap.size ?_ ?_ (some ⟨w5.heap.size, 0, none⟩) 1 1 (w5.heap.size + 1) [exM1] ?_ ?_ fM_one (by decide) (by decide) ?_ ?_; (exact rfl); (exact HRL.out _ (by repeat (first | exact Below.refl _ _ | exact HB5.out | refine Below.alloc ?_ (by simp <;> omega) _ | refine Below.alloc ?_ HB5.out.size _ | refine Below.drew ?_ | refine below_dN' ?_ _))); (exact rfl); (exact SlN.of_block (t := 40) (fr := (0, 0)) (heap_alloc_new _ _) (Nat.lt_succ_self _)); (have := HB0.out.size; have := HB5.out.size; simp <;> omega); (intro v6 w6 HO6 HG6 HV6; (have HGW : Hid (wr.grownBy w6 u4.ownBlock) := grown_from (by repeat (first | exact Below.refl _ _ | exact HB5.out | refine Below.alloc ?_ (by simp <;> omega) _ | refine Below.alloc ?_ HB5.out.size _ | refine Below.drew ?_ | refine below_dN' ?_ _)) HG6.out); (have HN6 : Hid (w6.heap[w.heap.size + 1]? = some nmO) := (HGW.out.block _ HNL.out (fun e => HNE.out e.symm)).trans HN0.out); (have HE6 : Hid (v6.ownBlock ≠ some (w.heap.size + 1)) := ne_new HV6.out HNE.out (by have h1 := HNL.out; have h2 := HB5.out.size; first | (simp; done) | (simp; omega) | omega)); (have HB6 : Hid (Below w.heap.size w w6) := HB0.out.grown HGW.out HB0.out.size (fun j hj => (World.ownsRow.lt HO0.out j hj).1)); clear HG6 HV6)))
        clear hc0
        go_wp2_with fail
        go_roundw
        case rel => exact ⟨2, by omega, by go_num, HO6, HE6, HN6, HB6⟩
        case measure => simp [intOf]
      · have hc0 : wr.cell? ⟨w.heap.size + 1, 2, none⟩ = some (.string ⟨#[99, 121]⟩) := by rw [cell_of_row wr _ _ _ _ _ HN0.out]; rfl
        have HC0 := Lib.hid hc0
        have HKY : Hid (∀ V, Calls Tryz.prog 56 #[.int .u8 99] V fun e w' => e = .returned (.string (keyS 99)) ∧ Below V.heap.size V w') := fun V => key_any 99 V
        go_wp2
        go_region_held3 (fun w' => w'.cell? ⟨w.heap.size + 1, 2, none⟩ = some (.string ⟨#[99, 121]⟩)) (first | exact (by rw [cell_of_row _ _ _ _ _ _ HN6.out]; rfl) | exact (HB5.out.cell (p := ⟨w.heap.size + 1, 2, none⟩) HNL.out).trans HC0.out | exact HC0.out | go_keep) (first | (go_at_call 56; refine (HKY.out _).mono ?_; rintro e w5 ⟨rfl, hb5⟩; (have HB5 : Hid (Below wr.heap.size wr w5) := Below.trans (by repeat (first | exact Below.refl _ _ | refine Below.alloc ?_ (by simp <;> omega) _ | refine Below.drew ?_ | refine below_dN' ?_ _)) (hb5.mono (by first | exact Nat.le_refl _ | exact Nat.le_of_eq rfl))); clear hb5) | (refine step_appN fM_len (by omega) rfl (.tmp 14) (.tmp 27) 22 rfl 40 i0 _ 56 Tryz.underlying22 HI.out HZ0.out HZ1.out HZ2.out Tryz.zsM u4 (exMs.take 2) w.heap.size ?_ ?_ (some ⟨w5.heap.size, 0, none⟩) 1 1 (w5.heap.size + 1) [exM2] ?_ ?_ fM_one (by decide) (by decide) ?_ ?_; (exact rfl); (exact HRL.out _ (by repeat (first | exact Below.refl _ _ | exact HB5.out | refine Below.alloc ?_ (by simp <;> omega) _ | refine Below.alloc ?_ HB5.out.size _ | refine Below.drew ?_ | refine below_dN' ?_ _))); (exact rfl); (exact SlN.of_block (t := 40) (fr := (0, 0)) (heap_alloc_new _ _) (Nat.lt_succ_self _)); (have := HB0.out.size; have := HB5.out.size; simp <;> omega); (intro v6 w6 HO6 HG6 HV6; (have HGW : Hid (wr.grownBy w6 u4.ownBlock) := grown_from (by repeat (first | exact Below.refl _ _ | exact HB5.out | refine Below.alloc ?_ (by simp <;> omega) _ | refine Below.alloc ?_ HB5.out.size _ | refine Below.drew ?_ | refine below_dN' ?_ _)) HG6.out); (have HN6 : Hid (w6.heap[w.heap.size + 1]? = some nmO) := (HGW.out.block _ HNL.out (fun e => HNE.out e.symm)).trans HN0.out); (have HE6 : Hid (v6.ownBlock ≠ some (w.heap.size + 1)) := ne_new HV6.out HNE.out (by have h1 := HNL.out; have h2 := HB5.out.size; first | (simp; done) | (simp; omega) | omega)); (have HB6 : Hid (Below w.heap.size w w6) := HB0.out.grown HGW.out HB0.out.size (fun j hj => (World.ownsRow.lt HO0.out j hj).1)); clear HG6 HV6)))
        clear hc0
        go_wp2_with fail
        go_roundw
        case rel => exact ⟨3, by omega, by go_num, HO6, HE6, HN6, HB6⟩
        case measure => simp [intOf]
      · have hc0 : wr.cell? ⟨w.heap.size + 1, 3, none⟩ = some (.string ⟨#[100, 101, 101]⟩) := by rw [cell_of_row wr _ _ _ _ _ HN0.out]; rfl
        have HC0 := Lib.hid hc0
        have HKY : Hid (∀ V, Calls Tryz.prog 56 #[.int .u8 100] V fun e w' => e = .returned (.string (keyS 100)) ∧ Below V.heap.size V w') := fun V => key_any 100 V
        go_wp2
        go_region_held3 (fun w' => w'.cell? ⟨w.heap.size + 1, 3, none⟩ = some (.string ⟨#[100, 101, 101]⟩)) (first | exact (by rw [cell_of_row _ _ _ _ _ _ HN6.out]; rfl) | exact (HB5.out.cell (p := ⟨w.heap.size + 1, 3, none⟩) HNL.out).trans HC0.out | exact HC0.out | go_keep) (first | (go_at_call 56; refine (HKY.out _).mono ?_; rintro e w5 ⟨rfl, hb5⟩; (have HB5 : Hid (Below wr.heap.size wr w5) := Below.trans (by repeat (first | exact Below.refl _ _ | refine Below.alloc ?_ (by simp <;> omega) _ | refine Below.drew ?_ | refine below_dN' ?_ _)) (hb5.mono (by first | exact Nat.le_refl _ | exact Nat.le_of_eq rfl))); clear hb5) | (refine step_appN fM_len (by omega) rfl (.tmp 14) (.tmp 27) 22 rfl 40 i0 _ 56 Tryz.underlying22 HI.out HZ0.out HZ1.out HZ2.out Tryz.zsM u4 (exMs.take 3) w.heap.size ?_ ?_ (some ⟨w5.heap.size, 0, none⟩) 1 1 (w5.heap.size + 1) [exM3] ?_ ?_ fM_one (by decide) (by decide) ?_ ?_; (exact rfl); (exact HRL.out _ (by repeat (first | exact Below.refl _ _ | exact HB5.out | refine Below.alloc ?_ (by simp <;> omega) _ | refine Below.alloc ?_ HB5.out.size _ | refine Below.drew ?_ | refine below_dN' ?_ _))); (exact rfl); (exact SlN.of_block (t := 40) (fr := (0, 0)) (heap_alloc_new _ _) (Nat.lt_succ_self _)); (have := HB0.out.size; have := HB5.out.size; simp <;> omega); (intro v6 w6 HO6 HG6 HV6; (have HGW : Hid (wr.grownBy w6 u4.ownBlock) := grown_from (by repeat (first | exact Below.refl _ _ | exact HB5.out | refine Below.alloc ?_ (by simp <;> omega) _ | refine Below.alloc ?_ HB5.out.size _ | refine Below.drew ?_ | refine below_dN' ?_ _)) HG6.out); (have HN6 : Hid (w6.heap[w.heap.size + 1]? = some nmO) := (HGW.out.block _ HNL.out (fun e => HNE.out e.symm)).trans HN0.out); (have HE6 : Hid (v6.ownBlock ≠ some (w.heap.size + 1)) := ne_new HV6.out HNE.out (by have h1 := HNL.out; have h2 := HB5.out.size; first | (simp; done) | (simp; omega) | omega)); (have HB6 : Hid (Below w.heap.size w w6) := HB0.out.grown HGW.out HB0.out.size (fun j hj => (World.ownsRow.lt HO0.out j hj).1)); clear HG6 HV6)))
        clear hc0
        go_wp2_with fail
        go_roundw
        case rel => exact ⟨4, by omega, by go_num, HO6, HE6, HN6, HB6⟩
        case measure => simp [intOf]
    · obtain rfl : k = 4 := by omega
      obtain ⟨A4, c4, hu4, hc4, hs4, _⟩ := HO0.out.shape fM_len
      rw [show (exMs.take 4).length = 4 from rfl] at hu4
      subst hu4
      have HS4 : Hid (SlN fM 5 wr wr.heap.size A4 4 exMs) := hs4
      have HC4 : Hid (4 ≤ c4) := hc4
      clear hs4 hc4
      go_wp2_with (first | (go_at_call 56; refine (show Calls Tryz.prog 56 #[.int .u8 112] _ _ from key_any 112 _).mono ?_; rintro e w5 ⟨rfl, hb5⟩; (have HB5 : Hid (Below wr.heap.size wr w5) := ((Below.refl _ _).alloc (Nat.le_refl _) _).trans (hb5.mono (by simp))); (have HW5 : Hid (w5.heap[wr.heap.size]? = some (.cells #[.int .i64 0] 3 (0, 0))) := (hb5.block _ (by simp)).trans (heap_alloc_new wr _)); clear hb5) | (refine wpList_store_new (o := ⟨none, .store 68 (.tmp 7) (.tmp 34), _, _, _, _⟩) rfl 68 (.tmp 7) (.tmp 34) rfl 68 _ (cV (exV total) (some ⟨wr.heap.size, 0, none⟩) 1 1) rfl rfl Tryz.sizeV rfl (cV_one _ _ _ _) ?_))
      obtain ⟨X, hX⟩ : ∃ X : World, X = (w5.alloc (oV (exV total) (some ⟨wr.heap.size, 0, none⟩) 1 1)).alloc (oV (exV total) (some ⟨wr.heap.size, 0, none⟩) 1 1) := ⟨_, rfl⟩
      have hBX : Below w5.heap.size w5 X := by rw [hX]; exact ((Below.refl _ _).alloc (Nat.le_refl _) _).alloc (by simp) _
      have hX1 : X.heap[w5.heap.size + 1]? = some (oV (exV total) (some ⟨wr.heap.size, 0, none⟩) 1 1) := by rw [hX]; exact heap_new_at (by simp)
      have hBW : Below wr.heap.size wr X := HB5.out.trans (hBX.mono HB5.out.size)
      have hX0 : X.heap[wr.heap.size]? = some (.cells #[.int .i64 0] 3 (0, 0)) := (hBX.block _ (lt_of_block HW5.out)).trans HW5.out
      have hBw : Below w.heap.size w X := HB0.out.trans (hBW.mono HB0.out.size)
      have HCN := Lib.hid (new_any A4 (some ⟨w5.heap.size + 1, 0, none⟩) 4 1 c4 1 2 exMs [(exV total, ⟨some ⟨wr.heap.size, 0, none⟩, 1, 1⟩)] X HC4.out ((HS4.out.up hBW (Nat.le_refl _)).more hBW.size) (fun m hm => by
          simp only [exMs, List.mem_cons, List.not_mem_nil, or_false] at hm
          rcases hm with rfl | rfl | rfl | rfl <;> exact ⟨by decide, by decide⟩)
        ⟨SlN.of_block (f := fP) (y := (exV total, ⟨some ⟨wr.heap.size, 0, none⟩, 1, 1⟩)) (t := 68) (fr := (0, 0)) hX1 (lt_of_block hX1), fun p hp => by
          obtain rfl := List.mem_singleton.1 hp
          exact ⟨rfl, SL.of_block (f := I) (xs := [0]) (t := 3) (fr := (0, 0)) hX0 (lt_of_block hX0)⟩⟩
        (fun p hp => by
          obtain rfl := List.mem_singleton.1 hp
          exact ⟨(show 1 ≤ 9223372036854775807 from by decide), (show (keyS 112).size ≤ 9223372036854775807 from by decide)⟩))
      have HBX := Lib.hid hBw
      refine (show Calls Tryz.prog 19 _ _ (NewP exMs [exV total] 2 X) from hX ▸ HCN.out).mono ?_
      clear hX hBX hX1 hBW hX0 hBw
      rintro e w7 h7
      have h8 := h7.r HBX.out
      have H8 := Lib.hid h8
      rcases h7 with ⟨h0, h7⟩ | ⟨h0, h7, h7'⟩
      · obtain ⟨g, lab, he, _⟩ := h7.cir
        subst he
        clear h7 h8 h0
        go_wp2
        go_ret2
        exact H8.out
      · subst h7
        clear h7' h8 h0
        go_wp2
        go_ret2
        exact H8.out
end Go.Proofs.YtkeicjokekmkpaaGreat
