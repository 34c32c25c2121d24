/- gf256: MulAdd. -/
import Derived.Test.YtpbeaghghlfiaaaA4
namespace Go.Proofs.Ytpbeaghghlfiaaa
open Go.RowKit Go.Lib
set_option linter.unusedVariables false
set_option linter.unusedSimpArgs false
theorem Own.cells' {α : Type} {f : α → Value} {t : TypeId} {w : World} {base : Nat} {v : Value} {xs : List α} (h : Own f t w base v xs) (h0 : 0 < xs.length) : ∃ g cap cur, v = .slice (some ⟨g, 0, none⟩) xs.length cap ∧ base ≤ g ∧ w.heap[g]? = some (.cells cur t (0, 0)) ∧ xs.length ≤ cur.size ∧ ∀ (k : Nat) x, xs[k]? = some x → cur[k]? = some (f x) := by
  rcases h.2 with ⟨_, hn⟩ | ⟨g, cap, cur, rfl, hb, hg, h1, h2, h3, h4⟩
  · omega
  · refine ⟨g, cap, cur, rfl, hb, hg, by omega, fun k x hx => ?_⟩
    have hk := (List.getElem?_eq_some_iff.1 hx).1
    have h5 : (xs.map f)[k]? = some (f x) := by simp [hx]
    rw [← h4, Nat.mul_one, List.getElem?_take_of_lt hk] at h5
    rwa [Array.getElem?_toList] at h5
theorem Own.stored {α : Type} {f : α → Value} {t : TypeId} {w w' : World} {base g : Nat} {n cap : Nat} {xs : List α} {cur : Array Value} {k : Nat} {x : α} (h : Own f t w base (.slice (some ⟨g, 0, none⟩) n cap) xs) (hg : w.heap[g]? = some (.cells cur t (0, 0))) (hg' : w'.heap[g]? = some (.cells (cur.setIfInBounds k (f x)) t (0, 0))) (hk : k < xs.length) : Own f t w' base (.slice (some ⟨g, 0, none⟩) n cap) (xs.set k x) := by
  refine ⟨by simp, ?_⟩
  rcases h.2 with ⟨hn, _⟩ | ⟨g', cap', cur', e, hb, hg2, h1, h2, h3, h4⟩
  · cases hn
  · injection e with e1 e2 e3
    injection e1 with e1
    injection e1 with e1 _ _
    subst e1 e3
    rw [hg] at hg2
    injection hg2 with hg2
    injection hg2 with hg2 _ _
    subst hg2
    refine .inr ⟨g, cap, _, by rw [e2, List.length_set], hb, hg', by rw [List.length_set]; exact h1, h2, by simpa using h3, ?_⟩
    rw [List.length_set, List.map_set, ← h4, Array.toList_setIfInBounds]
    rw [Nat.mul_one, List.take_set]
theorem Own.shape' {α : Type} {f : α → Value} {t : TypeId} {w : World} {base : Nat} {v : Value} {xs : List α} (h : Own f t w base v xs) : ∃ A c, v = .slice A xs.length c ∧ xs.length ≤ c := by
  obtain ⟨A, c, h1, h2, _, _⟩ := h.shape
  exact ⟨A, c, h1, h2⟩
/-- Half of the sums are done. -/
def mixK (s d : List Nat) (k : Nat) : List Nat := (addv s d).take k ++ s.drop k
theorem mixK_zero (s d : List Nat) : mixK s d 0 = s := by simp [mixK]
theorem mixK_len {s d : List Nat} (h : d.length = s.length) (k : Nat) : (mixK s d k).length = s.length := by
  have := addv_len (u := s) (v := d) rfl h
  unfold mixK
  rw [List.length_append, List.length_take, List.length_drop, this]
  omega
theorem mixK_all {s d : List Nat} (h : d.length = s.length) : mixK s d s.length = addv s d := by
  have := addv_len (u := s) (v := d) rfl h
  unfold mixK
  rw [List.drop_length, List.append_nil, List.take_of_length_le (by omega)]
theorem mixK_get {s d : List Nat} (h : d.length = s.length) (k : Nat) (hk : k < s.length) : (mixK s d k)[k]? = s[k]? := by
  have := addv_len (u := s) (v := d) rfl h
  unfold mixK
  rw [List.getElem?_append_right (by rw [List.length_take]; omega), List.length_take, this, List.getElem?_drop]
  congr 1
  omega
theorem mixK_step {s d : List Nat} {k x y : Nat} (h : d.length = s.length) (hs : s[k]? = some x) (hd : d[k]? = some y) : (mixK s d k).set k (x ^^^ y) = mixK s d (k + 1) := by
  have hl := addv_len (u := s) (v := d) rfl h
  obtain ⟨hk, rfl⟩ := List.getElem?_eq_some_iff.1 hs
  obtain ⟨hk2, rfl⟩ := List.getElem?_eq_some_iff.1 hd
  have ha : (addv s d)[k]? = some (s[k] ^^^ d[k]) := by
    unfold addv
    rw [List.getElem?_zipWith, hs, hd]
  unfold mixK
  rw [List.set_append_right _ _ (by rw [List.length_take]; omega), List.length_take, hl, Nat.min_eq_left (Nat.le_of_lt hk), Nat.sub_self, List.drop_eq_getElem_cons hk, List.set_cons_zero, List.take_add_one, ha, List.append_assoc]
  rfl
/-- MulAdd. -/
def OwP2 (r : List Nat) (w : World) (e : Ending) (w' : World) : Prop := ∃ v, e = .returned (.tuple #[v, .int .i64 0]) ∧ Own fN T8 w' w.heap.size v r ∧ Below w.heap.size w w'
set_option maxRecDepth 20000 in
theorem mulAdd_any (A1 A2 : Option Addr) (n c1 c2 c B : Nat) (xs ys : List Nat) (w : World) (hx : Sl fN w B A1 n xs) (hy : Sl fN w B A2 n ys) (hB : B ≤ w.heap.size) (hbx : Bys xs) (hby : Bys ys) (hn : n ≤ 1000000) (hc : c < 256) :
    Calls Try.prog 46 #[.slice A1 n c1, .slice A2 n c2, fN c] w (OwP2 (addv (sclv c ys) xs) w) := by
  obtain ⟨hxl, hxs⟩ := hx
  obtain ⟨hyl, hys⟩ := hy
  obtain ⟨s, hs⟩ : ∃ s, sclv c ys = s := ⟨_, rfl⟩
  have hsl : s.length = n := by rw [← hs, sclv_len]; exact hyl
  have hsb : Bys s := by rw [← hs]; exact sclv_bys hc
  have HSC : Hid (Calls Try.prog 51 #[.slice A2 n c2, fN c] w (OwP s w)) := by
    have := scale_any A2 c2 c B ys w hys hB hby (by omega) hc
    rw [hyl, hs] at this
    exact this
  have HSL := Lib.hid hsl
  have HXL := Lib.hid hxl
  have HX := Lib.hid hxs
  have HB := Lib.hid hB
  have HYX := Lib.hid hbx
  have HYS := Lib.hid hsb
  have HD : Hid (xs.length = s.length) := hxl.trans hsl.symm
  have hM0 : ∀ wr v, Own fN T8 wr w.heap.size v s → Hid (Own fN T8 wr w.heap.size v (mixK s xs 0)) := fun wr v h => by show Own ..; rw [mixK_zero]; exact h
  have HM0 := Lib.hid hM0
  rw [hs]
  clear hB hbx hby hs hsl hsb hxl hyl hxs hys hc hM0
  go_enter Try.func46, Try.ntmps46
  go_wp2_with (go_at_call 51; (with_reducible refine HSC.out.mono ?_); rintro e w1 ⟨v, rfl, ho, hb1⟩; (obtain ⟨SA, sc, hv, hcap⟩ := ho.shape'); rw [HSL.out] at hv hcap; subst hv; (have HO1 := HM0.out _ _ ho); (have HB1 := Lib.hid hb1); clear ho hb1)
  go_loopw [21] (fun i wr => ∃ k : Nat, k ≤ n ∧ i = .int .i64 k ∧ Hid (Below w.heap.size w wr) ∧ Hid (Own fN T8 wr w.heap.size (.slice SA n sc) (mixK s xs k))) (fun i _ => n - (intOf i).toNat)
  case atStart => exact ⟨0, Nat.zero_le _, rfl, HB1, HO1⟩
  case round =>
    clear HB1 HO1 HM0 HSC
    obtain ⟨k, hk, rfl, HR, HO⟩ := hrel
    by_cases hlt : k < n
    · have hkI : (k : Int) < (n : Int) := by omega
      obtain ⟨b, off, y, rfl, hbB, hyk, hcy⟩ := (SL.up HX.out HR.out HB.out).at_ (k := k) (by rw [HXL.out]; exact hlt)
      obtain ⟨x, hxk⟩ := get_ex (xs := s) (k := k) (by rw [HSL.out]; exact hlt)
      have hml := mixK_len HD.out k
      rw [HSL.out] at hml
      obtain ⟨g, cap, cur, hv, hbg, hg, hsz, hcur⟩ := HO.out.cells' (by omega)
      injection hv with hv1 hv2 hv3
      subst hv1 hv3
      have hgx : wr.cell? ⟨g, k, none⟩ = some (fN x) := by rw [cell_of_row wr g _ _ _ _ hg]; exact hcur k x (by rw [mixK_get HD.out k (by rw [HSL.out]; exact hlt)]; exact hxk)
      have HG := Lib.hid hg
      have hkc : k < cur.size := by omega
      have hxy := u8_xor (HYS.out x (List.mem_of_getElem? hxk)) (HYX.out y (List.mem_of_getElem? hyk))
      have HST := Lib.hid (mixK_step HD.out hxk hyk)
      have HGB : Hid (w.heap.size ≤ g) := hbg
      have HKL : Hid (k < (mixK s xs k).length) := by show _ < _; omega
      clear hbg hg hcur hxk hyk hml hv2 hsz
      go_wp2_with ((with_reducible refine wpList_store_at1 rfl 5 (.tmp 32) (.tmp 31) rfl g T8 k cur (fN (x ^^^ y)) rfl rfl HG.out hkc Try.sizeB rfl ?_); intro W5 HG5 HB5)
      have HO5 := Own.stored (x := x ^^^ y) HO.out HG.out HG5.out HKL.out
      rw [HST.out] at HO5
      go_roundw
      case rel => exact ⟨k + 1, by omega, by go_num, HB5.out.below HR.out HR.out.size (fun i hi => by subst hi; exact HGB.out), HO5⟩
      case measure => simp [intOf]; omega
    · obtain rfl : k = n := by omega
      have HE := mixK_all HD.out
      rw [HSL.out] at HE
      go_wp2_with fail
      go_ret2
      exact ⟨_, rfl, by rw [← HE]; exact HO.out, HR.out⟩
end Go.Proofs.Ytpbeaghghlfiaaa
