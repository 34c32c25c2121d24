/- readInt, readMember. -/
import Derived.Test.YtkeicjokekmkpaaGreatMk
import Derived.Test.YtkeicjokekmkpaaGreatMn
import Derived.Test.YtkeicjokekmkpaaGreatMd
namespace Go.Proofs.YtkeicjokekmkpaaGreat
open Go.RowKit Mb
set_option linter.unusedVariables false
set_option linter.unusedSimpArgs false

theorem ri_any (g : Nat) (A : Option Addr) (n c : Nat) (bs : List Int) (s : RS) (w : World) (hr : RdS g A n c bs s w) (hk : RK bs n c) (hp : s.1 ≤ n) :
    Calls Tryz.prog 41 #[.pointer (some ⟨g, 0, none⟩)] w (RPost g A n c bs (.int .i64 (rI bs s).1) (rI bs s).2 w) := by
  have HC := Lib.hid (ru_any g A n c bs s w hr hk hp)
  have HE : Hid (rI bs s = (IntKind.i64.wrap (rU bs s).1, (rU bs s).2)) := rfl
  rw [HE.out]
  obtain ⟨z, s', hz⟩ : ∃ z s', rU bs s = (z, s') := ⟨_, _, rfl⟩
  rw [hz] at HC ⊢
  clear hr hz HE
  go_enter Tryz.func41, Tryz.ntmps41
  go_wp2_with fail
  refine HC.out.mono ?_
  rintro e w1 ⟨rfl, h1, h2⟩
  have H1 := Lib.hid h1
  have H2 := Lib.hid h2
  clear h1 h2
  go_wp2_with fail
  go_ret
  exact ⟨ret_int (show wrap64 z = IntKind.i64.wrap z by rw [IntKind.wrap_i64]; unfold wrap64; omega), H1.out, H2.out⟩
abbrev cMr (m : Mem) : Array Value := #[.int .i64 m.dev, .string m.name, .string m.pub, .int .i64 m.quota, .bool m.exp]
theorem cMr_one (m : Mem) : (cMr m).all (·.oneCell') = true := by
  rw [Array.all_eq_true']
  intro u hu
  simp only [cMr, List.mem_toArray, List.mem_cons, List.not_mem_nil, or_false] at hu
  rcases hu with rfl | rfl | rfl | rfl | rfl <;> rfl
theorem Tryz.sizeMi : (Tryz.prog.info? 40).map (·.size) = some 5 := by kernel_rfl
theorem RdS.set {g : Nat} {A : Option Addr} {n c : Nat} {bs : List Int} {s : RS} {w : World} (h : RdS g A n c bs s w) (x : Addr) (hx : g < x.block) (u : Value) : RdS g A n c bs s (w.setCell x u) :=
  h.but (p := fun k => k = x.block) (But.setCell (p := fun k => k = x.block) (But.refl _ _) (.inl rfl) u) (fun k hk e => by omega)
set_option maxRecDepth 20000 in
set_option maxHeartbeats 2000000 in
theorem rdmem_any (g : Nat) (A : Option Addr) (n c : Nat) (bs : List Int) (s : RS) (d : Int) (w : World) (hr : RdS g A n c bs s w) (hk : RK bs n c) (hp : s.1 ≤ n) :
    Calls Tryz.prog 39 #[.pointer (some ⟨g, 0, none⟩), .int .i64 d] w (RPost g A n c bs (aM (decM bs d s).1) (decM bs d s).2 w) := by
  have hl := hr.len
  have hgl := hr.lt
  obtain ⟨W, hW⟩ : ∃ W : World, W = w.alloc (.cells (cMr ⟨0, ⟨#[]⟩, ⟨#[]⟩, 0, false⟩) 40) := ⟨_, rfl⟩
  have hBW : Below w.heap.size w W := by rw [hW]; exact (Below.refl _ _).alloc (Nat.le_refl _) _
  have hZ : W.heap[w.heap.size]? = some (.cells (cMr ⟨0, ⟨#[]⟩, ⟨#[]⟩, 0, false⟩) 40 (0, 0)) := by rw [hW]; exact heap_alloc_new w _
  have HC1 := Lib.hid (rt_any g A n c bs s 16 (by decide) W (hr.on hBW) hk hp)
  have HBW := Lib.hid hBW
  have HZ := Lib.hid hZ
  have HWE := Lib.hid hW
  have hs1 : W.heap.size = w.heap.size + 1 := by rw [hW]; simp
  have HD : Hid (decM bs d s = (⟨d, (rT bs 16 s).1, (rS bs (rT bs 16 s).2).1, (rI bs (rS bs (rT bs 16 s).2).2).1, false⟩, (rI bs (rS bs (rT bs 16 s).2).2).2)) := rfl
  have hp1 := rT_le (m := 16) hl hp
  obtain ⟨nm, s1, e1⟩ : ∃ z s', rT bs 16 s = (z, s') := ⟨_, _, rfl⟩
  rw [e1] at HC1 HD hp1
  have hp2 := rS_le hl hp1
  obtain ⟨pb, s2, e2⟩ : ∃ z s', rS bs s1 = (z, s') := ⟨_, _, rfl⟩
  have HE2 := Lib.hid e2
  rw [e2] at HD hp2
  have hp3 := rI_le hl hp2
  obtain ⟨qt, s3, e3⟩ : ∃ z s', rI bs s2 = (z, s') := ⟨_, _, rfl⟩
  have HE3 := Lib.hid e3
  rw [e3] at HD hp3
  have HK := Lib.hid hk
  rw [HD.out]
  clear hr hk hl hBW hZ hW e1 e2 e3 HD hp3
  go_enter Tryz.func39, Tryz.ntmps39
  go_wp2_with fail
  rw [← HWE.out]
  refine HC1.out.mono ?_
  rintro e w1 ⟨rfl, r1, b1⟩
  have hsz1 : w.heap.size + 1 ≤ w1.heap.size := by have := b1.size; omega
  obtain ⟨W1, hW1⟩ : ∃ W : World, W = w1.alloc (.cells (cMr ⟨d, nm, ⟨#[]⟩, 0, false⟩) 40) := ⟨_, rfl⟩
  have hB1 : Below w1.heap.size w1 W1 := by rw [hW1]; exact (Below.refl _ _).alloc (Nat.le_refl _) _
  have hM1 : W1.heap[w1.heap.size]? = some (.cells (cMr ⟨d, nm, ⟨#[]⟩, 0, false⟩) 40 (0, 0)) := by rw [hW1]; exact heap_alloc_new w1 _
  have hbut1 : But (fun k => k = g) w W1 := ((But.of_below HBW.out).trans b1 (fun i hi => .inl hi)).trans (But.of_below (p := fun k => k = g) hB1) (fun i hi => .inl hi)
  have hz1 : W1.heap[w.heap.size]? = some (.cells (cMr ⟨0, ⟨#[]⟩, ⟨#[]⟩, 0, false⟩) 40 (0, 0)) := (hB1.block _ (by omega)).trans ((b1.block _ (by omega) (by omega)).trans HZ.out)
  have HC2 := Lib.hid (rs_any g A n c bs s1 W1 (r1.on hB1) HK.out hp1)
  rw [HE2.out] at HC2
  have HM1 := Lib.hid hM1
  have HBU1 := Lib.hid hbut1
  have HZ1 := Lib.hid hz1
  have HWE1 := Lib.hid hW1
  have hsW1 : W1.heap.size = w1.heap.size + 1 := by rw [hW1]; simp
  clear r1 b1 hB1 hM1 hbut1 hz1 hW1
  go_wp2_with fail
  rw [← HWE1.out]
  refine HC2.out.mono ?_
  rintro e w2 ⟨rfl, r2, b2⟩
  have hM2 : w2.heap[w1.heap.size]? = some (.cells (cMr ⟨d, nm, ⟨#[]⟩, 0, false⟩) 40 (0, 0)) := (b2.block _ (by omega) (by omega)).trans HM1.out
  have hz2 : w2.heap[w.heap.size]? = some (.cells (cMr ⟨0, ⟨#[]⟩, ⟨#[]⟩, 0, false⟩) 40 (0, 0)) := (b2.block _ (by omega) (by omega)).trans HZ1.out
  have hbut2 : But (fun k => k = g) w w2 := HBU1.out.trans b2 (fun i hi => .inl hi)
  obtain ⟨W2, hW2⟩ : ∃ W : World, W = w2.setCell ⟨w1.heap.size, 2, none⟩ (.string pb) := ⟨_, rfl⟩
  have hM3 : W2.heap[w1.heap.size]? = some (.cells (cMr ⟨d, nm, pb, 0, false⟩) 40 (0, 0)) := by rw [hW2]; exact heap_setCell_same _ _ 2 _ _ (.string pb) hM2
  have hz3 : W2.heap[w.heap.size]? = some (.cells (cMr ⟨0, ⟨#[]⟩, ⟨#[]⟩, 0, false⟩) 40 (0, 0)) := by rw [hW2]; exact (heap_setCell_other _ _ _ _ (by show w.heap.size ≠ w1.heap.size; omega)).trans hz2
  have hbut3 : But (fun k => k = g) w W2 := by rw [hW2]; exact hbut2.setCell (.inr (by show _ ≤ w1.heap.size; omega)) _
  have hr3 : RdS g A n c bs s2 W2 := by rw [hW2]; exact r2.set _ (by show g < w1.heap.size; omega) _
  have hcc := cell_of_row w2 w1.heap.size 2 _ _ _ hM2
  have hff := frozen_of_row w2 w1.heap.size 2 _ _ hM2
  simp at hcc
  have HC3 := Lib.hid (ri_any g A n c bs s2 W2 hr3 HK.out hp2)
  rw [HE3.out] at HC3
  have HM3 := Lib.hid hM3
  have HZ3 := Lib.hid hz3
  have HBU3 := Lib.hid hbut3
  have HWE2 := Lib.hid hW2
  clear r2 b2 hM2 hz2 hbut2 hM3 hz3 hbut3 hr3 hW2
  go_wp2_with fail
  rw [← HWE2.out]
  refine HC3.out.mono ?_
  rintro e w3 ⟨rfl, r3, b3⟩
  clear hcc hff
  have hlt3 := lt_of_block HM3.out
  have hM4 : w3.heap[w1.heap.size]? = some (.cells (cMr ⟨d, nm, pb, 0, false⟩) 40 (0, 0)) := (b3.block _ (by omega) (by omega)).trans HM3.out
  have hz4 : w3.heap[w.heap.size]? = some (.cells (cMr ⟨0, ⟨#[]⟩, ⟨#[]⟩, 0, false⟩) 40 (0, 0)) := (b3.block _ (by omega) (by omega)).trans HZ3.out
  have hbut4 : But (fun k => k = g) w w3 := HBU3.out.trans b3 (fun i hi => .inl hi)
  obtain ⟨W3, hW3⟩ : ∃ W : World, W = w3.setCell ⟨w1.heap.size, 3, none⟩ (.int .i64 qt) := ⟨_, rfl⟩
  have hM5 : W3.heap[w1.heap.size]? = some (.cells (cMr ⟨d, nm, pb, qt, false⟩) 40 (0, 0)) := by rw [hW3]; exact heap_setCell_same _ _ 3 _ _ (.int .i64 qt) hM4
  have hz5 : W3.heap[w.heap.size]? = some (.cells (cMr ⟨0, ⟨#[]⟩, ⟨#[]⟩, 0, false⟩) 40 (0, 0)) := by rw [hW3]; exact (heap_setCell_other _ _ _ _ (by show w.heap.size ≠ w1.heap.size; omega)).trans hz4
  have hbut5 : But (fun k => k = g) w W3 := by rw [hW3]; exact hbut4.setCell (.inr (by show _ ≤ w1.heap.size; omega)) _
  have hr5 : RdS g A n c bs s3 W3 := by rw [hW3]; exact r3.set _ (by show g < w1.heap.size; omega) _
  have hcc := cell_of_row w3 w1.heap.size 3 _ _ _ hM4
  have hff := frozen_of_row w3 w1.heap.size 3 _ _ hM4
  simp at hcc
  have HM5 := Lib.hid hM5
  have HZ5 := Lib.hid hz5
  have HBU5 := Lib.hid hbut5
  have HR5 := Lib.hid hr5
  have HWE3 := Lib.hid hW3
  clear r3 b3 hM4 hz4 hbut4 hM5 hz5 hbut5 hr5 hW3
  go_wp2_with (first
    | (refine wpList_load_row (o := ⟨some 16, _, _, _, _, _⟩) rfl 40 (.tmp 5) rfl w1.heap.size rfl 40 (cMr ⟨d, nm, pb, qt, false⟩) (0, 0) _ (by rw [← HWE3.out]; exact HM5.out) Tryz.underlying40 rfl Tryz.sizeMi ?_; rw [← HWE3.out])
    | (refine wpList_store_far (o := ⟨none, .store 40 (.tmp 4) (.tmp 16), _, _, _, _⟩) rfl 40 (.tmp 4) (.tmp 16) rfl w.heap.size 40 _ (cMr ⟨d, nm, pb, qt, false⟩) rfl rfl HZ5.out Tryz.sizeMi rfl (cMr_one _) 0 W3 (Below.refl _ _) (Nat.zero_le _) ?_; intro w4 HG4 hb4 HB4))
  have hg4 : But (fun k => k = w.heap.size) W3 w4 := (But.refl (fun k => k = w.heap.size) W3).grown HB4.out (fun k hk => .inl (by injection hk with hk; exact hk.symm))
  refine bodyPost_ret (results_cell_row rfl _ _ _ _ _ _ _ rfl HG4.out Tryz.underlying40 rfl Tryz.sizeMi) rfl ⟨rfl, HR5.out.but hg4 (fun k hk e => by omega), ?_⟩
  exact HBU5.out.trans hg4 (fun i hi => .inr (by omega))
end Go.Proofs.YtkeicjokekmkpaaGreat
