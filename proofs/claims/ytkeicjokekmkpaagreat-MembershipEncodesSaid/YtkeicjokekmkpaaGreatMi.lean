/- What a vote turns. The reference's values made. -/
import Derived.Test.YtkeicjokekmkpaaGreatAdm
import Derived.Laws.OwnMore
import Derived.Test.YtkeicjokekmkpaaGreatMf
import Derived.Test.YtkeicjokekmkpaaGreatMg
namespace Go.Proofs.YtkeicjokekmkpaaGreat
open Go.RowKit Mb
set_option linter.unusedVariables false
set_option linter.unusedSimpArgs false

theorem flat_set {α : Type} {f : α → List Value} {s : Nat} (hs : ∀ x, (f x).length = s) {x y : α} {j : Nat} {u : Value} (hy : f y = (f x).set j u) (hj : j < s) : ∀ (xs : List α) (k : Nat), xs[k]? = some x → (xs.flatMap f).set (k * s + j) u = (xs.set k y).flatMap f
  | [], k, h => by simp at h
  | z :: xs, 0, h => by
    simp at h; subst h
    rw [List.set_cons_zero, List.flatMap_cons, List.flatMap_cons, Nat.zero_mul, Nat.zero_add, List.set_append_left _ _ (by rw [hs]; exact hj), hy]
  | z :: xs, k + 1, h => by
    rw [List.set_cons_succ, List.flatMap_cons, List.flatMap_cons, List.set_append_right _ _ (by rw [hs, Nat.succ_mul]; omega), hs]
    have : (k + 1) * s + j - s = k * s + j := by rw [Nat.succ_mul]; omega
    rw [this, flat_set hs hy hj xs k (by simpa using h)]
/-- One cell of an element written. -/
theorem OwnN.stored {α : Type} {f : α → List Value} {s : Nat} {e : TypeId} {w : World} {base gb n c : Nat} {xs : List α} (hs : ∀ x, (f x).length = s) (h : OwnN f s e w base (.slice (some ⟨gb, 0, none⟩) n c) xs) {x y : α} {k j : Nat} {u : Value} (hy : f y = (f x).set j u) (hj : j < s) (hx : xs[k]? = some x) :
    OwnN f s e (w.setCell ⟨gb, k * s + j, none⟩ u) base (.slice (some ⟨gb, 0, none⟩) n c) (xs.set k y) ∧ w.grownBy (w.setCell ⟨gb, k * s + j, none⟩ u) (some gb) := by
  have hn : n = xs.length := by
    rcases h.2 with ⟨h', _⟩ | ⟨g', cap', cur, h', _⟩
    · cases h'
    · simp at h'; exact h'.2.1
  subst hn
  obtain ⟨h1, h2⟩ := World.ownsRow.stored h (k * s + j) u
  refine ⟨?_, h2⟩
  unfold OwnN
  rw [List.length_set, ← flat_set hs hy hj xs k hx]
  exact h1
theorem OwnN.cell {α : Type} {f : α → List Value} {s : Nat} {e : TypeId} {w : World} {base gb n c : Nat} {xs : List α} (hs : ∀ x, (f x).length = s) (h : OwnN f s e w base (.slice (some ⟨gb, 0, none⟩) n c) xs) {x : α} {k j : Nat} (hj : j < s) (hx : xs[k]? = some x) :
    w.cell? ⟨gb, k * s + j, none⟩ = (f x)[j]? ∧ w.frozen? ⟨gb, k * s + j, none⟩ = false := by
  have hn : n = xs.length := by
    rcases h.2 with ⟨h', _⟩ | ⟨g', cap', cur, h', _⟩
    · cases h'
    · simp at h'; exact h'.2.1
  subst hn
  have hk := (List.getElem?_eq_some_iff.1 hx).1
  refine ⟨?_, World.ownsRow.frozenAt h _⟩
  rw [World.ownsRow.cellAt h _ (by
    calc k * s + j < k * s + s := by omega
      _ = (k + 1) * s := by rw [Nat.succ_mul]
      _ ≤ xs.length * s := Nat.mul_le_mul_right _ hk), flat_get hs xs k j x hx hj]
section
variable {w w1 : World} {lab : Nat → Nat} {g : Nat} {S : Cst} {vm vv : Value} {bm : Nat} {vfm vfv vc : Value} {ps1 ps2 : List VP}
/-- One block of a circle turned, none came. -/
theorem one_kep {b r : Nat} (hg : w.grownBy w1 (some b)) (hb : lab b = r) : Kep w w1 lab lab r :=
  ⟨hg.size, fun _ _ => rfl, fun k hk _ _ hr => hg.block k hk (fun e => hr (by injection e with e; rw [e]; exact hb))⟩
theorem one_fr {b r : Nat} (hg : w.grownBy w1 (some b)) (hb : lab b = r) (hr : r ≠ 0) : Fr w lab w1 lab :=
  ⟨hg.os, hg.tape, hg.output, hg.size, fun _ _ => rfl, fun k hk h0 => hg.block k hk (fun e => hr (by injection e with e; rw [← hb, ← e, h0]))⟩
theorem one_cell {b r : Nat} (h : CirP w lab g S vm vv bm vfm vfv vc ps1 ps2) (hg : w.grownBy w1 (some b)) (hb : lab b = r) (hr : r ≠ 1) : w1.heap[g]? = some (.cells #[vm, vv, .int .i64 S.s.q, .map (some bm), vfm, vfv, vc] 81 (0, 0)) :=
  (hg.block g (h.lt (by rw [h.lg]; decide)) (fun e => hr (by injection e with e; rw [← hb, ← e, h.lg]))).trans h.cell
/-- One vote more. -/
theorem CirP.addV (h : CirP w lab g S vm vv bm vfm vfv vc ps1 ps2) {a b : Int} (hg : w.grownBy w1 (some bm)) (hm : MapV w1 bm (S.s.votes.length + 1) (fun u v => if u = a ∧ v = b then true else S.s.votes.contains (u, v))) :
    CirP w1 lab g { S with s := vot1 S.s a b } vm vv bm vfm vfv vc ps1 ps2 := by
  have k := one_kep hg h.lmp
  obtain ⟨v1, v2, v3⟩ := h.kvs k (by decide)
  obtain ⟨f1, f2, f3⟩ := h.kfv k (by decide)
  refine ⟨(one_cell (S := S) h hg h.lmp (by decide) :), h.lg, (h.kms k (by decide)).1, (h.kms k (by decide)).2, v1, h.evs, v2, v3, ?_, h.lmp, (h.kfm k (by decide)).1, (h.kfm k (by decide)).2, f1, h.efv, f2, f3, (h.kch k (by decide)).1, (h.kch k (by decide)).2, fun j hj => h.top j (Nat.le_trans hg.size hj)⟩
  have e : (vot1 S.s a b).votes.length = S.s.votes.length + 1 := by simp [vot1]
  show MapV w1 bm (vot1 S.s a b).votes.length _
  rw [e]
  refine hm.congr fun x y => ?_
  rw [Bool.eq_iff_iff]
  simp only [vot1]
  by_cases hxy : x = a ∧ y = b
  · simp [hxy]
  · rw [if_neg hxy]
    simp [hxy]
/-- A member expelled. -/
theorem CirP.outM {gb n c d : Nat} {m : Mem} (h : CirP w lab g S (.slice (some ⟨gb, 0, none⟩) n c) vv bm vfm vfv vc ps1 ps2) (hd : S.s.ms[d]? = some m) :
    CirP (w.setCell ⟨gb, d * 5 + 4, none⟩ (.bool true)) lab g { S with s := { S.s with ms := expel S.s.ms d } } (.slice (some ⟨gb, 0, none⟩) n c) vv bm vfm vfv vc ps1 ps2 ∧ Fr w lab (w.setCell ⟨gb, d * 5 + 4, none⟩ (.bool true)) lab := by
  have hlg : lab gb = 3 := h.lms gb rfl
  obtain ⟨h1, hg⟩ := h.ms.stored fM_len (x := m) (y := m.out) (k := d) (j := 4) (u := .bool true) rfl (by decide) hd
  have k := one_kep hg hlg
  obtain ⟨v1, v2, v3⟩ := h.kvs k (by decide)
  obtain ⟨f1, f2, f3⟩ := h.kfv k (by decide)
  refine ⟨⟨(one_cell (S := S) h hg hlg (by decide) :), h.lg, ?_, h.lms, v1, h.evs, v2, v3, (h.kmp k (by decide)).1, h.lmp, (h.kfm k (by decide)).1, (h.kfm k (by decide)).2, f1, h.efv, f2, f3, (h.kch k (by decide)).1, (h.kch k (by decide)).2, fun j hj => h.top j (Nat.le_trans hg.size hj)⟩, one_fr hg hlg (by decide)⟩
  have e : expel S.s.ms d = S.s.ms.set d m.out := by
    unfold expel
    apply List.ext_getElem?
    intro i
    rw [List.getElem?_modify, List.getElem?_set]
    by_cases hi : d = i
    · subst hi
      rw [hd, if_pos rfl, if_pos (List.getElem?_eq_some_iff.1 hd).1]
      simp
    · simp [hi]
  show OwnN fM 5 _ _ 0 _ (expel S.s.ms d)
  rw [e]
  exact h1
end
section
variable {P : Program} {w : World}
/-- A vote written into the map. -/
theorem wpList_updV {ops : Array Oper} {rest : List Oper} {o : Oper} {a : Act} {Q : Exit → Act → World → Prop} (hg : o.guard = none) (m x v : Operand) (hop : o.op = Op.mapUpdate 78 m x v) {b n : Nat} {F : Int → Int → Bool}
    (hm : a.eval m = .map (some b)) (hown : MapV w b n F) (hn : n < maxLen) (x0 y0 : Int) (hx : a.eval x = .agg #[.int .i64 x0, .int .i64 y0]) (hv : a.eval v = .bool true) (h0 : int64 x0) (h1 : int64 y0)
    (hK : ∀ w', Hid (MapV w' b (n + 1) (fun u v => if u = x0 ∧ v = y0 then true else F u v)) → Hid (w.grownBy w' (some b)) → wpList Tryz.prog ops Q rest (a.put o.dst undef) w') : wpList Tryz.prog ops Q (o :: rest) a w := by
  refine wpList_plain hg fun K' hK' => ?_
  obtain ⟨w', hrun, r1, r2⟩ := hown.store hn x0 y0 h0 h1 true
  unfold pV at hrun
  unfold Oper.wp
  simp [execOp, hop, hm, hx, hv, hrun, Result.andThen]
  exact hK' _ _ (hK w' r1 r2)
end
end Go.Proofs.YtkeicjokekmkpaaGreat
namespace Go.Proofs.YtkeicjokekmkpaaGreat
open Go.RowKit Mb
set_option linter.unusedVariables false
set_option linter.unusedSimpArgs false

theorem Tryz.sizeVl : (Tryz.prog.info? 96).map (·.size) = some 6 := by kernel_rfl
abbrev aVl (x : Vl) : Value := .agg (fVl x).toArray
theorem fVl_all (x : Vl) : (fVl x).toArray.all (·.oneCell') = true := by
  rw [Array.all_eq_true']
  intro u hu
  exact fVl_one x u (by simpa using hu)
set_option maxRecDepth 20000 in
theorem rnumber_any (n : Int) (w : World) (h0 : 0 ≤ n) (h1 : n ≤ 9223372036854775807) :
    Calls Tryz.prog 35 #[.int .i64 n] w fun e w' => e = .returned (aVl (vN n)) ∧ Below w.heap.size w w' := by
  have hw : n % 18446744073709551616 = n := by omega
  go_enter Tryz.func35, Tryz.ntmps35
  go_wp2_with (refine wpList_store_new (o := ⟨none, .store 96 (.tmp 2) (.tmp 5), _, _, _, _⟩) rfl 96 (.tmp 2) (.tmp 5) rfl 96 _ (fVl (vN n)).toArray rfl rfl Tryz.sizeVl rfl (fVl_all _) ?_)
  exact bodyPost_ret (results_cell_row rfl _ _ _ _ (fVl (vN n)).toArray _ _ rfl (heap_alloc_new w _) Tryz.underlying96 rfl Tryz.sizeVl) rfl ⟨rfl, (Below.refl _ _).alloc (Nat.le_refl _) _⟩
set_option maxRecDepth 20000 in
theorem rcount_any (n : Nat) (w : World) :
    Calls Tryz.prog 33 #[.int .i64 n] w fun e w' => e = .returned (aVl (vC n)) ∧ Below w.heap.size w w' := by
  go_enter Tryz.func33, Tryz.ntmps33
  go_wp2_with (refine wpList_store_new (o := ⟨none, .store 96 (.tmp 2) (.tmp 4), _, _, _, _⟩) rfl 96 (.tmp 2) (.tmp 4) rfl 96 _ (fVl (vC n)).toArray rfl rfl Tryz.sizeVl rfl (fVl_all _) ?_)
  exact bodyPost_ret (results_cell_row rfl _ _ _ _ (fVl (vC n)).toArray _ _ rfl (heap_alloc_new w _) Tryz.underlying96 rfl Tryz.sizeVl) rfl ⟨rfl, (Below.refl _ _).alloc (Nat.le_refl _) _⟩
end Go.Proofs.YtkeicjokekmkpaaGreat
