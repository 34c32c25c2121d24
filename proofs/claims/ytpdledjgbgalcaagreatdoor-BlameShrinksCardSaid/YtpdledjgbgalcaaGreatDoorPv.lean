/- EncodeAccusation. An acquittal's body, read back. The reference's Token; the law's short; an accusation's body read back. The reference's Counts. Small views; a view as the reference's. A view opened, with its weights: no body is greater than any machine can hold. -/
import Derived.Test.YtpdledjgbgalcaaGreatDoorPp
import Derived.Test.YtpdledjgbgalcaaGreatDoorPg
import Derived.Test.YtpdledjgbgalcaaGreatDoorMc
import Derived.Test.YtpdledjgbgalcaaGreatDoorQ5
import Derived.Test.YtpdledjgbgalcaaGreatDoorNP
import Derived.Test.YtpdledjgbgalcaaGreatDoorPh
import Derived.SizedLaws
namespace Go.Proofs.YtpdledjgbgalcaaGreatDoor
open Go.RowKit Go.Lib
set_option linter.unusedVariables false
set_option linter.unusedSimpArgs false
end Go.Proofs.YtpdledjgbgalcaaGreatDoor
namespace Go.Proofs.YtpdledjgbgalcaaGreatDoor
open Go.RowKit
set_option linter.unusedVariables false
set_option linter.unusedSimpArgs false
end Go.Proofs.YtpdledjgbgalcaaGreatDoor
namespace Go.Proofs.YtpdledjgbgalcaaGreatDoor
open Go.RowKit Go.Lib
set_option linter.unusedVariables false
set_option linter.unusedSimpArgs false
end Go.Proofs.YtpdledjgbgalcaaGreatDoor
namespace Go.Proofs.YtpdledjgbgalcaaGreatDoor
open Go.RowKit Go.Lib
set_option linter.unusedVariables false
set_option linter.unusedSimpArgs false
end Go.Proofs.YtpdledjgbgalcaaGreatDoor
namespace Go.Proofs.YtpdledjgbgalcaaGreatDoor
open Go.RowKit Go.Lib
set_option linter.unusedVariables false
set_option linter.unusedSimpArgs false
/-- The bodies' lengths together. -/
def sumB : List EnR → Nat
  | [] => 0
  | e :: t => e.bd.n + sumB t
theorem sumB_snoc : ∀ (es : List EnR) (e : EnR), sumB (es ++ [e]) = sumB es + e.bd.n
  | [], e => by simp [sumB]
  | a :: t, e => by
    rw [List.cons_append, sumB, sumB_snoc t e, sumB]
    omega
/-- Bodies that any machine can hold. -/
def smB (es : List EnR) : Prop := ∀ e ∈ es, e.bd.n ≤ 140737488355328
theorem sumB_le : ∀ (es : List EnR), smB es → sumB es ≤ es.length * 140737488355328
  | [], _ => by simp [sumB]
  | e :: t, h => by
    have h1 := h e List.mem_cons_self
    have h2 := sumB_le t (fun x hx => h x (List.mem_cons_of_mem _ hx))
    rw [sumB, List.length_cons, Nat.succ_mul]
    omega
theorem smB_take {es : List EnR} (h : smB es) (k : Nat) : smB (es.take k) := fun e he => h e (List.mem_of_mem_take he)
def FewB (x : Vw) (es : List EnR) : Prop := x.E.n ≤ 12 ∧ x.V.n ≤ 4 ∧ x.P.n ≤ 14 ∧ x.D.n ≤ 10 ∧ x.F.n ≤ 10 ∧ (smB es → sumB es ≤ 30000)
def FewP (x : Vw) (es : List EnR) (w : World) (e : Ending) (w' : World) : Prop := ∃ t : Bool, e = .returned (.bool t) ∧ (t = true → FewB x es) ∧ Below w.heap.size w w'
set_option maxRecDepth 100000 in
set_option maxHeartbeats 8000000 in
theorem few_any (x : Vw) (es : List EnR) (B : Nat) (w : World) (hE : EnIn w B x.E.a x.E.n es) (hB : B ≤ w.heap.size) (hEc : x.E.n ≤ 9223372036854775807) :
    Calls Tryz.prog 9 #[.agg (cVw x)] w (FewP x es w) := by
  obtain ⟨W1, hW1⟩ : ∃ W1 : World, W1 = w.alloc (.cells (cVw x) 29) := ⟨_, rfl⟩
  have hb1 : Below w.heap.size w W1 := by rw [hW1]; exact (Below.refl _ _).alloc (Nat.le_refl _) _
  have hge : W1.heap[w.heap.size]? = some (.cells (cVw x) 29 (0, 0)) := by rw [hW1]; exact heap_alloc_new w _
  obtain ⟨v0, v1, v2, v3, v4, v5, v6⟩ := cellsV hge
  have HX : Hid (EnIn W1 B x.E.a x.E.n es) := hE.up hb1 hB
  have HEL : Hid (es.length = x.E.n) := hE.1.1
  have HB1 := Lib.hid hb1
  have HWE := Lib.hid hW1
  have HS0 : Hid (smB es → (0 : Int) = (sumB (es.take 0) : Int)) := fun _ => by simp [sumB]
  clear hE hB hb1 hge hW1
  go_enter Tryz.func9, Tryz.ntmps9
  go_upto_region 1 with fail
  rw [← HWE.out]
  go_upto_region 3 with fail
  go_loopw [3, 4] (fun u i wr => (∃ (k : Nat) (s : Int), k ≤ x.E.n ∧ k ≤ 20 ∧ i = .int .i64 k ∧ u = .int .i64 s ∧ Hid (smB es → s = (sumB (es.take k) : Int))) ∧ W1 = wr) (fun _ i _ => 20 - (intOf i).toNat)
  case atStart => exact ⟨⟨0, 0, by omega, by omega, rfl, rfl, HS0⟩, rfl⟩
  case round =>
    clear HS0
    obtain ⟨⟨k, s, hk, hk20, rfl, rfl, HSM⟩, rfl⟩ := hrel
    by_cases hlt : k < x.E.n
    · by_cases h20 : k < 20
      · have hkI : (k : Int) < (x.E.n : Int) := by omega
        have hkI2 : (k : Int) < 20 := by omega
        have hk0 : (0 : Int) ≤ (k : Int) := by omega
        obtain ⟨be, oe, e, hAe, _, hge, hce⟩ := HX.out.1.at_ (k := k) hlt
        have k4 := hce 4 _ rfl
        rw [← Nat.add_assoc] at k4
        rw [hAe] at v0
        have HS2 : Hid (smB es → wrap64 (s + (e.bd.n : Int)) = (sumB (es.take (k + 1)) : Int)) := fun hs => by
          have h1 := HSM.out hs
          have h2 := sumB_le (es.take (k + 1)) (smB_take hs _)
          have h3 : (es.take (k + 1)).length ≤ 20 := by rw [List.length_take]; omega
          have h4 : sumB (es.take (k + 1)) = sumB (es.take k) + e.bd.n := by rw [take_snoc hge, sumB_snoc]
          have h5 : (es.take (k + 1)).length * 140737488355328 ≤ 20 * 140737488355328 := Nat.mul_le_mul_right _ h3
          rw [h1, h4]
          rw [IntWalk.wrap64_in _ (by omega)]
          simp
        clear hce hge
        go_wp2
        refine ⟨?rel, ?measure⟩
        case rel => exact ⟨⟨k + 1, _, by omega, by omega, by go_num, rfl, HS2⟩, by first | rfl | trivial⟩
        case measure => (simp [intOf] <;> omega)
      · -- PART many
        obtain rfl : k = 20 := by omega
        have hkI : ((20 : Nat) : Int) < (x.E.n : Int) := by omega
        have hkI3 : (20 : Int) < (x.E.n : Int) := by omega
        have h12 : ¬ (x.E.n : Int) ≤ 12 := by omega
        go_wp2
        go_ret
        exact ⟨false, rfl, (fun h => by cases h), HB1.out⟩
        -- END many
    · obtain rfl : x.E.n = k := by omega
      have HSF : Hid (smB es → s = (sumB es : Int)) := fun hs => by rw [HSM.out hs, List.take_of_length_le (by rw [HEL.out]; exact Nat.le_refl _)]
      have hkI : ¬ (x.E.n : Int) < (x.E.n : Int) := by omega
      clear HSM
      by_cases h1 : (x.E.n : Int) ≤ 12
      · by_cases h2 : s ≤ 30000
        · by_cases h3 : (x.V.n : Int) ≤ 4
          · by_cases h4 : (x.P.n : Int) ≤ 14
            · by_cases h5 : (x.D.n : Int) ≤ 10
              · by_cases h6 : (x.F.n : Int) ≤ 10
                · have HFB : Hid (FewB x es) := ⟨by omega, by omega, by omega, by omega, by omega, fun hs => by have := HSF.out hs; omega⟩
                  go_wp2
                  go_ret
                  exact ⟨true, rfl, fun _ => HFB.out, HB1.out⟩
                · go_wp2
                  go_ret
                  exact ⟨false, rfl, (fun h => by cases h), HB1.out⟩
              · go_wp2
                go_ret
                exact ⟨false, rfl, (fun h => by cases h), HB1.out⟩
            · go_wp2
              go_ret
              exact ⟨false, rfl, (fun h => by cases h), HB1.out⟩
          · go_wp2
            go_ret
            exact ⟨false, rfl, (fun h => by cases h), HB1.out⟩
        · go_wp2
          go_ret
          exact ⟨false, rfl, (fun h => by cases h), HB1.out⟩
      · go_wp2
        go_ret
        exact ⟨false, rfl, (fun h => by cases h), HB1.out⟩
end Go.Proofs.YtpdledjgbgalcaaGreatDoor
namespace Go.Proofs.YtpdledjgbgalcaaGreatDoor
open Go.ChangeShapes Go.WideShapes Go.ChangeAt Go.RowKit Go.Deep
set_option linter.unusedVariables false
set_option linter.unusedSimpArgs false
theorem wAll_mem {H : Type} {P : Program} {e : TypeId} : ∀ {l : List (DataW H)} {d : DataW H}, d ∈ l → ∀ n ∈ d.weights P e, n ∈ DataW.weightsAll P e l
  | d' :: r, d, hd, n, hn => by
    simp only [DataW.weightsAll, List.mem_append]
    rcases List.mem_cons.1 hd with rfl | h
    · exact Or.inl hn
    · exact Or.inr (wAll_mem h n hn)
theorem Tryz.bytesB : Tryz.prog.bytesOf 5 = 1 := by kernel_rfl
section
variable {H : Type} {enc : TypeId × Value → H} {W : World} {d : DataW H} {p : List MemPlace}
theorem w_btsM {fuel : Nat} {a : Option Addr} {n c : Nat} {x : DataW H × List MemPlace} (h : DataW.trod enc Tryz.prog W 0 (fun _ => true) true fuel 40 [.slice a n c] = some x)
    (hw : ∀ m ∈ x.1.weights Tryz.prog 40, m ≤ reachBytes) : n ≤ reachBytes := by
  rcases open_slice Tryz.underlying40 h with ⟨e, _⟩ | ⟨x, l, c', m, nn, D, Pl, e, _, hl, hm, hmm, hx, hi⟩
  · simp only [List.cons.injEq, Value.slice.injEq, and_true] at e
    obtain ⟨_, rfl, _⟩ := e
    exact Nat.zero_le _
  · simp only [List.cons.injEq, Value.slice.injEq, and_true] at e
    obtain ⟨_, rfl, rfl⟩ := e
    simp only [if_true] at hmm
    subst hmm hx
    have := hw _ (by simp only [DataW.weights, Tryz.underlying40]; exact List.mem_cons_self)
    simp only [List.length_map, List.length_range, Tryz.bytesB, Nat.mul_one] at this
    omega
set_option maxRecDepth 20000 in
theorem w_enr {fuel : Nat} {v : EnR} {x : DataW H × List MemPlace} (h : DataW.trod enc Tryz.prog W 0 (fun _ => true) true fuel 55 (fEn v) = some x)
    (hw : ∀ m ∈ x.1.weights Tryz.prog 55, m ≤ reachBytes) : v.bd.n ≤ reachBytes := by
  obtain ⟨ys, n, _, hx, hcl, hyl, hfld⟩ := DataW.trod_struct Tryz.underlying55 h
  obtain ⟨y0, y1, y2, y3, y4, y5, rfl⟩ := clist6 hyl
  have f4 : DataW.trod enc Tryz.prog W 0 (fun _ => true) true n 40 (((fEn v).drop 4).take (Tryz.prog.cellsOf 40)) = [y0, y1, y2, y3, y4, y5][4]? := hfld 4 _ rfl
  rw [Tryz.cellsLb] at f4
  have f4' : DataW.trod enc Tryz.prog W 0 (fun _ => true) true n 40 [.slice v.bd.a v.bd.n v.bd.c] = some y4 := f4
  subst hx
  refine w_btsM f4' fun m hm => hw m ?_
  simp only [DataW.weights, Tryz.underlying55]
  exact DataW.weights_mem_each (j := 4) rfl rfl m hm
/-- A slice of such elements that came in, with its weights. -/
theorem w_slice {α : Type} [Inhabited α] {f : α → List Value} {s : Nat} {t e : TypeId} (ht : Tryz.prog.underlying t = some (.slice e)) (hC : Tryz.prog.cellsOf e = s) (hs0 : 0 < s) (hf : ∀ x, (f x).length = s) {Pr : α → Prop}
    (hel : ∀ (fuel : Nat) (cs : List Value) (y : DataW H × List MemPlace), DataW.trod enc Tryz.prog W 0 (fun _ => true) true fuel e cs = some y → (∀ m ∈ y.1.weights Tryz.prog e, m ≤ reachBytes) → ∃ x, cs = f x ∧ Pr x) {fuel : Nat} {cs : List Value} {y : DataW H × List MemPlace}
    (h : DataW.trod enc Tryz.prog W 0 (fun _ => true) true fuel t cs = some y) (hw : ∀ m ∈ y.1.weights Tryz.prog t, m ≤ reachBytes) : ∃ a n c xs, cs = [.slice a n c] ∧ n ≤ c ∧ c ≤ maxLen ∧ SlN f s W W.heap.size a n xs ∧ ∀ x ∈ xs, Pr x := by
  rcases open_slice ht h with ⟨rfl, _⟩ | ⟨x, l, c, m, nn, D, Pl, rfl, _, hl, hm, hmm, hx, hi⟩
  · exact ⟨none, 0, 0, [], rfl, Nat.le_refl _, Nat.zero_le _, SlN.nil, fun x hx => by cases hx⟩
  · simp only [if_true] at hmm
    subst hmm hx
    have each : ∀ i, i < l → ∃ r : α, (∀ j v, (f r)[j]? = some v → W.cell? (x.add (i * s + j)) = some v) ∧ Pr r := by
      intro i hil
      obtain ⟨cs', hc, ht'⟩ := hi i (by omega)
      rw [hC] at hc
      obtain ⟨_, hcl, hat⟩ := World.cells?_some hc
      obtain ⟨r, rfl, hr⟩ := hel _ _ _ ht' (fun m hm' => hw m (by
        simp only [DataW.weights, ht, List.mem_cons, List.mem_append]
        exact Or.inr (Or.inl (wAll_mem (List.mem_map.2 ⟨i, List.mem_range.2 hil, rfl⟩) m hm'))))
      refine ⟨r, fun j v hv => ?_, hr⟩
      have hj : j < s := by have := (List.getElem?_eq_some_iff.1 hv).1; rw [hf] at this; exact this
      rw [← Go.Deep.add_add, hat j hj]
      exact hv
    obtain ⟨R, hR⟩ := choose_lt each
    refine ⟨some x, l, _, (List.range l).map R, rfl, hl, hm, ⟨by simp, fun hn => ?_⟩, fun z hz => ?_⟩
    · simp at hn
      obtain ⟨u, hu⟩ : ∃ u, (f (R 0))[0]? = some u := ⟨_, List.getElem?_eq_getElem (by rw [hf]; exact hs0)⟩
      have h0 := (hR 0 hn).1 0 u hu
      obtain ⟨b, off, spot⟩ := x
      have hspot : spot = none := by simpa [Addr.add] using World.cell?_spot h0
      subst hspot
      refine ⟨b, off, rfl, block_lt_of_cell (a := ⟨b, off, none⟩) (by simpa [Addr.add] using h0), fun i z hz' j v hv => ?_⟩
      rw [List.getElem?_map] at hz'
      have hil : i < l := by
        rcases Nat.lt_or_ge i l with h | h
        · exact h
        · rw [List.getElem?_eq_none (by simpa using h)] at hz'; cases hz'
      rw [List.getElem?_range hil] at hz'
      cases hz'
      have := (hR i hil).1 j v hv
      rw [Addr.add_mid] at this
      exact this
    · obtain ⟨i, hi', rfl⟩ := List.mem_map.1 hz
      exact (hR i (List.mem_range.1 hi')).2
set_option maxRecDepth 20000 in
theorem in_enrsS {fuel : Nat} {cs : List Value} {y : DataW H × List MemPlace} (h : DataW.trod enc Tryz.prog W 0 (fun _ => true) true fuel 22 cs = some y) (hw : ∀ m ∈ y.1.weights Tryz.prog 22, m ≤ reachBytes) : ∃ a n c xs, cs = [.slice a n c] ∧ n ≤ c ∧ c ≤ maxLen ∧ EnIn W W.heap.size a n xs ∧ smB xs := by
  obtain ⟨a, n, c, xs, e, h1, h0, h2, h3⟩ := w_slice (f := fEn) (s := 6) (Pr := fun v : EnR => EnOk W W.heap.size v ∧ v.bd.n ≤ reachBytes) Tryz.underlying22 Tryz.cellsEn (by decide) fEn_len (fun _ _ _ h hw => by obtain ⟨v, rfl, hv⟩ := in_enr h; exact ⟨v, rfl, hv, w_enr h hw⟩) h hw
  have h4 : ∀ x ∈ xs, EnOk W W.heap.size x ∧ x.bd.n ≤ reachBytes := h3
  have h5 : reachBytes ≤ 140737488355328 := of_decide_eq_true (by kernel_rfl)
  have h6 : ∀ x ∈ xs, x.bd.n ≤ 140737488355328 := fun x hx => Nat.le_trans (h4 x hx).2 h5
  exact ⟨a, n, c, xs, e, h1, h0, ⟨h2, fun x hx => And.left (h4 x hx)⟩, h6⟩
set_option maxRecDepth 20000 in
theorem in_viewS {fuel : Nat} {cs : List Value} {x : DataW H × List MemPlace} (h : DataW.trod enc Tryz.prog W 0 (fun _ => true) true fuel 29 cs = some x) (hw : ∀ m ∈ x.1.weights Tryz.prog 29, m ≤ reachBytes) : ∃ (q : Vw) (es : List EnR) (vs : List VtR) (pubs drs : List ByteArray) (fks : List Int), cs = (cVw q).toList ∧ VwIn W W.heap.size q es vs pubs drs fks ∧ smB es := by
  obtain ⟨ys, n, _, hxd, hcl, hyl, hfld⟩ := DataW.trod_struct Tryz.underlying29 h
  rw [Tryz.cellsVw] at hcl
  obtain ⟨c0, c1, c2, c3, c4, c5, c6, rfl⟩ := clist7 hcl
  obtain ⟨y0, y1, y2, y3, y4, y5, rfl⟩ := clist6 hyl
  have f0 : DataW.trod enc Tryz.prog W 0 (fun _ => true) true n 22 (([c0, c1, c2, c3, c4, c5, c6].drop 0).take (Tryz.prog.cellsOf 22)) = [y0, y1, y2, y3, y4, y5][0]? := hfld 0 _ rfl
  rw [Tryz.cellsLe] at f0
  have f1 : DataW.trod enc Tryz.prog W 0 (fun _ => true) true n 23 (([c0, c1, c2, c3, c4, c5, c6].drop 1).take (Tryz.prog.cellsOf 23)) = [y0, y1, y2, y3, y4, y5][1]? := hfld 1 _ rfl
  rw [Tryz.cellsLv] at f1
  have f2 : DataW.trod enc Tryz.prog W 0 (fun _ => true) true n 24 (([c0, c1, c2, c3, c4, c5, c6].drop 2).take (Tryz.prog.cellsOf 24)) = [y0, y1, y2, y3, y4, y5][2]? := hfld 2 _ rfl
  rw [Tryz.cellsLs] at f2
  have f3 : DataW.trod enc Tryz.prog W 0 (fun _ => true) true n 26 (([c0, c1, c2, c3, c4, c5, c6].drop 3).take (Tryz.prog.cellsOf 26)) = [y0, y1, y2, y3, y4, y5][3]? := hfld 3 _ rfl
  rw [Tryz.cellsSch] at f3
  have f4 : DataW.trod enc Tryz.prog W 0 (fun _ => true) true n 24 (([c0, c1, c2, c3, c4, c5, c6].drop 5).take (Tryz.prog.cellsOf 24)) = [y0, y1, y2, y3, y4, y5][4]? := hfld 4 _ rfl
  rw [Tryz.cellsLs] at f4
  have f5 : DataW.trod enc Tryz.prog W 0 (fun _ => true) true n 27 (([c0, c1, c2, c3, c4, c5, c6].drop 6).take (Tryz.prog.cellsOf 27)) = [y0, y1, y2, y3, y4, y5][5]? := hfld 5 _ rfl
  rw [Tryz.cellsLi] at f5
  obtain ⟨a0, n0, c0, x0, e0, l0, m0, h0, hs0⟩ := in_enrsS f0 (fun m hm => hw m (by
    subst hxd
    simp only [DataW.weights, Tryz.underlying29]
    exact DataW.weights_mem_each (j := 0) rfl rfl m hm))
  simp at e0
  subst e0
  obtain ⟨a1, n1, c1, x1, e1, l1, h1⟩ := in_vlts f1
  simp at e1
  subst e1
  obtain ⟨a2, n2, c2, x2, e2, l2, h2⟩ := in_strs f2
  simp at e2
  subst e2
  obtain ⟨zb, zh, e3⟩ := in_sch f3
  simp at e3
  obtain ⟨rfl, rfl⟩ := e3
  obtain ⟨a4, n4, c4, x4, e4, l4, h4⟩ := in_strs f4
  simp at e4
  subst e4
  obtain ⟨a5, n5, c5, x5, e5, l5, m5, h5⟩ := in_ilist f5
  simp at e5
  subst e5
  exact ⟨⟨⟨a0, n0, c0⟩, ⟨a1, n1, c1⟩, ⟨a2, n2, c2⟩, zb, zh, ⟨a4, n4, c4⟩, ⟨a5, n5, c5⟩⟩, x0, x1, x2, x4, x5, rfl, ⟨h0, h1, h2, h4, h5, Nat.le_trans l0 m0, l0, l1, l2, l4, l5⟩, hs0⟩
set_option maxRecDepth 20000 in
theorem w_viewS {r : Reach} {b0 : Nat} {v : Value} (hv : Value.okWide Tryz.prog W r b0 29 v) (h : DataW.Trod enc Tryz.prog W 0 (fun _ => true) true 29 v d p) (hw : ∀ m ∈ d.weights Tryz.prog 29, m ≤ reachBytes) : ∃ (q : Vw) (es : List EnR) (vs : List VtR) (pubs drs : List ByteArray) (fks : List Int), v = .agg (cVw q) ∧ VwIn W W.heap.size q es vs pubs drs fks ∧ smB es := by
  obtain ⟨cs, rfl, _⟩ := okWide_struct Tryz.underlying29 hv
  obtain ⟨fuel, hf⟩ := h
  obtain ⟨q, es, vs, pubs, drs, fks, e, h1⟩ := in_viewS hf hw
  refine ⟨q, es, vs, pubs, drs, fks, ?_, h1⟩
  congr 1
  have e' : cs.toList = (cVw q).toList := e
  have := congrArg List.toArray e'
  simpa using this
set_option maxRecDepth 20000 in
/-- An entry that came in. -/
theorem w_entS {r : Reach} {b0 : Nat} {v : Value} (hv : Value.okWide Tryz.prog W r b0 55 v) (h : DataW.Trod enc Tryz.prog W 0 (fun _ => true) true 55 v d p) : ∃ e : EnR, v = .agg (fEn e).toArray ∧ EnOk W W.heap.size e := by
  obtain ⟨cs, rfl, _⟩ := okWide_struct Tryz.underlying55 hv
  obtain ⟨fuel, hf⟩ := h
  obtain ⟨e, he, h1⟩ := in_enr hf
  refine ⟨e, ?_, h1⟩
  congr 1
  have e' : cs.toList = fEn e := he
  have := congrArg List.toArray e'
  simpa using this
end
end Go.Proofs.YtpdledjgbgalcaaGreatDoor
