/- Small views; a view as the reference's. -/
import Derived.Test.YtpdledjgbgalcaaGreatDoorOv
import Derived.Test.YtpdledjgbgalcaaGreatDoorNR
namespace Go.Proofs.YtpdledjgbgalcaaGreatDoor
open Go.RowKit Go.Lib
set_option linter.unusedVariables false
set_option linter.unusedSimpArgs false
/-- The bodies' lengths together. -/
def sumB : List EnR → Nat
  | [] => 0
  | e :: t => e.bd.n + sumB t
theorem sumB_snoc : ∀ (es : List EnR) (e : EnR), sumB (es ++ [e]) = sumB es + e.bd.n
  | [], e => by simp [sumB]
  | a :: t, e => by
    rw [List.cons_append, sumB, sumB_snoc t e, sumB]
    omega
/-- Bodies that any machine can hold. -/
def smB (es : List EnR) : Prop := ∀ e ∈ es, e.bd.n ≤ 140737488355328
theorem sumB_le : ∀ (es : List EnR), smB es → sumB es ≤ es.length * 140737488355328
  | [], _ => by simp [sumB]
  | e :: t, h => by
    have h1 := h e List.mem_cons_self
    have h2 := sumB_le t (fun x hx => h x (List.mem_cons_of_mem _ hx))
    rw [sumB, List.length_cons, Nat.succ_mul]
    omega
theorem smB_take {es : List EnR} (h : smB es) (k : Nat) : smB (es.take k) := fun e he => h e (List.mem_of_mem_take he)
def FewB (x : Vw) (es : List EnR) : Prop := x.E.n ≤ 12 ∧ x.V.n ≤ 4 ∧ x.P.n ≤ 14 ∧ x.D.n ≤ 10 ∧ x.F.n ≤ 10 ∧ (smB es → sumB es ≤ 30000)
def FewP (x : Vw) (es : List EnR) (w : World) (e : Ending) (w' : World) : Prop := ∃ t : Bool, e = .returned (.bool t) ∧ (t = true → FewB x es) ∧ Below w.heap.size w w'
set_option maxRecDepth 100000 in
set_option maxHeartbeats 8000000 in
theorem few_any (x : Vw) (es : List EnR) (B : Nat) (w : World) (hE : EnIn w B x.E.a x.E.n es) (hB : B ≤ w.heap.size) (hEc : x.E.n ≤ 9223372036854775807) :
    Calls Tryz.prog 9 #[.agg (cVw x)] w (FewP x es w) := by
  obtain ⟨W1, hW1⟩ : ∃ W1 : World, W1 = w.alloc (.cells (cVw x) 29) := ⟨_, rfl⟩
  have hb1 : Below w.heap.size w W1 := by rw [hW1]; exact (Below.refl _ _).alloc (Nat.le_refl _) _
  have hge : W1.heap[w.heap.size]? = some (.cells (cVw x) 29 (0, 0)) := by rw [hW1]; exact heap_alloc_new w _
  obtain ⟨v0, v1, v2, v3, v4, v5, v6⟩ := cellsV hge
  have HX : Hid (EnIn W1 B x.E.a x.E.n es) := hE.up hb1 hB
  have HEL : Hid (es.length = x.E.n) := hE.1.1
  have HB1 := Lib.hid hb1
  have HWE := Lib.hid hW1
  have HS0 : Hid (smB es → (0 : Int) = (sumB (es.take 0) : Int)) := fun _ => by simp [sumB]
  clear hE hB hb1 hge hW1
  go_enter Tryz.func9, Tryz.ntmps9
  go_upto_region 1 with fail
  rw [← HWE.out]
  go_upto_region 3 with fail
  go_loopw [3, 4] (fun u i wr => (∃ (k : Nat) (s : Int), k ≤ x.E.n ∧ k ≤ 20 ∧ i = .int .i64 k ∧ u = .int .i64 s ∧ Hid (smB es → s = (sumB (es.take k) : Int))) ∧ W1 = wr) (fun _ i _ => 20 - (intOf i).toNat)
  case atStart => exact ⟨⟨0, 0, by omega, by omega, rfl, rfl, HS0⟩, rfl⟩
  case round =>
    clear HS0
    obtain ⟨⟨k, s, hk, hk20, rfl, rfl, HSM⟩, rfl⟩ := hrel
    by_cases hlt : k < x.E.n
    · by_cases h20 : k < 20
      · have hkI : (k : Int) < (x.E.n : Int) := by omega
        have hkI2 : (k : Int) < 20 := by omega
        have hk0 : (0 : Int) ≤ (k : Int) := by omega
        obtain ⟨be, oe, e, hAe, _, hge, hce⟩ := HX.out.1.at_ (k := k) hlt
        have k4 := hce 4 _ rfl
        rw [← Nat.add_assoc] at k4
        rw [hAe] at v0
        have HS2 : Hid (smB es → wrap64 (s + (e.bd.n : Int)) = (sumB (es.take (k + 1)) : Int)) := fun hs => by
          have h1 := HSM.out hs
          have h2 := sumB_le (es.take (k + 1)) (smB_take hs _)
          have h3 : (es.take (k + 1)).length ≤ 20 := by rw [List.length_take]; omega
          have h4 : sumB (es.take (k + 1)) = sumB (es.take k) + e.bd.n := by rw [take_snoc hge, sumB_snoc]
          have h5 : (es.take (k + 1)).length * 140737488355328 ≤ 20 * 140737488355328 := Nat.mul_le_mul_right _ h3
          rw [h1, h4]
          rw [IntWalk.wrap64_in _ (by omega)]
          simp
        clear hce hge
        go_wp2
        refine ⟨?rel, ?measure⟩
        case rel => exact ⟨⟨k + 1, _, by omega, by omega, by go_num, rfl, HS2⟩, by first | rfl | trivial⟩
        case measure => (simp [intOf] <;> omega)
      · -- PART many
        obtain rfl : k = 20 := by omega
        have hkI : ((20 : Nat) : Int) < (x.E.n : Int) := by omega
        have hkI3 : (20 : Int) < (x.E.n : Int) := by omega
        have h12 : ¬ (x.E.n : Int) ≤ 12 := by omega
        go_wp2
        go_ret
        exact ⟨false, rfl, (fun h => by cases h), HB1.out⟩
        -- END many
    · obtain rfl : x.E.n = k := by omega
      have HSF : Hid (smB es → s = (sumB es : Int)) := fun hs => by rw [HSM.out hs, List.take_of_length_le (by rw [HEL.out]; exact Nat.le_refl _)]
      have hkI : ¬ (x.E.n : Int) < (x.E.n : Int) := by omega
      clear HSM
      by_cases h1 : (x.E.n : Int) ≤ 12
      · by_cases h2 : s ≤ 30000
        · by_cases h3 : (x.V.n : Int) ≤ 4
          · by_cases h4 : (x.P.n : Int) ≤ 14
            · by_cases h5 : (x.D.n : Int) ≤ 10
              · by_cases h6 : (x.F.n : Int) ≤ 10
                · have HFB : Hid (FewB x es) := ⟨by omega, by omega, by omega, by omega, by omega, fun hs => by have := HSF.out hs; omega⟩
                  go_wp2
                  go_ret
                  exact ⟨true, rfl, fun _ => HFB.out, HB1.out⟩
                · go_wp2
                  go_ret
                  exact ⟨false, rfl, (fun h => by cases h), HB1.out⟩
              · go_wp2
                go_ret
                exact ⟨false, rfl, (fun h => by cases h), HB1.out⟩
            · go_wp2
              go_ret
              exact ⟨false, rfl, (fun h => by cases h), HB1.out⟩
          · go_wp2
            go_ret
            exact ⟨false, rfl, (fun h => by cases h), HB1.out⟩
        · go_wp2
          go_ret
          exact ⟨false, rfl, (fun h => by cases h), HB1.out⟩
      · go_wp2
        go_ret
        exact ⟨false, rfl, (fun h => by cases h), HB1.out⟩
end Go.Proofs.YtpdledjgbgalcaaGreatDoor
