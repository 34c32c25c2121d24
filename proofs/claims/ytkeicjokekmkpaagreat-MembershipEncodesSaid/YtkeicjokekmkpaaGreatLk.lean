/- The law Keeps. -/
import Derived.Test.YtkeicjokekmkpaaGreatEc
import Derived.Test.YtkeicjokekmkpaaGreatMk
import Derived.Test.YtkeicjokekmkpaaGreatMl
namespace Go.Proofs.YtkeicjokekmkpaaGreat
open Go.RowKit Mb
set_option linter.unusedVariables false
set_option linter.unusedSimpArgs false

theorem encL_rng (xs : List Int) : ∀ b ∈ encL xs, 0 ≤ b ∧ b < 256 := fun b hb => by
  unfold encL at hb
  obtain ⟨x, _, hx⟩ := List.mem_flatMap.1 hb
  exact enc_rng _ b hx
theorem app_rng {xs ys : List Int} (h : ∀ b ∈ xs, 0 ≤ b ∧ b < 256) (k : ∀ b ∈ ys, 0 ≤ b ∧ b < 256) : ∀ b ∈ xs ++ ys, 0 ≤ b ∧ b < 256 := fun b hb => by
  rcases List.mem_append.1 hb with hb | hb
  · exact h b hb
  · exact k b hb
theorem flat_rng {α : Type} {f : α → List Int} {xs : List α} (h : ∀ x, ∀ b ∈ f x, 0 ≤ b ∧ b < 256) : ∀ b ∈ xs.flatMap f, 0 ≤ b ∧ b < 256 := fun b hb => by
  obtain ⟨x, _, hx⟩ := List.mem_flatMap.1 hb
  exact h x b hx
theorem encM_rng (m : Mem) : ∀ b ∈ encM m, 0 ≤ b ∧ b < 256 := app_rng (enc_rng _) (app_rng (sB_rng _) (app_rng (sB_rng _) (encL_rng _)))
theorem encVt_rng (v : Vlt) : ∀ b ∈ encVt v, 0 ≤ b ∧ b < 256 := app_rng (enc_rng _) (app_rng (encL_rng _) (app_rng (encL_rng _) (app_rng (sB_rng _) (app_rng (encL_rng _) (encL_rng _)))))
theorem encX_rng (x : Chg) : ∀ b ∈ encX x, 0 ≤ b ∧ b < 256 := by
  cases x with
  | adm m => exact app_rng (encL_rng _) (encM_rng m)
  | bal a b => exact encL_rng _
  | rep v a b => exact encL_rng _
theorem encC_rng (S : Cst) : ∀ b ∈ encC S, 0 ≤ b ∧ b < 256 := app_rng (enc_rng _) (app_rng (flat_rng encM_rng) (app_rng (enc_rng _) (app_rng (flat_rng encVt_rng) (app_rng (encL_rng _) (app_rng (enc_rng _) (flat_rng encX_rng))))))
theorem baOf_list {xs ys : List Int} (h : (baOf xs).toList = (baOf ys).toList) : baOf xs = baOf ys := by
  rw [ByteArray.toList_eq, ByteArray.toList_eq] at h
  exact ByteArray.ext (Array.toList_inj.1 h)
theorem baOf_inj {xs ys : List Int} (hx : ∀ b ∈ xs, 0 ≤ b ∧ b < 256) (hy : ∀ b ∈ ys, 0 ≤ b ∧ b < 256) (h : baOf xs = baOf ys) : xs = ys := by
  rw [← baOf_sB hx, ← baOf_sB hy, h]
abbrev oX' (x : Chn) : Obj := .cells #[.int .i64 x.kind, .int .i64 x.m.dev, .string x.m.name, .string x.m.pub, .int .i64 x.m.quota, .bool x.m.exp, .int .i64 x.v, .int .i64 x.a, .int .i64 x.b] 42
end Go.Proofs.YtkeicjokekmkpaaGreat
