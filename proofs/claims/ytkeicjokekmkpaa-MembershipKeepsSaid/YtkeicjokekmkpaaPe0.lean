/- The encoding of members and vaults, plainly. -/
import Derived.Test.YtkeicjokekmkpaaSt
import Derived.Test.YtkeicjokekmkpaaWs
import Derived.Test.YtkeicjokekmkpaaVt
namespace Go.Proofs.Ytkeicjokekmkpaa
open Go.RowKit Mb
set_option linter.unusedVariables false
set_option linter.unusedSimpArgs false

def encL (xs : List Int) : List Int := xs.flatMap fun x => enc x.toNat
def encM (m : Mem) : List Int := enc m.name.size ++ (sB m.name ++ (sB m.pub ++ encL [m.quota]))
def encVt (v : Vlt) : List Int := enc v.ws.length ++ (encL v.ws ++ (encL [v.data, v.total, v.thr] ++ (sB v.print ++ (encL [v.cmin, v.cmax, v.cwin, v.cbits] ++ encL [v.ra, v.rb, v.rc, v.rd]))))
def nOk (x : Int) : Prop := 0 ≤ x ∧ x ≤ 1099511627776
def mOk (m : Mem) : Prop := m.name.size ≤ 16 ∧ m.pub.size = 32 ∧ nOk m.quota
def vOk (v : Vlt) : Prop := v.ws.length ≤ 3 ∧ (∀ x ∈ v.ws, nOk x) ∧ (∀ x ∈ [v.data, v.total, v.thr], nOk x) ∧ v.print.size = 32 ∧ (∀ x ∈ [v.cmin, v.cmax, v.cwin, v.cbits], nOk x) ∧ (∀ x ∈ [v.ra, v.rb, v.rc, v.rd], nOk x)
theorem encL_len (xs : List Int) : (encL xs).length ≤ 10 * xs.length := by
  unfold encL
  induction xs with
  | nil => simp
  | cons x l ih => simp only [List.flatMap_cons, List.length_append, List.length_cons]; have := enc_len x.toNat; omega
theorem encL_app (xs ys : List Int) : encL (xs ++ ys) = encL xs ++ encL ys := by simp [encL]
theorem encL_snoc (xs : List Int) (x : Int) : encL (xs ++ [x]) = encL xs ++ enc x.toNat := by simp [encL]
theorem encM_len {m : Mem} (h : mOk m) : (encM m).length ≤ 68 := by
  have h1 := enc_len m.name.size
  have h2 := encL_len [m.quota]
  unfold encM
  simp only [List.length_append, sB_len, List.length_cons, List.length_nil] at *
  have := h.1
  have := h.2.1
  omega
theorem encVt_len {v : Vlt} (h : vOk v) : (encVt v).length ≤ 200 := by
  have h1 := enc_len v.ws.length
  have h2 := encL_len v.ws
  have h3 := encL_len [v.data, v.total, v.thr]
  have h4 := encL_len [v.cmin, v.cmax, v.cwin, v.cbits]
  have h5 := encL_len [v.ra, v.rb, v.rc, v.rd]
  have h6 := h.1
  have h7 := h.2.2.2.1
  unfold encVt
  simp only [List.length_append, sB_len, List.length_cons, List.length_nil] at *
  omega
theorem flat_le {α : Type} (f : α → List Int) (c : Nat) : ∀ (xs : List α), (∀ x ∈ xs, (f x).length ≤ c) → (xs.flatMap f).length ≤ c * xs.length
  | [], _ => by simp
  | x :: l, h => by
    have h1 := h x (List.mem_cons_self ..)
    have h2 := flat_le f c l fun y hy => h y (List.mem_cons_of_mem _ hy)
    rw [List.flatMap_cons, List.length_append, List.length_cons, Nat.mul_succ]
    omega
theorem take_mem {α : Type} {p : α → Prop} {xs : List α} (h : ∀ x ∈ xs, p x) (k : Nat) : ∀ x ∈ xs.take k, p x := fun x hx => h x (List.mem_of_mem_take hx)
theorem flat_snoc {α : Type} (f : α → List Int) (xs : List α) (x : α) : (xs ++ [x]).flatMap f = xs.flatMap f ++ f x := by simp
theorem mOk_of {m : Mem} {d : Int} (h : memB m d = true) : mOk m := by
  unfold memB nameB at h
  simp only [Bool.and_eq_true, decide_eq_true_eq] at h
  exact ⟨h.2.1.2.1, h.2.2.1, h.2.2.2.1, h.2.2.2.2.1⟩
theorem nOk_of {x : Int} (h0 : 0 ≤ x) (h1 : x ≤ 100000) : nOk x := ⟨h0, by omega⟩
end Go.Proofs.Ytkeicjokekmkpaa
