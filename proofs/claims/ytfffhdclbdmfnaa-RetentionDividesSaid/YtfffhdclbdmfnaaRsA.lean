/- retention.periods; the walk of reasons, its words. -/
import Derived.Test.YtfffhdclbdmfnaaBack
import Derived.Test.YtfffhdclbdmfnaaMap
import Derived.Test.YtfffhdclbdmfnaaLeaf2
namespace Go.Proofs.Ytfffhdclbdmfnaa
open Go.RowKit Go.Shelf Ret
set_option linter.unusedVariables false
set_option linter.unusedSimpArgs false

/-- The function of a kind of periods, its number, its reason. -/
def fidOf (k : Nat) : FuncId := if k = 0 then 51 else if k = 1 then 52 else if k = 2 then 24 else 53
def rOf (k : Nat) : Int := if k = 0 then 1 else if k = 1 then 2 else if k = 2 then 4 else 8
def nOf (a b c d : Int) (k : Nat) : Int := if k = 0 then a else if k = 1 then b else if k = 2 then c else d
abbrev fF (f : FuncId) : Value := .func (.func f) #[] #[]
abbrev pcells (a b c d : Int) : Array Value := #[fF 51, .int .i64 a, .int .i64 1, fF 52, .int .i64 b, .int .i64 2, fF 24, .int .i64 c, .int .i64 4, fF 53, .int .i64 d, .int .i64 8]
theorem pcells_at (a b c d : Int) {k : Nat} (hk : k < 4) : (pcells a b c d)[k * 3]? = some (fF (fidOf k)) ∧ (pcells a b c d)[k * 3 + 1]? = some (.int .i64 (nOf a b c d k)) ∧ (pcells a b c d)[k * 3 + 2]? = some (.int .i64 (rOf k)) := by
  have : k = 0 ∨ k = 1 ∨ k = 2 ∨ k = 3 := by omega
  rcases this with rfl | rfl | rfl | rfl <;> exact ⟨rfl, rfl, rfl⟩
theorem day_any (d : Int) (w : World) : Calls Try.prog 51 #[.int .i64 d] w (IntB d w) := by
  go_enter Try.func51, Try.ntmps51
  go_wp2
  go_ret
  exact ⟨rfl, Below.refl _ _⟩
/-- The number of the period of a kind, by its function. -/
theorem per_any (k : Nat) (hk : k < 4) (d : Int) (w : World) (hd : okD d) : Calls Try.prog (fidOf k) #[.int .i64 d] w (IntB (per k d) w) := by
  have : k = 0 ∨ k = 1 ∨ k = 2 ∨ k = 3 := by omega
  rcases this with rfl | rfl | rfl | rfl
  · exact day_any d w
  · exact week_any d w hd
  · exact month_any d w hd
  · exact year_any d w hd
theorem callFunc_fid {k : Nat} (hk : k < 4) : ∀ args w, (callFunc (fidOf k) args).run Try.prog w = .ok (.enter (fidOf k) args) w := by
  have : k = 0 ∨ k = 1 ∨ k = 2 ∨ k = 3 := by omega
  rcases this with rfl | rfl | rfl | rfl
  · exact enters_of Try.func51 (by kernel_rfl) rfl
  · exact enters_of Try.func52 (by kernel_rfl) rfl
  · exact enters_of Try.func24 (by kernel_rfl) rfl
  · exact enters_of Try.func53 (by kernel_rfl) rfl
theorem periods_any (a b c d : Int) (w : World) : Calls Try.prog 36 #[fR a b c d] w fun e w' => e = .returned (.slice (some ⟨w.heap.size + 1, 0, none⟩) 4 4) ∧
    (w.alloc (.cells #[.int .i64 a, .int .i64 b, .int .i64 c, .int .i64 d] 23)).alloc (.cells (pcells a b c d) 51) = w' := by
  go_enter Try.func36, Try.ntmps36
  go_wp2
  go_ret
  exact ⟨rfl, rfl⟩

theorem keepL_take {k n : Nat} {d last : Int} {ds : List Int} (he : per k d ≠ last) : keepL k (d :: ds) (n + 1) last = d :: keepL k ds n (per k d) := by
  show (if per k d = last then keepL k ds (n + 1) last else d :: keepL k ds n (per k d)) = _
  rw [if_neg he]
theorem keepL_skip {k left : Nat} {d last : Int} {ds : List Int} (he : per k d = last) : keepL k (d :: ds) left last = keepL k ds left last := by
  conv => lhs; unfold keepL
  rw [if_pos he]
/-- What the walk over the days has come to: the days taken, how many may follow, the last period. -/
def Kst (k n : Nat) (pre : List Int) (K : List Int) (left : Nat) (last : Int) : Prop := ∀ rest, keepL k (pre ++ rest) n (-1) = K ++ keepL k rest left last
theorem Kst.nil (k n : Nat) : Kst k n [] [] n (-1) := fun _ => rfl
theorem Kst.skip {k n left : Nat} {pre K : List Int} {last d : Int} (h : Kst k n pre K left last) (he : per k d = last) : Kst k n (pre ++ [d]) K left last := fun rest => by
  rw [List.append_assoc, h, List.singleton_append, keepL_skip he]
theorem Kst.take {k n left : Nat} {pre K : List Int} {last d : Int} (h : Kst k n pre K (left + 1) last) (he : per k d ≠ last) : Kst k n (pre ++ [d]) (K ++ [d]) left (per k d) := fun rest => by
  rw [List.append_assoc, h, List.singleton_append, keepL_take he, List.append_assoc]
  rfl
/-- The walk has ended: these are the days taken. -/
def Kend (k n : Nat) (pre : List Int) (K : List Int) : Prop := ∀ rest, keepL k (pre ++ rest) n (-1) = K
theorem Kst.stop {k n : Nat} {pre K : List Int} {last d : Int} (h : Kst k n pre K 0 last) (he : per k d ≠ last) : Kend k n (pre ++ [d]) K := fun rest => by
  rw [List.append_assoc, h, List.singleton_append]
  unfold keepL
  rw [if_neg he]
  simp
theorem Kst.done {k n left : Nat} {pre K : List Int} {last : Int} (h : Kst k n pre K left last) : keepL k pre n (-1) = K := by
  have := h []
  rw [List.append_nil] at this
  rw [this]
  simp [keepL]
/-- The map with a reason more at these days. -/
def addR (F : Int → Int) (r : Int) (K : List Int) : Int → Int := fun d => F d + r * (K.count d : Int)
theorem addR_nil (F : Int → Int) (r : Int) : addR F r [] = F := by funext d; simp [addR]
theorem addR_snoc (F : Int → Int) (r : Int) (K : List Int) (d : Int) : (fun x => if x = d then addR F r K d + r else addR F r K x) = addR F r (K ++ [d]) := by
  funext x
  simp only [addR, List.count_append, List.count_singleton]
  by_cases hx : x = d
  · subst hx
    simp
    rw [Int.mul_add]
    omega
  · have : (d == x) = false := by simp; exact fun e => hx e.symm
    simp [hx, this]
theorem rOf_bd (k : Nat) : 1 ≤ rOf k ∧ rOf k ≤ 8 := by
  unfold rOf
  split
  · omega
  · split
    · omega
    · split <;> omega
theorem keepL_sub (k : Nat) : ∀ (ds : List Int) (left : Nat) (last : Int), ∀ x ∈ keepL k ds left last, x ∈ ds
  | [], _, _, x, h => by simp [keepL] at h
  | d :: ds, left, last, x, h => by
    unfold keepL at h
    split at h
    · exact List.mem_cons_of_mem _ (keepL_sub k ds left last x h)
    · cases left with
      | zero => simp at h
      | succ n =>
        rcases List.mem_cons.1 h with rfl | h
        · exact List.mem_cons_self ..
        · exact List.mem_cons_of_mem _ (keepL_sub k ds n _ x h)
/-- A day that has not come is not among those taken. -/
theorem Kst.not_mem {k n left : Nat} {pre K : List Int} {last d : Int} (h : Kst k n pre K left last) (hd : ¬ d ∈ pre) : ¬ d ∈ K := fun hm => by
  have := h.done
  rw [← this] at hm
  exact hd (keepL_sub k pre n (-1) d hm)
theorem Kst.len {k n left : Nat} {pre K : List Int} {last : Int} (h : Kst k n pre K left last) : K.length ≤ pre.length := by
  rw [← h.done]
  have : ∀ (ds : List Int) (left : Nat) (last : Int), (keepL k ds left last).length ≤ ds.length := by
    intro ds
    induction ds with
    | nil => intro _ _; simp [keepL]
    | cons d ds ih =>
      intro left last
      unfold keepL
      split
      · have := ih left last; simp only [List.length_cons]; omega
      · cases left with
        | zero => simp
        | succ n => have := ih n (per k d); simp only [List.length_cons]; omega
  exact this pre n (-1)
theorem keepL_len (k : Nat) : ∀ (ds : List Int) (left : Nat) (last : Int), (keepL k ds left last).length ≤ ds.length
  | [], _, _ => by simp [keepL]
  | d :: ds, left, last => by
    unfold keepL
    split
    · have := keepL_len k ds left last; simp only [List.length_cons]; omega
    · cases left with
      | zero => simp
      | succ n => have := keepL_len k ds n (per k d); simp only [List.length_cons]; omega
abbrev dys (zs : List Day) : List Int := zs.map (·.1)
abbrev preD (pre : List (Nat × Day)) : List Int := pre.map (·.2.1)
/-- The kept days of a kind. -/
def kd (zs : List Day) (a b c d : Nat) (k : Nat) : List Int := keepL k (dys zs).reverse (nOf a b c d k).toNat (-1)
/-- The reasons after k kinds. -/
def Fk (zs : List Day) (a b c d : Nat) : Nat → Int → Int
  | 0 => fun _ => 0
  | k + 1 => addR (Fk zs a b c d k) (rOf k) (kd zs a b c d k)
theorem mul_bd {r : Int} {c n : Nat} (h0 : 1 ≤ r) (h1 : r ≤ 8) (hc : c ≤ n) : 0 ≤ r * (c : Int) ∧ r * (c : Int) ≤ 8 * n := by
  have h2 : r * (c : Int) ≤ 8 * (c : Int) := Int.mul_le_mul_of_nonneg_right h1 (by omega)
  have h3 : 0 ≤ r * (c : Int) := Int.mul_nonneg (by omega) (by omega)
  omega
theorem Fk_bd (zs : List Day) (a b c d : Nat) (hn : zs.length ≤ 100000) (x : Int) : ∀ k : Nat, 0 ≤ Fk zs a b c d k x ∧ Fk zs a b c d k x ≤ 800000 * k
  | 0 => by simp [Fk]
  | k + 1 => by
    have ih := Fk_bd zs a b c d hn x k
    have hr := rOf_bd k
    have hc : (kd zs a b c d k).count x ≤ 100000 := by
      have h1 := List.count_le_length (a := x) (l := kd zs a b c d k)
      have h2 := keepL_len k (dys zs).reverse (nOf a b c d k).toNat (-1)
      simp [dys] at h2
      unfold kd at h1 ⊢
      simp [dys] at h1 ⊢
      omega
    have := mul_bd hr.1 hr.2 hc
    simp only [Fk, addR]
    omega
theorem addR_bd (zs : List Day) (a b c d k : Nat) (r : Int) (K : List Int) (x : Int) (hk : k < 4) (hr : 1 ≤ r ∧ r ≤ 8) (hK : K.length ≤ 100000) (hn : zs.length ≤ 100000) : 0 ≤ addR (Fk zs a b c d k) r K x ∧ addR (Fk zs a b c d k) r K x ≤ 10000000 := by
  have h1 := Fk_bd zs a b c d hn x k
  have hc : K.count x ≤ 100000 := Nat.le_trans List.count_le_length hK
  have := mul_bd hr.1 hr.2 hc
  simp only [addR]
  omega
end Go.Proofs.Ytfffhdclbdmfnaa
