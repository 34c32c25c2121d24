/- What a replacement turns. -/
import Derived.Test.YtkeicjokekmkpaaGreatVo
import Derived.Sort.OwnSortedInts
import Derived.Deep.MidRow
namespace Go.Proofs.YtkeicjokekmkpaaGreat
open Go.RowKit Mb
set_option linter.unusedVariables false
set_option linter.unusedSimpArgs false

def putL : List Value → Nat → List Value → List Value
  | xs, _, [] => xs
  | xs, o, v :: r => putL (xs.set o v) (o + 1) r
theorem putL_mid : ∀ (V C A B : List Value), V.length = C.length → putL (A ++ C ++ B) A.length V = A ++ V ++ B
  | [], C, A, B, h => by
    obtain rfl : C = [] := List.eq_nil_of_length_eq_zero h.symm
    rfl
  | v :: V, [], A, B, h => by cases h
  | v :: V, c :: C, A, B, h => by
    have ih := putL_mid V C (A ++ [v]) B (by simpa using h)
    unfold putL
    have e : (A ++ (c :: C) ++ B).set A.length v = (A ++ [v]) ++ C ++ B := by simp
    rw [e]
    have e2 : A.length + 1 = (A ++ [v]).length := by simp
    rw [e2, ih]
    simp
theorem flat_put {α : Type} {f : α → List Value} {s : Nat} (hs : ∀ x, (f x).length = s) (xs : List α) (k : Nat) (hk : k < xs.length) (y : α) : putL (xs.flatMap f) (k * s) (f y) = (xs.set k y).flatMap f := by
  have e1 : xs = xs.take k ++ xs[k] :: xs.drop (k + 1) := by
    rw [List.getElem_cons_drop, List.take_append_drop]
  have e2 : xs.set k y = xs.take k ++ y :: xs.drop (k + 1) := by rw [List.set_eq_take_append_cons_drop, if_pos hk]
  rw [e2]
  conv => lhs; rw [e1]
  rw [List.flatMap_append, List.flatMap_cons, List.flatMap_append, List.flatMap_cons, ← List.append_assoc, ← List.append_assoc]
  have e3 : k * s = ((xs.take k).flatMap f).length := by rw [flat_len hs, List.length_take, Nat.min_eq_left (Nat.le_of_lt hk)]
  rw [e3]
  exact putL_mid _ _ _ _ (by rw [hs, hs])
theorem stored_all {base : Nat} {e : TypeId} {size g n cap : Nat} : ∀ (vs : List Value) (o : Nat) (w : World) (xs : List Value), w.ownsRow base e size (.slice (some ⟨g, 0, none⟩) n cap) n xs → (w.setCells g o vs).ownsRow base e size (.slice (some ⟨g, 0, none⟩) n cap) n (putL xs o vs) ∧ w.grownBy (w.setCells g o vs) (some g)
  | [], o, w, xs, h => ⟨h, World.grownBy.refl w _⟩
  | v :: r, o, w, xs, h => by
    obtain ⟨h1, h2⟩ := World.ownsRow.stored h o v
    obtain ⟨h3, h4⟩ := stored_all r (o + 1) _ _ h1
    exact ⟨h3, ⟨h4.os.trans h2.os, h4.tape.trans h2.tape, h4.output.trans h2.output, Nat.le_trans h2.size h4.size, fun k hk hne => (h4.block k (Nat.lt_of_lt_of_le hk h2.size) hne).trans (h2.block k hk hne)⟩⟩
/-- A whole element written. -/
theorem OwnN.storedN {α : Type} {f : α → List Value} {s : Nat} {e : TypeId} {w : World} {base gb n c : Nat} {xs : List α} (hs : ∀ x, (f x).length = s) (h : OwnN f s e w base (.slice (some ⟨gb, 0, none⟩) n c) xs) {y : α} {k : Nat} (hk : k < xs.length) :
    OwnN f s e (w.setCells gb (k * s) (f y)) base (.slice (some ⟨gb, 0, none⟩) n c) (xs.set k y) ∧ w.grownBy (w.setCells gb (k * s) (f y)) (some gb) := by
  have hn : n = xs.length := by
    rcases h.2 with ⟨h', _⟩ | ⟨g', cap', cur, h', _⟩
    · cases h'
    · simp at h'; exact h'.2.1
  subst hn
  obtain ⟨h1, h2⟩ := stored_all (f y) (k * s) _ _ h
  refine ⟨?_, h2⟩
  unfold OwnN
  rw [List.length_set, ← flat_put hs xs k hk y]
  exact h1
theorem OwnN.there {α : Type} {f : α → List Value} {s : Nat} {e : TypeId} {w : World} {base gb n c : Nat} {xs : List α} (hs : ∀ x, (f x).length = s) (h : OwnN f s e w base (.slice (some ⟨gb, 0, none⟩) n c) xs) {k : Nat} (hk : k < xs.length) : w.there gb (k * s) s := fun j hj => by
  obtain ⟨h1, h2⟩ := h.cell hs (x := xs[k]) (k := k) hj (List.getElem?_eq_getElem hk)
  refine ⟨?_, h2⟩
  rw [h1, List.getElem?_eq_getElem (by rw [hs]; exact hj)]
  rfl
/-- The library's Sort, at a row that the call owns. -/
theorem sortI_any (g n cap base : Nat) (zs : List Int) (w : World) (h : Own I 3 w base (.slice (some ⟨g, 0, none⟩) n cap) zs) (hz : zs.length ≤ 1000000) :
    Calls Tryz.prog 64 #[.slice (some ⟨g, 0, none⟩) n cap] w fun e w' => e = .returned (.tuple #[]) ∧ Own I 3 w' base (.slice (some ⟨g, 0, none⟩) n cap) (zs.mergeSort fun x y => decide (x ≤ y)) ∧ w.grownBy w' (some g) := by
  have hlt := World.ownsRow.lt h g rfl
  rcases h.2 with ⟨h', _⟩ | ⟨g', cap', cur, h', hb, hg, h1, h2, h3, h4⟩
  · cases h'
  · simp only [Value.slice.injEq, Option.some.injEq, Addr.mk.injEq, and_true, true_and] at h'
    obtain ⟨rfl, rfl, rfl⟩ := h'
    rw [Nat.mul_one] at h4
    refine (Tryz.slices_Sort_int g 0 cap zs w (holds_of_blockI hg h4) hlt.2 (by omega)).mono ?_
    rintro e w' ⟨rfl, q, os, rfl⟩
    refine ⟨rfl, ?_, grownBy_sortedI _⟩
    have h5 := ownsRow_sortedI (n := q) (os := os) (ss := zs) (ts := zs.mergeSort fun x y => decide (x ≤ y)) (List.length_mergeSort _) hb hg h1 h2 h3
    unfold Own
    rw [List.length_mergeSort]
    exact h5
theorem idxFrom_eq : ∀ (zs : List Int) (x : Int) (i : Nat), x ∈ zs → Lib.idxFrom zs x i = ((i + zs.idxOf x : Nat) : Int)
  | [], _, _, h => by cases h
  | z :: zs, x, i, h => by
    by_cases hz : z = x
    · subst hz; simp [Lib.idxFrom]
    · rw [idx_ne hz]
      have := idxFrom_eq zs x (i + 1) (by
        rcases List.mem_cons.1 h with h | h
        · exact absurd h.symm hz
        · exact h)
      simp only [Lib.idxFrom, hz]
      rw [if_neg (by first | exact hz | simp)]
      rw [this]
      omega
theorem idxI_any (A : Option Addr) (n c : Nat) (xs : List Int) (x : Int) (w : World) (B : Nat) (hx : Sl I w B A n xs) (hn : n ≤ 1000000) (hm : x ∈ xs) :
    Calls Tryz.prog 63 #[.slice A n c, .int .i64 x] w fun e w' => e = .returned (.int .i64 (xs.idxOf x : Nat)) ∧ w = w' := by
  obtain ⟨rfl, hx⟩ := hx
  obtain ⟨b, off, rfl, _, hc⟩ := hx (List.length_pos_of_mem hm)
  refine (Tryz.slices_Index_int b off xs.length c xs x w (Nat.le_refl _) (by omega) (fun j hj => by
    rw [hc j _ (List.getElem?_eq_getElem hj), getD_of (List.getElem?_eq_getElem hj)])).mono fun e w' ⟨he, hw⟩ => ⟨?_, hw.symm⟩
  rw [List.take_length] at he
  rw [he]
  unfold Lib.idxOf
  rw [idxFrom_eq xs x 0 hm, Nat.zero_add]
section
variable {w w1 : World} {lab : Nat → Nat} {g : Nat} {S : Cst} {vm vv : Value} {bm : Nat} {vfm vfv vc : Value} {ps1 ps2 : List VP}
theorem VRow.set {gv n c k : Nat} {y : VP} (h : VRow w 0 (.slice (some ⟨gv, 0, none⟩) n c) ps1) (hk : k < ps1.length) (hy : Own I 3 w 0 (fS y.2) y.1.ws)
    (hyv : (fS y.2).ownBlock ≠ some gv) (hyp : ∀ p ∈ ps1, (fS p.2).ownBlock = none ∨ (fS p.2).ownBlock ≠ (fS y.2).ownBlock) :
    VRow (w.setCells gv (k * 15) (fP y)) 0 (.slice (some ⟨gv, 0, none⟩) n c) (ps1.set k y) ∧ w.grownBy (w.setCells gv (k * 15) (fP y)) (some gv) := by
  obtain ⟨h1, h2⟩ := h.row.storedN fP_len (y := y) hk
  refine ⟨⟨h1, fun p hp => ?_, fun p hp => ?_, ?_⟩, h2⟩
  · rcases List.mem_or_eq_of_mem_set hp with hp | rfl
    · exact (h.ws p hp).kept h2 (h.far p hp)
    · exact hy.kept h2 (.inr hyv)
  · rcases List.mem_or_eq_of_mem_set hp with hp | rfl
    · exact h.far p hp
    · exact .inr hyv
  · rw [List.pairwise_iff_getElem]
    intro i j hi hj hij
    have hp := List.pairwise_iff_getElem.1 h.apart
    rw [List.length_set] at hi hj
    rw [List.getElem_set, List.getElem_set]
    by_cases h3 : k = i
    · subst h3
      rw [if_pos rfl, if_neg (by omega)]
      rcases hyp _ (List.getElem_mem hj) with h5 | h5
      · cases h6 : (fS y.2).ownBlock
        · exact .inl rfl
        · exact .inr (by rw [h5]; exact fun e => by cases e)
      · exact .inr fun e => h5 e.symm
    · rw [if_neg h3]
      by_cases h4 : k = j
      · subst h4
        rw [if_pos rfl]
        exact hyp _ (List.getElem_mem hi)
      · rw [if_neg h4]
        exact hp i j hi hj hij
/-- A vault of the circle written anew, its writers' row being one that was no circle's. -/
theorem CirP.setV {gv n c k : Nat} {y : VP} (h : CirP w lab g S vm (.slice (some ⟨gv, 0, none⟩) n c) bm vfm vfv vc ps1 ps2) (hk : k < ps1.length) (hy : Own I 3 w 0 (fS y.2) y.1.ws) (hy0 : Rol lab (fS y.2) 0) :
    CirP (w.setCells gv (k * 15) (fP y)) (fun j => if (fS y.2).ownBlock = some j then 4 else lab j) g { S with s := { S.s with vs := S.s.vs.set k y.1 } } vm (.slice (some ⟨gv, 0, none⟩) n c) bm vfm vfv vc (ps1.set k y) ps2 ∧ w.grownBy (w.setCells gv (k * 15) (fP y)) (some gv) ∧ lab gv = 4 := by
  have hlv : lab gv = 4 := h.lvs gv rfl
  obtain ⟨h1, hg⟩ := h.vs.set hk hy (fun e => by have := hy0 gv e; rw [hlv] at this; cases this) (fun p hp => (h.lws p hp).ne hy0 (by decide))
  have hold : ∀ j, lab j ≠ 0 → (if (fS y.2).ownBlock = some j then 4 else lab j) = lab j := fun j hj => by
    rw [if_neg (fun e => hj (hy0 j e))]
  have kr : ∀ {v : Value} {s : Nat}, Rol lab v s → s ≠ 0 → Rol (fun j => if (fS y.2).ownBlock = some j then 4 else lab j) v s := fun hv hs j hj => by
    show (if _ then _ else _) = _
    rw [hold j (by rw [hv j hj]; exact hs)]; exact hv j hj
  have k := one_kep hg hlv
  obtain ⟨f1, f2, f3⟩ := h.kfv k (by decide)
  refine ⟨⟨(one_cell (S := S) h hg hlv (by decide) :), ?_, (h.kms k (by decide)).1, kr h.lms (by decide), h1, ?_, kr h.lvs (by decide), fun p hp => ?_, (h.kmp k (by decide)).1, ?_, (h.kfm k (by decide)).1, kr h.lfm (by decide), f1, h.efv, kr h.lfv (by decide), fun p hp => kr (h.lfw p hp) (by decide), (h.kch k (by decide)).1, kr h.lch (by decide), fun j hj => ?_⟩, hg, hlv⟩
  · show (if _ then _ else _) = _
    rw [hold g (by rw [h.lg]; decide)]; exact h.lg
  · show List.map Prod.fst (ps1.set _ y) = S.s.vs.set _ y.1
    rw [← h.evs, List.map_set]
  · rcases List.mem_or_eq_of_mem_set hp with hp | rfl
    · exact kr (h.lws p hp) (by decide)
    · exact fun j hj => by show (if _ then _ else _) = _; rw [if_pos hj]
  · show (if _ then _ else _) = _
    rw [hold bm (by rw [h.lmp]; decide)]; exact h.lmp
  · show (if _ then _ else _) = _
    have hj2 := Nat.le_trans hg.size hj
    rw [if_neg (fun e => by have := (World.ownsRow.lt hy j e).2; omega)]
    exact h.top j hj2
end
end Go.Proofs.YtkeicjokekmkpaaGreat
