/- The reference's Apply: the rows that it makes, apart from each other. -/
import Derived.Test.YtafhpomoobdmdaaAp
namespace Go.Proofs.Ytafhpomoobdmdaa
open Go.RowKit Mb
set_option linter.unusedVariables false
set_option linter.unusedSimpArgs false

/-- Two values that do not share a block. -/
def Apt (u v : Value) : Prop := ∀ k, u.ownBlock = some k → v.ownBlock ≠ some k
theorem Apt.symm {u v : Value} (h : Apt u v) : Apt v u := fun k hk e => h k e hk
theorem Apt.ne {u v : Value} (h : Apt u v) : u.ownBlock = none ∨ u.ownBlock ≠ v.ownBlock := by
  rcases hk : u.ownBlock with _ | k
  · exact .inl rfl
  · exact .inr fun e => h k hk e.symm
/-- Behind the changes. -/
structure AR3 (w wx : World) (r : RV) (x : Chn) (xs : List Chn) : Prop where
  bx : BX w wx r x
  o3 : OwnN fX 9 37 wx (w.heap.size + 3) (fS r.a3) xs
/-- Behind the members. -/
structure AR4 (w wx : World) (r : RV) (x : Chn) (xs : List Chn) (ms : List Mem) : Prop where
  bx : BX w wx r x
  o3 : OwnN fX 9 37 wx (w.heap.size + 3) (fS r.a3) xs
  o4 : OwnN fM 5 35 wx (w.heap.size + 3) (fS r.a4) ms
  n34 : Apt (fS r.a3) (fS r.a4)
/-- Behind the vaults. -/
structure AR (w wx : World) (r : RV) (x : Chn) (xs : List Chn) (ms : List Mem) (ps : List VP) : Prop where
  bx : BX w wx r x
  o3 : OwnN fX 9 37 wx (w.heap.size + 3) (fS r.a3) xs
  o4 : OwnN fM 5 35 wx (w.heap.size + 3) (fS r.a4) ms
  o5 : OwnN fP 15 54 wx (w.heap.size + 3) (fS r.a5) ps
  n34 : Apt (fS r.a3) (fS r.a4)
  n35 : Apt (fS r.a3) (fS r.a5)
  n45 : Apt (fS r.a4) (fS r.a5)
section
variable {w wx wy : World} {r1 r2 : Hd} {rq : Int} {h3 h4 h5 h6 : Hd} {x : Chn} {xs : List Chn} {ms : List Mem} {ps : List VP}
theorem OwnN.down {α : Type} {f : α → List Value} {s : Nat} {e : TypeId} {w : World} {base b : Nat} {v : Value} {xs : List α} (h : OwnN f s e w base v xs) (hb : b ≤ base) : OwnN f s e w b v xs := World.ownsRow.mono h hb
theorem apt_new {α β : Type} {f : α → List Value} {f' : β → List Value} {s s' : Nat} {e e' : TypeId} {w w' : World} {base : Nat} {v u : Value} {xs : List α} {ys : List β} (h : OwnN f s e w base v xs) (h' : OwnN f' s' e' w' w.heap.size u ys) : Apt v u := fun k hk e => by
  have := (World.ownsRow.lt h k hk).2
  have := (World.ownsRow.lt h' k e).1
  omega
theorem AR3.mem {A : Option Addr} {n c : Nat} (h : AR3 w wx ⟨r1, r2, rq, h3, h4, h5, h6⟩ x xs) (hb : Below wx.heap.size wx wy) (ho : OwnN fM 5 35 wy wx.heap.size (.slice A n c) ms) :
    AR4 w (wy.setCell ⟨w.heap.size, 4, none⟩ (.slice A n c)) ⟨r1, r2, rq, h3, ⟨A, n, c⟩, h5, h6⟩ x xs ms :=
  ⟨(h.bx.on hb).set 4 _ rfl, OwnN.set (h.o3.on hb) (by omega), OwnN.set (ho.down h.bx.lt) (by omega), apt_new h.o3 ho⟩
theorem AR4.vlt {A : Option Addr} {n c : Nat} (h : AR4 w wx ⟨r1, r2, rq, h3, h4, h5, h6⟩ x xs ms) (hb : Below wx.heap.size wx wy) (ho : OwnN fP 15 54 wy wx.heap.size (.slice A n c) ps) :
    AR w (wy.setCell ⟨w.heap.size, 5, none⟩ (.slice A n c)) ⟨r1, r2, rq, h3, h4, ⟨A, n, c⟩, h6⟩ x xs ms ps :=
  ⟨(h.bx.on hb).set 5 _ rfl, OwnN.set (h.o3.on hb) (by omega), OwnN.set (h.o4.on hb) (by omega), OwnN.set (ho.down h.bx.lt) (by omega), h.n34, apt_new h.o3 ho, apt_new h.o4 ho⟩
theorem AR.on {r : RV} (h : AR w wx r x xs ms ps) (hb : Below wx.heap.size wx wy) : AR w wy r x xs ms ps :=
  ⟨h.bx.on hb, h.o3.on hb, h.o4.on hb, h.o5.on hb, h.n34, h.n35, h.n45⟩
theorem apt_turn {v u t : Value} (h : Apt v t) (ht : ∀ k, t.ownBlock = some k → k < wx.heap.size) (hu : u.ownBlock = v.ownBlock ∨ ∃ k, u.ownBlock = some k ∧ wx.heap.size ≤ k) : Apt u t := fun k hk e => by
  rcases hu with hu | ⟨k', h1, h2⟩
  · exact h k (hu ▸ hk) e
  · rw [h1] at hk
    obtain rfl : k' = k := Option.some.inj hk
    have := ht k' e
    omega
theorem BX.grown {r : RV} (h : BX w wx r x) {row : Option Nat} (hg : wx.grownBy wy row) (hr : ∀ k, row = some k → w.heap.size + 3 ≤ k) : BX w wy r x := h.up (grown_below hg hr h.lt)
/-- A member more. -/
theorem AR.addM {A : Option Addr} {n c : Nat} {ms' : List Mem} (h : AR w wx ⟨r1, r2, rq, h3, h4, h5, h6⟩ x xs ms ps) (hg : wx.grownBy wy (fS h4).ownBlock) (ho : OwnN fM 5 35 wy (w.heap.size + 3) (.slice A n c) ms')
    (hu : (Value.slice A n c).ownBlock = (fS h4).ownBlock ∨ ∃ k, (Value.slice A n c).ownBlock = some k ∧ wx.heap.size ≤ k) :
    AR w (wy.setCell ⟨w.heap.size, 4, none⟩ (.slice A n c)) ⟨r1, r2, rq, h3, ⟨A, n, c⟩, h5, h6⟩ x xs ms' ps := by
  have h4l : ∀ k, (fS h4).ownBlock = some k → w.heap.size + 3 ≤ k := fun k hk => (World.ownsRow.lt h.o4 k hk).1
  have b3 := h.o3.kept hg h.n34.ne
  have b5 := h.o5.kept hg h.n45.symm.ne
  have n1 : Apt (Value.slice A n c) (fS h3) := apt_turn h.n34.symm (fun k hk => (World.ownsRow.lt h.o3 k hk).2) hu
  have n2 : Apt (Value.slice A n c) (fS h5) := apt_turn h.n45 (fun k hk => (World.ownsRow.lt h.o5 k hk).2) hu
  exact ⟨(h.bx.grown hg h4l).set 4 _ rfl, OwnN.set b3 (by omega), OwnN.set ho (by omega), OwnN.set b5 (by omega), n1.symm, h.n35, n2⟩
/-- A member expelled. -/
theorem AR.expel {gb n c k : Nat} {m : Mem} (h : AR w wx ⟨r1, r2, rq, h3, ⟨some ⟨gb, 0, none⟩, n, c⟩, h5, h6⟩ x xs ms ps) (hm : ms[k]? = some m) :
    AR w (wx.setCell ⟨gb, k * 5 + 4, none⟩ (.bool true)) ⟨r1, r2, rq, h3, ⟨some ⟨gb, 0, none⟩, n, c⟩, h5, h6⟩ x xs (ms.set k m.out) ps := by
  obtain ⟨o4, hg⟩ := OwnN.stored (x := m) (y := m.out) (j := 4) (u := .bool true) fM_len h.o4 rfl (by omega) hm
  have hg' : wx.grownBy (wx.setCell ⟨gb, k * 5 + 4, none⟩ (.bool true)) (fS ⟨some ⟨gb, 0, none⟩, n, c⟩).ownBlock := hg
  exact ⟨h.bx.grown hg' fun k hk => (World.ownsRow.lt h.o4 k hk).1, h.o3.kept hg' h.n34.ne, o4, h.o5.kept hg' h.n45.symm.ne, h.n34, h.n35, h.n45⟩
/-- A change's kind set. -/
theorem AR.kind {gb n c k : Nat} {y : Chn} {v : Int} (h : AR w wx ⟨r1, r2, rq, ⟨some ⟨gb, 0, none⟩, n, c⟩, h4, h5, h6⟩ x xs ms ps) (hm : xs[k]? = some y) :
    AR w (wx.setCell ⟨gb, k * 9, none⟩ (.int .i64 v)) ⟨r1, r2, rq, ⟨some ⟨gb, 0, none⟩, n, c⟩, h4, h5, h6⟩ x (xs.set k { y with kind := v }) ms ps := by
  obtain ⟨o3, hg⟩ := OwnN.stored (x := y) (y := { y with kind := v }) (j := 0) (u := .int .i64 v) fX_len h.o3 rfl (by omega) hm
  rw [Nat.add_zero] at o3 hg
  have hg' : wx.grownBy (wx.setCell ⟨gb, k * 9, none⟩ (.int .i64 v)) (fS ⟨some ⟨gb, 0, none⟩, n, c⟩).ownBlock := hg
  exact ⟨h.bx.grown hg' fun k hk => (World.ownsRow.lt h.o3 k hk).1, o3, h.o4.kept hg' h.n34.symm.ne, h.o5.kept hg' h.n35.symm.ne, h.n34, h.n35, h.n45⟩
/-- A vault's writers set. -/
theorem AR.wrs {gb n c k : Nat} {p : VP} {a : Option Addr} {m e : Nat} {ws : List Int} (h : AR w wx ⟨r1, r2, rq, h3, h4, ⟨some ⟨gb, 0, none⟩, n, c⟩, h6⟩ x xs ms ps) (hm : ps[k]? = some p) :
    AR w (wx.setCell ⟨gb, k * 15 + 1, none⟩ (.slice a m e)) ⟨r1, r2, rq, h3, h4, ⟨some ⟨gb, 0, none⟩, n, c⟩, h6⟩ x xs ms (ps.set k ({ p.1 with ws := ws }, ⟨a, m, e⟩)) := by
  obtain ⟨o5, hg⟩ := OwnN.stored (x := p) (y := (({ p.1 with ws := ws }, ⟨a, m, e⟩) : VP)) (j := 1) (u := .slice a m e) fP_len h.o5 rfl (by omega) hm
  have hg' : wx.grownBy (wx.setCell ⟨gb, k * 15 + 1, none⟩ (.slice a m e)) (fS ⟨some ⟨gb, 0, none⟩, n, c⟩).ownBlock := hg
  exact ⟨h.bx.grown hg' fun k hk => (World.ownsRow.lt h.o5 k hk).1, h.o3.kept hg' h.n35.ne, h.o4.kept hg' h.n45.ne, o5, h.n34, h.n35, h.n45⟩
/-- Another row of votes. -/
theorem AR.vts {A : Option Addr} {n c : Nat} (h : AR w wx ⟨r1, r2, rq, h3, h4, h5, h6⟩ x xs ms ps) (hb : Below wx.heap.size wx wy) :
    AR w (wy.setCell ⟨w.heap.size, 6, none⟩ (.slice A n c)) ⟨r1, r2, rq, h3, h4, h5, ⟨A, n, c⟩⟩ x xs ms ps :=
  ⟨(h.bx.on hb).set 6 _ rfl, OwnN.set (h.o3.on hb) (by omega), OwnN.set (h.o4.on hb) (by omega), OwnN.set (h.o5.on hb) (by omega), h.n34, h.n35, h.n45⟩
/-- What Apply has made reads as the circle. -/
theorem AR.refq {P : Nat → Prop} {r : RV} {S : St} (hP : ∀ k, w.heap.size + 3 ≤ k → P k) (h : AR w wx r x xs ms ps) (hxs : xs.length ≤ 1000)
    (h3n : r.a3.n = xs.length) (h4n : r.a4.n = ms.length) (h5n : r.a5.n = ps.length)
    (hw : ∀ p ∈ ps, Sl I wx wx.heap.size p.2.a p.2.n p.1.ws ∧ (0 < p.1.ws.length → ∀ ad, p.2.a = some ad → P ad.block))
    (hv : SlN fT 2 wx wx.heap.size r.a6.a r.a6.n S.votes) (hv6 : 0 < r.a6.n → ∀ ad, r.a6.a = some ad → P ad.block) (hq : r.q = S.q) (hm : ms = S.ms) (hp : ps.map Prod.fst = S.vs) : RefQ P wx r S := by
  obtain ⟨r1, r2, rq, ⟨A3, n3, c3⟩, ⟨A4, n4, c4⟩, ⟨A5, n5, c5⟩, r6⟩ := r
  subst hm
  have own : ∀ {α : Type} {f : α → List Value} {s : Nat} {e : TypeId} {A : Option Addr} {n c : Nat} {ys : List α}, OwnN f s e wx (w.heap.size + 3) (.slice A n c) ys → ∀ ad, A = some ad → P ad.block := fun ho ad hA => hP _ (World.ownsRow.lt ho ad.block (by rw [hA]; rfl)).1
  have hvi : VIn wx wx.heap.size A5 n5 ps := ⟨OwnN.sl fP_len h.o5, fun p hp => (hw p hp).1⟩
  exact ⟨⟨hq, OwnN.sl fM_len h.o4, ⟨ps, hvi, hp⟩, hv, ⟨xs, OwnN.sl fX_len h.o3, hxs⟩⟩, fun _ => own h.o3, fun _ => own h.o4, fun _ => own h.o5, hv6, ⟨ps, hvi, hp, fun p hp => (hw p hp).2⟩⟩
end
section
variable {P : Nat → Prop} {w wx w9 : World} {r r' : RV} {S S' : St} {x : Chn} {xs : List Chn} {ms : List Mem} {ps ps0 : List VP}
/-- The end of Apply: all rows are made, and the result's box is filled. -/
theorem AR.done (hP : ∀ k, w.heap.size ≤ k → P k) (h : AR w wx r' x xs ms ps) (hxs : xs.length ≤ 1000)
    (h3n : r'.a3.n = xs.length) (h4n : r'.a4.n = ms.length) (h5n : r'.a5.n = ps.length)
    (hw : ∀ p ∈ ps, Sl I wx wx.heap.size p.2.a p.2.n p.1.ws ∧ (0 < p.1.ws.length → ∀ ad, p.2.a = some ad → P ad.block ∧ ad.block ≠ w.heap.size + 2))
    (hv : SlN fT 2 wx wx.heap.size r'.a6.a r'.a6.n S'.votes) (hv6 : 0 < r'.a6.n → ∀ ad, r'.a6.a = some ad → P ad.block ∧ ad.block ≠ w.heap.size + 2) (hq : r'.q = S'.q) (hm : ms = S'.ms) (hp : ps.map Prod.fst = S'.vs)
    (hg : wx.grownBy w9 (some (w.heap.size + 2))) : RefQ P w9 r' S' :=
  (AR.refq (P := fun k => P k ∧ k ≠ w.heap.size + 2) (fun k hk => ⟨hP k (by omega), by omega⟩) h hxs h3n h4n h5n hw hv hv6 hq hm hp).keep hg.size (fun k hk hk' => hg.block k hk (fun e => hk'.2 (Option.some.inj e))) fun k _ hk => hk.1
/-- What came in stays apart from the result's box. -/
theorem VIn.far {A : Option Addr} {n : Nat} (h : VIn w w.heap.size A n ps0) (hpw : ∀ p ∈ ps0, 0 < p.1.ws.length → ∀ ad, p.2.a = some ad → P ad.block) (hb : Below w.heap.size w wx) :
    ∀ p ∈ ps0, Sl I wx wx.heap.size p.2.a p.2.n p.1.ws ∧ (0 < p.1.ws.length → ∀ ad, p.2.a = some ad → P ad.block ∧ ad.block ≠ w.heap.size + 2) := fun p hp =>
  ⟨((h.2 p hp).up hb (Nat.le_refl _)).more' hb.size, fun hn ad e => ⟨hpw p hp hn ad e, by have := (h.2 p hp).low hn e; omega⟩⟩
theorem RefQ.vfar (h : RefQ P w r S) (hb : Below w.heap.size w wx) : SlN fT 2 wx wx.heap.size r.a6.a r.a6.n S.votes ∧ (0 < r.a6.n → ∀ ad, r.a6.a = some ad → P ad.block ∧ ad.block ≠ w.heap.size + 2) :=
  ⟨(h.ref.vt.up hb (Nat.le_refl _)).more hb.size, fun hn ad e => ⟨h.p6 hn ad e, by have := h.ref.vt.low (h.ref.vt.1 ▸ hn) e; omega⟩⟩
end
theorem OwnN.blk {α : Type} {f : α → List Value} {s : Nat} (hs : ∀ x, (f x).length = s) {e : TypeId} {w : World} {base n c : Nat} {A : Option Addr} {xs : List α} (h : OwnN f s e w base (.slice A n c) xs) (hn : 0 < xs.length) : ∃ gb, A = some ⟨gb, 0, none⟩ := by
  obtain ⟨A', c', h1, _, _, _⟩ := h.shape hs
  rcases h.2 with ⟨h', _⟩ | ⟨g', cap', cur, h', _⟩
  · simp at h1 h'; omega
  · simp at h'; exact ⟨g', h'.1⟩
theorem actB_get' {S : St} {d : Nat} {m : Mem} (h : S.ms[d]? = some m) : m.exp = !actB S d := by unfold actB; rw [h]; simp
theorem expel_set {ms : List Mem} {d : Nat} {m : Mem} (hd : ms[d]? = some m) : ms.set d m.out = expel ms d := by
  unfold expel
  apply List.ext_getElem?
  intro i
  rw [List.getElem?_modify, List.getElem?_set]
  by_cases hi : d = i
  · subst hi
    rw [hd, if_pos rfl, if_pos (List.getElem?_eq_some_iff.1 hd).1]
    simp
  · simp [hi]
theorem map_set_modify {ps : List VP} {k : Nat} {p : VP} {f : Vlt → Vlt} {z : Hd} (hk : ps[k]? = some p) : (ps.set k (f p.1, z)).map Prod.fst = (ps.map Prod.fst).modify k f := by
  apply List.ext_getElem?
  intro i
  rw [List.getElem?_modify, List.getElem?_map, List.getElem?_set, List.getElem?_map]
  by_cases hi : k = i
  · subst hi
    rw [hk, if_pos rfl, if_pos (List.getElem?_eq_some_iff.1 hk).1]
    simp
  · simp [hi]
theorem mem_set_or {α : Type} {xs : List α} {k : Nat} {y z : α} (h : z ∈ xs.set k y) : z = y ∨ z ∈ xs := (List.mem_or_eq_of_mem_set h).symm
theorem own_empty2 {α : Type} {f : α → List Value} {s : Nat} {e : TypeId} (w : World) (o : Obj) : OwnN f s e ((w.alloc o).alloc (.cells #[] e)) w.heap.size (.slice (some ⟨w.heap.size + 1, 0, none⟩) 0 0) [] := by
  have h : OwnN f s e ((w.alloc o).alloc (.cells #[] e)) w.heap.size (.slice (some ⟨(w.alloc o).heap.size, 0, none⟩) 0 0) [] := World.ownsRow_lit (w.alloc o) #[] 0 (by simp) (by unfold maxLen; omega) (by simp)
  rwa [show (w.alloc o).heap.size = w.heap.size + 1 by simp] at h
abbrev oT (a b : Int) : Obj := .cells #[.int .i64 a, .int .i64 b] 88
theorem new_fT (U : World) (a b : Int) : SlN fT 2 (U.alloc (.cells (fT (a, b)).toArray 88)) (U.heap.size + 1) (some ⟨U.heap.size, 0, none⟩) 1 [(a, b)] := SlN.of_block (heap_alloc_new U _) (Nat.lt_succ_self _)
end Go.Proofs.Ytafhpomoobdmdaa
