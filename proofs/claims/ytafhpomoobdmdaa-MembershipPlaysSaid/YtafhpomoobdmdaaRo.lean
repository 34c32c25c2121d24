/- Member, Vault, Writers, Holders. -/
import Derived.Test.YtafhpomoobdmdaaCo
import Derived.Test.YtafhpomoobdmdaaPl2
import Derived.Test.YtafhpomoobdmdaaNw
namespace Go.Proofs.Ytafhpomoobdmdaa
open Go.RowKit Mb
set_option linter.unusedVariables false
set_option linter.unusedSimpArgs false

theorem ret_cell_tmpS {P : Program} {w : World} {fn : Func} {p u : Tmp} {ty : TypeId} (hr : fn.results = #[.cell p ty, .tmp u]) {tmps : Array Value} {g : Nat} {t : TypeId} {cs : Array Value} {fr : Nat × Nat} {d : TypeDesc}
    (hp : tmps.getD p undef = .pointer (some ⟨g, 0, none⟩)) (hg : w.heap[g]? = some (.cells cs t fr)) (hu : P.underlying ty = some d) (hd : (match d with | .struct _ | .array _ _ => true | _ => false) = true) (hi : (P.info? ty).map (·.size) = some cs.size) :
    (results fn tmps).run P w = .ok (.tuple #[.agg cs, tmps.getD u undef]) w := by
  rw [results_cell_tmp hr, hp]
  simp [asAddr, Result.andThen, run_loadVar_row w g t ty cs fr d hg hu hd hi]
def zM : Mem := ⟨0, ⟨#[]⟩, ⟨#[]⟩, 0, false⟩
def zV : Vlt := ⟨0, [], 0, 0, 0, ⟨#[]⟩, 0, 0, 0, 0, 0, 0, 0, 0, 0⟩
def MemP (m : Mem) (r : Int) (w : World) (e : Ending) (w' : World) : Prop := e = .returned (.tuple #[aM m, .int .i64 r]) ∧ Below w.heap.size w w'
set_option maxRecDepth 20000 in
set_option maxHeartbeats 2000000 in
theorem member_no (g : Nat) (lab : Nat → Nat) (S : Cst) (d : Int) (w : World) (hC : Cir w lab g S) (hn : S.s.ms.length ≤ 1000) (hd : hasB S.s d = false) :
    Calls Try.prog 44 #[fG g, .int .i64 d] w (MemP zM 4 w) := by
  obtain ⟨W, hW⟩ : ∃ W : World, W = (w.alloc (.cells #[.int .i64 0, .string ⟨#[]⟩, .string ⟨#[]⟩, .int .i64 0, .bool false] 35)) := ⟨_, rfl⟩
  have hB : Below w.heap.size w W := by rw [hW]; exact (Below.refl _ _).alloc (Nat.le_refl _) _
  have HH : Hid (Calls Try.prog 32 #[fG g, .int .i64 d] W fun e w' => e = .returned (.bool false) ∧ W = w') := hd ▸ has_cir g lab S d _ (hC.on hB) hn
  have HB := Lib.hid hB
  have HW := Lib.hid hW
  have HG : Hid (W.heap[w.heap.size]? = some (.cells #[.int .i64 0, .string ⟨#[]⟩, .string ⟨#[]⟩, .int .i64 0, .bool false] 35 (0, 0))) := by show _ = _; rw [hW]; exact heap_alloc_new w _
  clear hC hd hB hW
  go_enter Try.func44, Try.ntmps44
  go_wp2_with fail
  rw [← HW.out]
  refine HH.out.mono ?_
  rintro e w1 ⟨rfl, rfl⟩
  go_wp2_with ((refine wpList_store_far (o := ⟨none, .store 35 (.tmp 4) (.tmp 10), _, _, _, _⟩) rfl 35 (.tmp 4) (.tmp 10) rfl w.heap.size 35 _ (cMa zM) rfl rfl HG.out Try.sizeM rfl (cMa_one _) w.heap.size w HB.out (Nat.le_refl _) ?_); intro w3 HG3 hb3 HB3)
  exact bodyPost_ret (ret_cell_tmpS rfl rfl HG3.out Try.underlying35 rfl Try.sizeM) rfl ⟨rfl, hb3⟩
set_option maxRecDepth 20000 in
set_option maxHeartbeats 2000000 in
theorem member_yes (g : Nat) (lab : Nat → Nat) (S : Cst) (d : Int) (m : Mem) (w : World) (hC : Cir w lab g S) (hn : S.s.ms.length ≤ 1000) (hd : hasB S.s d = true) (hm : S.s.ms[d.toNat]? = some m) :
    Calls Try.prog 44 #[fG g, .int .i64 d] w (MemP m 0 w) := by
  obtain ⟨W, hW⟩ : ∃ W : World, W = (w.alloc (.cells #[.int .i64 0, .string ⟨#[]⟩, .string ⟨#[]⟩, .int .i64 0, .bool false] 35)) := ⟨_, rfl⟩
  have hB : Below w.heap.size w W := by rw [hW]; exact (Below.refl _ _).alloc (Nat.le_refl _) _
  have HH : Hid (Calls Try.prog 32 #[fG g, .int .i64 d] W fun e w' => e = .returned (.bool true) ∧ W = w') := hd ▸ has_cir g lab S d _ (hC.on hB) hn
  have h5 : 0 ≤ d ∧ d < S.s.ms.length := by unfold hasB at hd; simpa using hd
  obtain ⟨k, rfl⟩ : ∃ k : Nat, d = k := ⟨d.toNat, by omega⟩
  have hk : k < S.s.ms.length := by omega
  rw [show ((k : Int)).toNat = k by omega] at hm
  obtain ⟨A, c, hcm, hs, hcc⟩ := (hC.on hB).mem
  obtain ⟨b, off, x, rfl, hbB, hxk, hcell⟩ := hs.at_ hk
  obtain rfl : x = m := Option.some.inj (hxk.symm.trans hm)
  obtain ⟨c0, c1, c2, c3, c4⟩ := five hcell
  have HB := Lib.hid hB
  have HW := Lib.hid hW
  have HG : Hid (W.heap[w.heap.size]? = some (.cells #[.int .i64 0, .string ⟨#[]⟩, .string ⟨#[]⟩, .int .i64 0, .bool false] 35 (0, 0))) := by show _ = _; rw [hW]; exact heap_alloc_new w _
  clear hcell hxk hm hs hC hd hB h5 hW
  go_enter Try.func44, Try.ntmps44
  go_wp2_with fail
  rw [← HW.out]
  refine HH.out.mono ?_
  rintro e w1 ⟨rfl, rfl⟩
  go_wp2_with ((refine wpList_store_far (o := ⟨none, .store 35 (.tmp 4) (.tmp 17), _, _, _, _⟩) rfl 35 (.tmp 4) (.tmp 17) rfl w.heap.size 35 _ (cMa x) rfl rfl HG.out Try.sizeM rfl (cMa_one _) w.heap.size w HB.out (Nat.le_refl _) ?_); intro w3 HG3 hb3 HB3)
  exact bodyPost_ret (ret_cell_tmpS rfl rfl HG3.out Try.underlying35 rfl Try.sizeM) rfl ⟨rfl, hb3⟩
end Go.Proofs.Ytafhpomoobdmdaa
