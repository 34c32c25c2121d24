import Derived.Test.YtpdledjgbgalcaaGreatDoorPc
import Derived.Test.YtpdledjgbgalcaaGreatDoorCards
import Derived.Test.YtpdledjgbgalcaaGreatDoorTie
import Derived.ShutString
namespace Go.Proofs.YtpdledjgbgalcaaGreatDoor.blameNames
set_option maxRecDepth 100000
open Go.ChangeShapes Go.WideShapes Go.ChangeAt Go.RowKit Go.Proofs.Tryz
set_option linter.unusedVariables false
theorem over0 (lifted:∀(os:Os) (G:os.Started) (H:Type) (enc:TypeId × Value->H),
 ReturnsInHanded {} Tryz.checked os 6 .any (fun w args=>(Rows.blameNamesSpec.pre enc prog f6 [] false w args/\laidMetH prog laidTs w)/\sizedMet enc prog f6 (OpenSpec.ofChange Rows.blameNamesSpec) false w args)
  (Rows.blameNamesSpec.post enc prog f6 false true false false)):Rows.BlameNamesSaid:=
 OpenClaim.holds_of_wide 6 f6 rfl rfl rfl rfl rfl rfl rfl ⟨rfl,rfl,rfl,rfl,rfl⟩ rfl rfl rfl rfl rfl ybi func6 ybi
  (of_decide_eq_true ybi) (by unfold Func.isWrapper;first |(rw [if_pos (by decide+kernel)];kernel_rfl) |(rw [if_neg (by decide+kernel)];exact ⟨rfl,rfl⟩))
  (fun os G H enc _=>lifted os G H enc)
