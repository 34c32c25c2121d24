import Derived.Test.YtpdledjgbgalcaaGreatDoorPd
import Derived.Test.YtpdledjgbgalcaaGreatDoorCards
import Derived.Test.YtpdledjgbgalcaaGreatDoorTie
import Derived.ShutString
namespace Go.Proofs.YtpdledjgbgalcaaGreatDoor.blameOpen
set_option maxRecDepth 100000
open Go.ChangeShapes Go.WideShapes Go.ChangeAt Go.RowKit Go.Proofs.Tryz
set_option linter.unusedVariables false
theorem over0 (lifted:∀(os:Os) (G:os.Started) (H:Type) (enc:TypeId × Value->H),
 ReturnsInHanded {} Tryz.checked os 5 .any (fun w args=>(Rows.blameOpenSpec.pre enc prog f5 [] false w args/\laidMetH prog laidTs w)/\sizedMet enc prog f5 (OpenSpec.ofChange Rows.blameOpenSpec) false w args)
  (Rows.blameOpenSpec.post enc prog f5 false true false false)):Rows.BlameOpenSaid:=
 OpenClaim.holds_of_wide 5 f5 rfl rfl rfl rfl rfl rfl rfl ⟨rfl,rfl,rfl,rfl,rfl⟩ rfl rfl rfl rfl rfl ya9 func5 ya9
  (of_decide_eq_true ya9) (by unfold Func.isWrapper;first |(rw [if_pos (by decide+kernel)];kernel_rfl) |(rw [if_neg (by decide+kernel)];exact ⟨rfl,rfl⟩))
  (fun os G H enc _=>lifted os G H enc)
