/- Circles, plainly: no program in sight. -/
namespace Go.Proofs.Ytkeicjokekmkpaa
namespace Mb
set_option linter.unusedVariables false
set_option linter.unusedSimpArgs false

/-- A member. -/
structure Mem where
  dev : Int
  name : ByteArray
  pub : ByteArray
  quota : Int
  exp : Bool
/-- A vault with its writers. -/
structure Vlt where
  num : Int
  ws : List Int
  data : Int
  total : Int
  thr : Int
  print : ByteArray
  cmin : Int
  cmax : Int
  cwin : Int
  cbits : Int
  cseed : Int
  ra : Int
  rb : Int
  rc : Int
  rd : Int
/-- A circle's state. -/
structure St where
  ms : List Mem
  vs : List Vlt
  q : Int
  votes : List (Int × Int)
def letB (c : UInt8) : Bool := decide (97 ≤ c.toNat) && decide (c.toNat ≤ 122)
def nameB (s : ByteArray) : Bool := decide (1 ≤ s.size) && (decide (s.size ≤ 16) && s.data.toList.all letB)
def memB (m : Mem) (d : Int) : Bool := decide (m.dev = d) && (nameB m.name && (decide (m.pub.size = 32) && (decide (0 ≤ m.quota) && (decide (m.quota ≤ 1099511627776) && !m.exp))))
/-- The name or the key is the same. -/
def likeB (m x : Mem) : Bool := x.name.toList == m.name.toList || x.pub.toList == m.pub.toList
def takenB (ms : List Mem) (m : Mem) : Bool := ms.any (likeB m)
def hasB (S : St) (d : Int) : Bool := decide (0 ≤ d) && decide (d < S.ms.length)
def actB (S : St) (d : Nat) : Bool := match S.ms[d]? with
  | some m => !m.exp
  | none => false
def votedB (S : St) (v d : Int) : Bool := S.votes.contains (v, d)
/-- The members whose votes count. -/
def counting (S : St) (d : Int) : List Int := ((List.range S.ms.length).filter fun v => actB S v && votedB S v d).map fun v : Nat => (v : Int)
def activeL (S : St) : List Int := ((List.range S.ms.length).filter fun v => actB S v).map fun v : Nat => (v : Int)
/-- A member expelled. -/
def Mem.out (m : Mem) : Mem := { m with exp := true }
def expel (ms : List Mem) (d : Nat) : List Mem := ms.modify d Mem.out
end Mb
end Go.Proofs.Ytkeicjokekmkpaa
