/- Comparisons of strings, as the printed functions spell them. -/
import Derived.Test.YtfikhfahpdhjbaaDoorProg
import Derived.Tactics
namespace Go.Proofs.YtfikhfahpdhjbaaDoor.P
open Go

theorem bytesLess_swap : ∀ a b : List UInt8, (!(Op.bytesLess a b || a == b)) = Op.bytesLess b a
  | [], [] => rfl
  | [], _ :: _ => rfl
  | _ :: _, [] => rfl
  | a :: x, b :: y => by
    have ih := bytesLess_swap x y
    show (!((decide (a < b) || (a == b && Op.bytesLess x y)) || ((a :: x) == (b :: y)))) = (decide (b < a) || (b == a && Op.bytesLess y x))
    rw [show ((a :: x) == (b :: y)) = (a == b && x == y) from rfl]
    rcases Nat.lt_trichotomy a.toNat b.toNat with h | h | h
    · have h1 : decide (a < b) = true := decide_eq_true (UInt8.lt_iff_toNat_lt.2 h)
      have h2 : decide (b < a) = false := decide_eq_false (fun h' => by have := UInt8.lt_iff_toNat_lt.1 h'; omega)
      have h3 : (b == a) = false := beq_eq_false_iff_ne.2 (fun e => by rw [e] at h; omega)
      rw [h1, h2, h3]
      rfl
    · have e : a = b := UInt8.toNat_inj.1 h
      subst e
      have h1 : decide (a < a) = false := decide_eq_false (fun h' => by have := UInt8.lt_iff_toNat_lt.1 h'; omega)
      have h3 : (a == a) = true := beq_self_eq_true a
      rw [h1, h3]
      simpa using ih
    · have h1 : decide (a < b) = false := decide_eq_false (fun h' => by have := UInt8.lt_iff_toNat_lt.1 h'; omega)
      have h2 : decide (b < a) = true := decide_eq_true (UInt8.lt_iff_toNat_lt.2 h)
      have h3 : (a == b) = false := beq_eq_false_iff_ne.2 (fun e => by rw [e] at h; omega)
      rw [h1, h2, h3]
      rfl
theorem str_gtr (t : TypeId) (a b : ByteArray) : binOp .gtr t (.string a) (.string b) = pure (.bool (Op.bytesLess b.toList a.toList)) := by
  rw [← bytesLess_swap]
  simp [binOp, Op.stringOp]
theorem str_leq (t : TypeId) (a b : ByteArray) : binOp .leq t (.string a) (.string b) = pure (.bool (!Op.bytesLess b.toList a.toList)) := by
  rw [← bytesLess_swap, Bool.not_not]
  simp [binOp, Op.stringOp]
theorem str_geq (t : TypeId) (a b : ByteArray) : binOp .geq t (.string a) (.string b) = pure (.bool (!Op.bytesLess a.toList b.toList)) := by
  simp [binOp, Op.stringOp]
end Go.Proofs.YtfikhfahpdhjbaaDoor.P
