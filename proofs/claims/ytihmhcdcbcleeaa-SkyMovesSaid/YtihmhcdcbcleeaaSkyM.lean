/- Lists that are set in the middle. -/
import Derived.Test.YtihmhcdcbcleeaaAid
namespace Go.Proofs.Ytihmhcdcbcleeaa.Pure
/-! ### lists set in the middle -/
theorem getD_mid {α : Type} (z : α) (A : List α) (v : α) (T : List α) {n : Nat} (h : A.length = n) : (A ++ v :: T).getD n z = v := by
  subst h; simp
theorem set_mid {α : Type} (A : List α) (v u : α) (T : List α) {n : Nat} (h : A.length = n) : (A ++ v :: T).set n u = A ++ u :: T := by
  subst h; simp
end Go.Proofs.Ytihmhcdcbcleeaa.Pure
