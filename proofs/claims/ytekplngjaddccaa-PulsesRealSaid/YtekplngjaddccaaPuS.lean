/-
  Plain laws about the functions of pulses: the different lists.
  Conditions: none.
-/
import Derived.Test.YtekplngjaddccaaPuR
set_option linter.all false
namespace Go.Law
open Go Go.AM

theorem cl_len (p : Pulse) : ∀ (l : List Int) (y g h : Int) (out q : List Int), cl p y g h out l = some q → q.length ≤ out.length + l.length + 1
  | [], y, g, h, out, q, e => by
    simp only [cl] at e
    split at e
    · cases e; simp
    · cases e
  | x :: l, y, g, h, out, q, e => by
    simp only [cl] at e
    repeat' split at e
    all_goals first | (cases e; done) | (have := cl_len p l _ _ _ _ _ e; simp at this ⊢; omega)
theorem clean_len (p : Pulse) (l q : List Int) (e : clean p l = some q) : q.length ≤ l.length := by
  cases l with
  | nil => simp [clean] at e; simp [← e]
  | cons x l => have := cl_len p l _ _ _ _ _ e; simpa using this
theorem listOf_len (p : Pulse) (is : List Nat) : (listOf p is).length ≤ p.Times.length := by
  unfold listOf
  cases h : rd p is with
  | none => simp
  | some l =>
    have h1 := clean_len p _ _ h
    have h2 := less_len (fun j => is.contains j) p.Times 0
    simp; omega
end Go.Law
