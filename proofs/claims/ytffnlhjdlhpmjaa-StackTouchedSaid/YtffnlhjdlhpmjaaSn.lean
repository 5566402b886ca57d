/- How many bits a number takes: the library's, laid at this program. -/
import Derived.Test.YtffnlhjdlhpmjaaSl
import Derived.KernelRfl
set_option linter.all false
namespace Go.Proofs.Ytffnlhjdlhpmjaa
open Go.Proofs Mv
theorem bits_ok (n : Nat) (hn : n < 4611686018427387904) : ∃ b : Int, CallsV Try.prog 113 [.int .u64 (n : Int)] (.int .i64 b) :=
  ⟨_, ⟨_, Try.func113, rfl, rfl⟩, fun w F vs hrel hlt => by
    obtain ⟨v, rfl, hv⟩ := (RelI.frz hrel).sole
    cases hv with
    | frz h =>
      cases h with
      | int =>
        refine (Go.calls_of_every_depth fun D => lenWalkInAllM { Try.sortL with } D n w hn).mono fun e w' he => ?_
        obtain ⟨rfl, rfl⟩ := he
        exact ⟨_, _, F, [], rfl, rfl, Ext.refl _ _, fun b h => h, fun b h => .inl h, hlt, .frz (.int _ _), by simp, by simp⟩⟩
end Go.Proofs.Ytffnlhjdlhpmjaa
