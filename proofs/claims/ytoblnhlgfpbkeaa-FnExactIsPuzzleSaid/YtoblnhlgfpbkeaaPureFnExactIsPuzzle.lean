/- The program's IsPuzzle answers as the reference's IsPuzzle does, and leaves its puzzle alone, for all arguments that the law lets in; no condition beside that. -/
import Derived.Test.YtoblnhlgfpbkeaaX4
import Derived.Test.YtoblnhlgfpbkeaaClues
namespace Go.Proofs.Ytoblnhlgfpbkeaa.Pure
open Go.RowKit Go.Proofs.Ytoblnhlgfpbkeaa.X Go.Proofs.YtoblnhlgfpbkeaaW.PrintWords Go.Proofs.YtoblnhlgfpbkeaaW.PrintLast Go.Proofs.Ytoblnhlgfpbkeaa.Clues
set_option linter.unusedVariables false
set_option linter.unusedSimpArgs false

theorem FnExactIsPuzzle : laws_FnExactIsPuzzle.Pure := by
  intro a l _ hm _
  obtain ⟨r, hr, hs⟩ := sized a l hm
  have hc := conv_length l
  refine ⟨l.length + 100, ?_⟩
  unfold laws_FnExactIsPuzzle.f spec_IsPuzzle.f
  rw [hs, Option.bind_some]
  rcases hr with h | ⟨hl, h⟩
  · rw [if_pos h]
  · obtain ⟨b, h1, _, h2⟩ := good a (conv l) (by omega)
    rw [if_neg h, toP a l hl (l.length + 100) (by omega), Option.bind_some]
    show (Option.bind (Option.bind (spec_pzGood.f (l.length + 100) a (conv l)) _) _) = _
    rw [h2 (l.length + 100) (by omega), Option.bind_some, Option.bind_some, Option.bind_some]
    show (Option.bind (impl_IsPuzzle.f a (conv l)) _) = _
    rw [h1, Option.bind_some, if_neg (by simp), Option.bind_some]
    show (Option.bind (laws_eqPuzzle.f (l.length + 100) a (conv l) a (conv l)) _) = _
    rw [eqP a (conv l) (by omega) (l.length + 100) (by omega), Option.bind_some, if_pos rfl]
end Go.Proofs.Ytoblnhlgfpbkeaa.Pure
