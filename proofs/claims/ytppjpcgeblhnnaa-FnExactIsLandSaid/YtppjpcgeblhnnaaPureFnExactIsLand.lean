/- The program's IsLand answers as the reference's IsLand does, and leaves its list alone, for all arguments that the law lets in; no condition beside that. -/
import Derived.Test.YtppjpcgeblhnnaaX3
import Derived.Test.YtppjpcgeblhnnaaLawStr
import Derived.Test.YtppjpcgeblhnnaaLand
namespace Go.Proofs.Ytppjpcgeblhnnaa.Pure
open Go.RowKit Go.Proofs.Ytppjpcgeblhnnaa.X Go.Proofs.YtppjpcgeblhnnaaW.PrintWords Go.Proofs.YtppjpcgeblhnnaaW.PrintLast Go.Proofs.Ytppjpcgeblhnnaa
set_option linter.unusedVariables false
set_option linter.unusedSimpArgs false

theorem FnExactIsLand : laws_FnExactIsLand.Pure := by
  intro l hm hs
  rcases LawStr.sized l hm hs with ⟨r, hr, K, hK⟩ | ⟨hl, hs', r, hr, hK⟩
  · refine ⟨K, ?_⟩
    unfold laws_FnExactIsLand.f
    rw [hK K (Nat.le_refl _)]
    simp only [Option.bind_some]
    rw [if_pos hr]
  · obtain ⟨b, _, hg⟩ := Land.land l hl
    obtain ⟨g1, g2⟩ := hg (l.length + 400) (by omega)
    refine ⟨l.length + 400, ?_⟩
    unfold laws_FnExactIsLand.f spec_IsLand.f
    rw [hK _ (by omega), LawStr.toStringS l hl _ (by omega)]
    simp only [Option.bind_some]
    rw [if_neg (by omega), g1, g2]
    simp [LawStr.eqStringS l hl (l.length + 400) (by omega)]
end Go.Proofs.Ytppjpcgeblhnnaa.Pure
