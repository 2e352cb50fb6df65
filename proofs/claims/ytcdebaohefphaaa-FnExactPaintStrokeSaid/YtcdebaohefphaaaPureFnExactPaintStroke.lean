/- The program's PaintStroke answers as the reference's PaintStroke does, for all arguments that the law lets in; no condition beside that. -/
import Derived.Test.YtcdebaohefphaaaX3
import Derived.Test.YtcdebaohefphaaaPaint
namespace Go.Proofs.Ytcdebaohefphaaa.Pure
open Go.RowKit Go.Proofs.Ytcdebaohefphaaa.X Go.Proofs.YtcdebaohefphaaaW.PrintWords Go.Proofs.YtcdebaohefphaaaW.PrintLast Go.Proofs.Ytcdebaohefphaaa Go.Proofs.Ytcdebaohefphaaa.Fence
set_option linter.unusedVariables false
set_option linter.unusedSimpArgs false

theorem FnExactPaintStroke : laws_FnExactPaintStroke.Pure := by
  intro s f t c _ _ _ _
  obtain ⟨b, e1, iff1, e2⟩ := fence s
  refine ⟨30, ?_⟩
  unfold laws_FnExactPaintStroke.f laws_szStroke.f
  by_cases h : (s.size : Int) > 1048576
  · rw [if_pos h]
  · rw [if_neg h]
    by_cases h2 : wrap64 (1048576 - (c.size : Int)) < 0
    · rw [if_pos h2]; rfl
    · rw [if_neg h2]
      simp only [Option.bind_some]
      rw [if_neg h2]
      unfold laws_toStroke.f spec_PaintStroke.f impl_PaintStroke.f
      rw [e1, e2 30 (by omega)]
      simp only [Option.bind_some]
      cases b with
      | false => simp
      | true =>
        have g := (iff1.1 rfl).1
        obtain ⟨r, r1, r2, hr⟩ := stroke (s.size : Int) f t c (by omega) (by omega)
        rw [if_pos rfl, if_pos rfl, r1, r2]
        simp only [Option.bind_some]
        cases r with
        | false => simp
        | true =>
          obtain ⟨y, _, y1, y2⟩ := Paint.paint s c f t (by omega) (hr.1 rfl)
          rw [if_pos rfl, if_pos rfl, y1, y2 30 (by omega)]
          simp
end Go.Proofs.Ytcdebaohefphaaa.Pure
