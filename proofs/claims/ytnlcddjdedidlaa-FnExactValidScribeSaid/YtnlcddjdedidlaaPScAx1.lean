-- Written by drv.py (a program of this session) over the kit's print.py. Not trusted: Lean checks it.
import Derived.Test.YtnlcddjdedidlaaPScAx0
namespace Go.Proofs.Ytnlcddjdedidlaa.PScA
open Go.RowKit Go.Proofs.YtnlcddjdedidlaaW.PrintWords Go.Proofs.YtnlcddjdedidlaaW.PrintLast Go.Proofs.YtnlcddjdedidlaaW.PrintMore Go.Proofs.Ytnlcddjdedidlaa.Sc
attribute [local go_sem] max2_int min2_int max_two min_two max_three min_three max_four min_four   -- for this text's walks alone
set_option linter.unusedVariables false
set_option linter.unusedSimpArgs false

theorem eqA49 (d : Nat) (w : World) (x0 y0 : Int) (x1 y1 : Int) :
    (Op.equalIn (d + 2) 49 (.agg #[.int .i64 x0, .int .i64 x1]) (.agg #[.int .i64 y0, .int .i64 y1])).run Try.prog w = .ok (x0 == y0 && (x1 == y1)) w := by
  obtain ⟨i, hi⟩ := Option.isSome_iff_exists.mp (show (Try.prog.info? 2).isSome = true by kernel_rfl)
  have hc : Try.prog.cellsOf 2 = 1 := by kernel_rfl
  have hu := Try.underlying2
  rw [run_equalIn_array w (d + 1) _ _ Try.underlying49 hi, hc]
  simp only [List.range, List.range.loop, Op.eqItems, Sem.run_bind]
  go_simp
  cases h0 : (x0 == y0) <;> cases h1 : (x1 == y1) <;> simp_all

end Go.Proofs.Ytnlcddjdedidlaa.PScA
