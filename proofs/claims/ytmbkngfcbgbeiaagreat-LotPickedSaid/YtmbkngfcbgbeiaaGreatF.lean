/- Facts of the program's tables: a field of a struct that is a value. -/
import Derived.Test.YtmbkngfcbgbeiaaGreatProg
import Derived.WalkKit
import Derived.KernelRfl
namespace Go.Proofs.YtmbkngfcbgbeiaaGreat
section
variable (a b c d e : Value) (w : World)
@[go_sem ↓] theorem fSpan0 : (Instr.field 75 (.agg #[a, b]) 0).run Tryz.prog w = .ok a w := by kernel_rfl
@[go_sem ↓] theorem fSpan1 : (Instr.field 75 (.agg #[a, b]) 1).run Tryz.prog w = .ok b w := by kernel_rfl
@[go_sem ↓] theorem fGrade0 : (Instr.field 58 (.agg #[a, b]) 0).run Tryz.prog w = .ok a w := by kernel_rfl
@[go_sem ↓] theorem fGrade1 : (Instr.field 58 (.agg #[a, b]) 1).run Tryz.prog w = .ok b w := by kernel_rfl
@[go_sem ↓] theorem fPick0 : (Instr.field 49 (.agg #[a, b, c, d]) 0).run Tryz.prog w = .ok a w := by kernel_rfl
@[go_sem ↓] theorem fPick1 : (Instr.field 49 (.agg #[a, b, c, d]) 1).run Tryz.prog w = .ok b w := by kernel_rfl
@[go_sem ↓] theorem fPick2 : (Instr.field 49 (.agg #[a, b, c, d]) 2).run Tryz.prog w = .ok c w := by kernel_rfl
@[go_sem ↓] theorem fPick3 : (Instr.field 49 (.agg #[a, b, c, d]) 3).run Tryz.prog w = .ok d w := by kernel_rfl
@[go_sem ↓] theorem fStore0 : (Instr.field 33 (.agg #[a, b, c]) 0).run Tryz.prog w = .ok a w := by kernel_rfl
@[go_sem ↓] theorem fStore1 : (Instr.field 33 (.agg #[a, b, c]) 1).run Tryz.prog w = .ok b w := by kernel_rfl
@[go_sem ↓] theorem fStore2 : (Instr.field 33 (.agg #[a, b, c]) 2).run Tryz.prog w = .ok c w := by kernel_rfl
@[go_sem ↓] theorem fChoice0 : (Instr.field 140 (.agg #[a, b, c, d, e]) 0).run Tryz.prog w = .ok (.agg #[a, b, c, d]) w := by kernel_rfl
@[go_sem ↓] theorem fChoice1 : (Instr.field 140 (.agg #[a, b, c, d, e]) 1).run Tryz.prog w = .ok e w := by kernel_rfl
@[go_sem ↓] theorem fStage0 : (Instr.field 138 (.agg #[a, b, c, d, e]) 0).run Tryz.prog w = .ok (.agg #[a, b, c, d]) w := by kernel_rfl
@[go_sem ↓] theorem fStage1 : (Instr.field 138 (.agg #[a, b, c, d, e]) 1).run Tryz.prog w = .ok e w := by kernel_rfl
@[go_sem ↓] theorem fEnd0 : (Instr.field 157 (.agg #[a]) 0).run Tryz.prog w = .ok a w := by kernel_rfl
end
end Go.Proofs.YtmbkngfcbgbeiaaGreat
