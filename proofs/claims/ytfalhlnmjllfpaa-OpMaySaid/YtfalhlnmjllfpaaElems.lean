/- The element types of slices of bytes and of numbers. -/
import Derived.Test.YtfalhlnmjllfpaaWords
import Derived.Test.YtfalhlnmjllfpaaProg
import Derived.KernelRfl
namespace Go.Proofs.Ytfalhlnmjllfpaa
open Go.RowKit

theorem infoU8 : (Try.prog.info? 5).map (fun i => (i.zero, i.size, i.bytes)) = some (some (.int .u8 0), 1, 1) := by kernel_rfl
theorem elemU8 : Elem Try.prog 29 5 (.int .u8 0) 1 := ⟨Try.underlying29, info_parts infoU8, rfl⟩
theorem infoInt : (Try.prog.info? 3).map (fun i => (i.zero, i.size, i.bytes)) = some (some (.int .i64 0), 1, 8) := by kernel_rfl
theorem elemInt : Elem Try.prog 37 3 (.int .i64 0) 8 := ⟨Try.underlying37, info_parts infoInt, rfl⟩
end Go.Proofs.Ytfalhlnmjllfpaa
