import Derived.Test.YtdjeadgebcndeaazAid
namespace Go.Proofs.YtdjeadgebcndeaaW.Aid
open Go.RowKit Go.Proofs.YtdjeadgebcndeaaW.PrintWords
set_option linter.unusedVariables false
theorem heap_new2 (w : World) (o o' : Obj) : ((w.alloc o).alloc o').heap[w.heap.size + 1]? = some o' := by
 show ((w.heap.push o).push o')[_]? = _
 have h : (w.heap.push o).size = w.heap.size + 1 := by simp
 rw [← h]
 exact Array.getElem?_push_size
end Go.Proofs.YtdjeadgebcndeaaW.Aid
