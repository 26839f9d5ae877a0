/- What operations on ways do, one by one. -/
import Derived.Test.YtaeiikielelicaaPtLawsP
import Derived.Test.YtaeiikielelicaaPtAny
set_option linter.unusedVariables false
set_option linter.unusedSimpArgs false
set_option linter.unusedSectionVars false
set_option linter.deprecated false
namespace Go.Proofs.Ytaeiikielelicaa.Pt
open Go.RowKit Go.Proofs Go.Am
open Pm
set_option maxRecDepth 1000000
set_option linter.unusedVariables false
set_option linter.unusedSimpArgs false
noncomputable section
def vW (c : V3) : Value := .agg #[c.1, c.2.1, c.2.2]
theorem run_alloc28 (o : Oper) (ho : o.op = .alloc 28) (ev : Operand → Value) (W : World) : (execOp ev o).run Try.prog W = .ok (.value (.pointer (some ⟨W.heap.size, 0, none⟩))) (W.alloc (.cells #[.int .i64 0, .string ⟨#[]⟩, .slice none 0 0] 28)) := by
  have h : (Instr.alloc 28 true (.tuple #[])).run Try.prog W = .ok (.pointer (some ⟨W.heap.size, 0, none⟩)) (W.alloc (.cells #[.int .i64 0, .string ⟨#[]⟩, .slice none 0 0] 28)) := by kernel_rfl
  simp [execOp, ho, h, Result.andThen]
theorem run_rows3 (o : Oper) (x y z : Operand) (ho : o.op = .buildSlice 26 3 #[(0, x), (1, y), (2, z)]) (ev : Operand → Value) (a b c : V3) (hx : ev x = vW a) (hy : ev y = vW b) (hz : ev z = vW c) (W : World) :
    (execOp ev o).run Try.prog W = .ok (.value (.slice (some ⟨W.heap.size, 0, none⟩) 3 3)) (W.alloc (.cells #[a.1, a.2.1, a.2.2, b.1, b.2.1, b.2.2, c.1, c.2.1, c.2.2] 28)) := by
  have h : (Instr.buildSlice 26 3 #[(0, vW a), (1, vW b), (2, vW c)]).run Try.prog W = .ok (.slice (some ⟨W.heap.size, 0, none⟩) 3 3) (W.alloc (.cells #[a.1, a.2.1, a.2.2, b.1, b.2.1, b.2.2, c.1, c.2.1, c.2.2] 28)) := by kernel_rfl
  simp [execOp, ho, hx, hy, hz, h, Result.andThen]
theorem run_build28 (o : Oper) (k : Int) (x : Operand) (ho : o.op = .build 28 #[(0, .const (.int .i64 k)), (2, x)]) (ev : Operand → Value) (hc : ev (.const (.int .i64 k)) = .int .i64 k) (v : Value) (hx : ev x = v) (hv : ∃ a n m, v = .slice a n m) (W : World) :
    (execOp ev o).run Try.prog W = .ok (.value (.agg #[.int .i64 k, .string ⟨#[]⟩, v])) W := by
  obtain ⟨a, n, m, rfl⟩ := hv
  have h : (Instr.build 28 #[(0, .int .i64 k), (2, .slice a n m)]).run Try.prog W = .ok (.agg #[.int .i64 k, .string ⟨#[]⟩, .slice a n m]) W := by kernel_rfl
  simp [execOp, ho, hx, hc, h, Result.andThen]
theorem run_load28 (o : Oper) (x : Operand) (ho : o.op = .load 28 x) (ev : Operand → Value) (g : Nat) (hx : ev x = .pointer (some ⟨g, 0, none⟩)) (c : V3) (t : TypeId) (W : World) (hg : W.heap[g]? = some (.cells #[c.1, c.2.1, c.2.2] t (0, 0))) :
    (execOp ev o).run Try.prog W = .ok (.value (vW c)) W := by
  have h := run_loadVar_row (P := Try.prog) W g t 28 #[c.1, c.2.1, c.2.2] (0, 0) _ hg und28 rfl sz28
  simp [execOp, ho, hx, Instr.loadAt, Instr.sureAddr, h, Result.andThen, vW]
theorem run_store28 (o : Oper) (p x : Operand) (ho : o.op = .store 28 p x) (ev : Operand → Value) (g : Nat) (hp : ev p = .pointer (some ⟨g, 0, none⟩)) (k : Int) (s : ByteArray) (a : Option Addr) (n m : Nat) (hx : ev x = .agg #[.int .i64 k, .string s, .slice a n m]) (cs : Array Value) (hcs : cs.size = 3) (W : World) (hg : W.heap[g]? = some (.cells cs 28 (0, 0))) :
    (execOp ev o).run Try.prog W = .ok .skip (W.setRow g #[.int .i64 k, .string s, .slice a n m]) := by
  have hst := run_storeCells_at Try.prog g 0 28 [.int .i64 k, .string s, .slice a n m] 0 _ W hg (by simp [hcs]) (by intro u hu; simp only [List.mem_cons, List.not_mem_nil, or_false] at hu; rcases hu with rfl | rfl | rfl <;> rfl)
  rw [List.drop_eq_nil_of_le (by simp [hcs]), List.append_nil] at hst
  change _ = Result.ok () (W.setRow g #[.int .i64 k, .string s, .slice a n m]) at hst
  have hsz := sz28
  cases hq : Try.prog.info? 28 with
  | none => simp [hq] at hsz
  | some i =>
    have hi : i.size = 3 := by simpa [hq] using hsz
    have hn : (Value.agg #[.int .i64 k, .string s, .slice a n m]).cells.size = 3 := rfl
    have hrun : (storeCells ⟨g, 0, none⟩ (Value.agg #[.int .i64 k, .string s, .slice a n m]).cells.toList 0).run Try.prog W = .ok () (W.setRow g #[.int .i64 k, .string s, .slice a n m]) := hst
    simp [execOp, ho, hp, hx, Instr.storeAt, Instr.sureAddr, storeVar, sizeOf, typeInfo, hq, hi, hn, hrun, Result.andThen]
end
end Go.Proofs.Ytaeiikielelicaa.Pt
