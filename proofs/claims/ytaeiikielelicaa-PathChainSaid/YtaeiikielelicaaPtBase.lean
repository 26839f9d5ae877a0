/- Terms, pairs of terms, triples, as values; keys of the maps of path. -/
import Derived.Test.YtaeiikielelicaaPtMap
import Derived.KernelRfl
import Derived.ChangeKeysEq
import Derived.Shelf.Lays
import Derived.Deep.LoopGhost
import Derived.Lib.SliceRun
import Derived.Deep.RegionWith
import Derived.Deep.QuietTactic
import Derived.Laws.AppendOwn
import Derived.Test.YtaeiikielelicaaProg
set_option linter.unusedVariables false
set_option linter.unusedSimpArgs false
set_option linter.unusedSectionVars false
set_option linter.deprecated false
namespace Go.Proofs.Ytaeiikielelicaa.Pt
open Go.RowKit Go.Proofs
open Pm
noncomputable section
/-- a term. -/
structure Tm where
  kind : Int
  s : ByteArray
  lang : ByteArray
  ty : ByteArray
deriving DecidableEq
def cT (t : Tm) : List Value := [.int .i64 t.kind, .string t.s, .string t.lang, .string t.ty]
def encT (t : Tm) : Value := .agg #[.int .i64 t.kind, .string t.s, .string t.lang, .string t.ty]
abbrev Pr := Tm × Tm
def cP (p : Pr) : List Value := cT p.1 ++ cT p.2
def encP (p : Pr) : Value := .agg #[.int .i64 p.1.kind, .string p.1.s, .string p.1.lang, .string p.1.ty, .int .i64 p.2.kind, .string p.2.s, .string p.2.lang, .string p.2.ty]
theorem beq_bytes (a b : ByteArray) : (a == b) = decide (a = b) := by
  cases a with
  | mk a =>
    cases b with
    | mk b =>
      show (a == b) = _
      rw [Bool.eq_iff_iff]
      simp
def eqB (a b : Tm) : Bool := if a.kind == b.kind then (if a.s == b.s then (if a.lang == b.lang then (if a.ty == b.ty then true else false) else false) else false) else false
theorem eqB_eq (a b : Tm) : eqB a b = decide (a = b) := by
  obtain ⟨k, s, l, t⟩ := a
  obtain ⟨k', s', l', t'⟩ := b
  unfold eqB
  simp only [Tm.mk.injEq, beq_bytes]
  by_cases h1 : k = k' <;> by_cases h2 : s = s' <;> by_cases h3 : l = l' <;> by_cases h4 : t = t' <;> simp [h1, h2, h3, h4]
theorem chkT (b : Bool) (x : Tm) (w : World) : (Instr.checkKey b 10000 41 (encT x)).run Try.prog w = .ok () w := by kernel_rfl
theorem chkP (b : Bool) (x : Pr) (w : World) : (Instr.checkKey b 10000 48 (encP x)).run Try.prog w = .ok () w := by kernel_rfl
theorem eqT_run (x y : Tm) (w : World) : (Op.equal 41 (encT x) (encT y)).run Try.prog w = .ok (eqB x y) w := by
  have : ∀ (k k' : Int) (s l t s' l' t' : ByteArray), (Op.equal 41 (.agg #[.int .i64 k, .string s, .string l, .string t]) (.agg #[.int .i64 k', .string s', .string l', .string t'])).run Try.prog w = .ok (if k == k' then (if s == s' then (if l == l' then (if t == t' then true else false) else false) else false) else false) w := by
    intro k k' s l t s' l' t'
    show (Op.equalIn 10000 41 _ _).run Try.prog w = _
    go_simp
    simp only [beq_toListBytes]
    by_cases h1 : k = k' <;> by_cases h2 : s.toList = s'.toList <;> by_cases h3 : l.toList = l'.toList <;> by_cases h4 : t.toList = t'.toList <;> simp [h1, h2, h3, h4]
  exact this _ _ _ _ _ _ _ _
theorem eqT_runD (x y : Tm) (w : World) : (Op.equalIn 9999 41 (encT x) (encT y)).run Try.prog w = .ok (eqB x y) w := by
  obtain ⟨k, s, l, t⟩ := x
  obtain ⟨k', s', l', t'⟩ := y
  unfold encT eqB
  go_simp
  simp only [beq_toListBytes]
  by_cases h1 : k = k' <;> by_cases h2 : s.toList = s'.toList <;> by_cases h3 : l.toList = l'.toList <;> by_cases h4 : t.toList = t'.toList <;> simp [h1, h2, h3, h4]
theorem partP0 (a b : Tm) (w : World) : (part 41 #[.int .i64 a.kind, .string a.s, .string a.lang, .string a.ty, .int .i64 b.kind, .string b.s, .string b.lang, .string b.ty] 0).run Try.prog w = .ok (encT a) w := by kernel_rfl
theorem partP1 (a b : Tm) (w : World) : (part 41 #[.int .i64 a.kind, .string a.s, .string a.lang, .string a.ty, .int .i64 b.kind, .string b.s, .string b.lang, .string b.ty] 4).run Try.prog w = .ok (encT b) w := by kernel_rfl
theorem eqP_run (x y : Pr) (w : World) : (Op.equal 48 (encP x) (encP y)).run Try.prog w = .ok (decide (x = y)) w := by
  show (Op.equalIn (9999 + 1) 48 _ _).run Try.prog w = _
  obtain ⟨a, b⟩ := x
  obtain ⟨c, d⟩ := y
  unfold encP
  obtain ⟨i, hi⟩ : ∃ i, Try.prog.info? 41 = some i := Option.isSome_iff_exists.1 (by kernel_rfl)
  rw [run_equalIn_array w 9999 _ _ (show Try.prog.underlying 48 = some (.array 2 41) by kernel_rfl) hi, show Try.prog.cellsOf 41 = 4 by kernel_rfl, show List.range 2 = [0, 1] from rfl]
  simp only [Op.eqItems, Sem.run_bind, Nat.zero_mul, Nat.one_mul, partP0, partP1, Result.andThen, eqT_runD, eqB_eq]
  simp only [Prod.mk.injEq]
  by_cases h1 : a = c <;> by_cases h2 : b = d <;> simp [h1, h2, partP1, eqT_runD, eqB_eq]
theorem keyT : KeyEnc Try.prog 41 encT where
  und := ⟨_, show Try.prog.underlying 41 = some (.struct (Try.prog.fieldsOf 41)) by kernel_rfl, fun _ _ => rfl⟩
  chk := chkT
  eq x y w := (eqT_run x y w).trans (by rw [eqB_eq])
  same x := by simp [encT, Instr.sameBits, beq_bytes]
  inj x y h := by
    obtain ⟨k, s, l, t⟩ := x
    obtain ⟨k', s', l', t'⟩ := y
    simp [encT] at h
    simp [h]
theorem keyP : KeyEnc Try.prog 48 encP where
  und := ⟨_, show Try.prog.underlying 48 = some (.array 2 41) by kernel_rfl, fun _ _ => rfl⟩
  chk := chkP
  eq := eqP_run
  same x := by simp [encP, Instr.sameBits, beq_bytes]
  inj x y h := by
    obtain ⟨⟨k, s, l, t⟩, ⟨k2, s2, l2, t2⟩⟩ := x
    obtain ⟨⟨k', s', l', t'⟩, ⟨k2', s2', l2', t2'⟩⟩ := y
    simp [encP] at h
    simp [h]
theorem eqT_runW (x y : Tm) (w : World) : (Op.equalIn 10000 41 (encT x) (encT y)).run Try.prog w = .ok (decide (x = y)) w := (eqT_run x y w).trans (by rw [eqB_eq])
theorem eqP_runW (x y : Pr) (w : World) : (Op.equalIn 10000 48 (encP x) (encP y)).run Try.prog w = .ok (decide (x = y)) w := eqP_run x y w
section
variable (w : World) {ops : Array Oper} {rest : List Oper} {o : Oper} {a : Act} {Q : Exit → Act → World → Prop}
/-- two aggregates held against one another, where it is known what comes of it. -/
theorem wpl_eql (hg : o.guard = none) (x y : Operand) (T T' : TypeId) (hop : o.op = Op.binOp .eql T x y T') (xs ys : Array Value) (hx : a.eval x = .agg xs) (hy : a.eval y = .agg ys) (hm : Try.prog.eqGuardType Try.prog.depth T = false) (r : Bool) (hrun : (Op.equalIn 10000 T (.agg xs) (.agg ys)).run Try.prog w = .ok r w)
    (hK : wpList Try.prog ops Q rest (a.put o.dst (.bool r)) w) : wpList Try.prog ops Q (o :: rest) a w := by
  refine wpList_plain hg fun K' hK' => ?_
  unfold Oper.wp
  simp [execOp, hop, hx, hy, run_eqGuard_agg w .eql T x y xs ys hm, run_eql_struct, hrun, Result.andThen]
  exact hK' _ _ hK
theorem wpl_neq (hg : o.guard = none) (x y : Operand) (T T' : TypeId) (hop : o.op = Op.binOp .neq T x y T') (xs ys : Array Value) (hx : a.eval x = .agg xs) (hy : a.eval y = .agg ys) (hm : Try.prog.eqGuardType Try.prog.depth T = false) (r : Bool) (hrun : (Op.equalIn 10000 T (.agg xs) (.agg ys)).run Try.prog w = .ok r w)
    (hK : wpList Try.prog ops Q rest (a.put o.dst (.bool (!r))) w) : wpList Try.prog ops Q (o :: rest) a w := by
  refine wpList_plain hg fun K' hK' => ?_
  unfold Oper.wp
  simp [execOp, hop, hx, hy, run_eqGuard_agg w .neq T x y xs ys hm, run_neq_struct, hrun, Result.andThen]
  exact hK' _ _ hK
end
end
end Go.Proofs.Ytaeiikielelicaa.Pt
