/- The statement DecOrder: decimals are held against one another as the document says, and it is an order; for all numbers. No condition. -/
import Derived.Test.YtoieohcleepmmaaDoorDeC
import Derived.ProofKit
import Derived.Lay
import Derived.LaidOnce
import Derived.Test.YtoieohcleepmmaaDoorRows
import Derived.Test.YtoieohcleepmmaaDoorTie
import Derived.Test.YtoieohcleepmmaaDoorCards
namespace Go.Proofs.YtoieohcleepmmaaDoor
open Go.RowKit Go.Am
open Go.ChangeShapes Go.WideShapes Go.ChangeAt Go.Lib
set_option maxRecDepth 1000000
/-! ### the law -/
theorem val_inj : ∀ s, Sp.in6 s = true → ∀ t, Sp.in6 t = true → ∀ (m n : Int), (s = 0 ∨ m.tmod 10 ≠ 0) → (t = 0 ∨ n.tmod 10 ≠ 0) → Sp.val m s = Sp.val n t → m = n ∧ s = t := by
  refine six (p := fun s => ∀ t, Sp.in6 t = true → ∀ (m n : Int), (s = 0 ∨ m.tmod 10 ≠ 0) → (t = 0 ∨ n.tmod 10 ≠ 0) → Sp.val m s = Sp.val n t → m = n ∧ s = t) (fun i => ?_)
  match i with
  | 0 =>
    refine six (p := fun t => ∀ (m n : Int), ((0 : Int) = 0 ∨ m.tmod 10 ≠ 0) → (t = 0 ∨ n.tmod 10 ≠ 0) → Sp.val m 0 = Sp.val n t → m = n ∧ (0 : Int) = t) (fun j m n g1 g2 h => ?_)
    have hm := tsplit m 10 (by omega)
    have hn := tsplit n 10 (by omega)
    match j with
    | 0 =>
      have h' : m * 1000000 = n * 1000000 := h
      show m = n ∧ (0 : Int) = 0
      have g1' : (0 : Int) = 0 ∨ m.tmod 10 ≠ 0 := g1
      have g2' : (0 : Int) = 0 ∨ n.tmod 10 ≠ 0 := g2
      omega
    | 1 =>
      have h' : m * 1000000 = n * 100000 := h
      show m = n ∧ (0 : Int) = 1
      have g1' : (0 : Int) = 0 ∨ m.tmod 10 ≠ 0 := g1
      have g2' : (1 : Int) = 0 ∨ n.tmod 10 ≠ 0 := g2
      omega
    | 2 =>
      have h' : m * 1000000 = n * 10000 := h
      show m = n ∧ (0 : Int) = 2
      have g1' : (0 : Int) = 0 ∨ m.tmod 10 ≠ 0 := g1
      have g2' : (2 : Int) = 0 ∨ n.tmod 10 ≠ 0 := g2
      omega
    | 3 =>
      have h' : m * 1000000 = n * 1000 := h
      show m = n ∧ (0 : Int) = 3
      have g1' : (0 : Int) = 0 ∨ m.tmod 10 ≠ 0 := g1
      have g2' : (3 : Int) = 0 ∨ n.tmod 10 ≠ 0 := g2
      omega
    | 4 =>
      have h' : m * 1000000 = n * 100 := h
      show m = n ∧ (0 : Int) = 4
      have g1' : (0 : Int) = 0 ∨ m.tmod 10 ≠ 0 := g1
      have g2' : (4 : Int) = 0 ∨ n.tmod 10 ≠ 0 := g2
      omega
    | 5 =>
      have h' : m * 1000000 = n * 10 := h
      show m = n ∧ (0 : Int) = 5
      have g1' : (0 : Int) = 0 ∨ m.tmod 10 ≠ 0 := g1
      have g2' : (5 : Int) = 0 ∨ n.tmod 10 ≠ 0 := g2
      omega
    | 6 =>
      have h' : m * 1000000 = n * 1 := h
      show m = n ∧ (0 : Int) = 6
      have g1' : (0 : Int) = 0 ∨ m.tmod 10 ≠ 0 := g1
      have g2' : (6 : Int) = 0 ∨ n.tmod 10 ≠ 0 := g2
      omega
  | 1 =>
    refine six (p := fun t => ∀ (m n : Int), ((1 : Int) = 0 ∨ m.tmod 10 ≠ 0) → (t = 0 ∨ n.tmod 10 ≠ 0) → Sp.val m 1 = Sp.val n t → m = n ∧ (1 : Int) = t) (fun j m n g1 g2 h => ?_)
    have hm := tsplit m 10 (by omega)
    have hn := tsplit n 10 (by omega)
    match j with
    | 0 =>
      have h' : m * 100000 = n * 1000000 := h
      show m = n ∧ (1 : Int) = 0
      have g1' : (1 : Int) = 0 ∨ m.tmod 10 ≠ 0 := g1
      have g2' : (0 : Int) = 0 ∨ n.tmod 10 ≠ 0 := g2
      omega
    | 1 =>
      have h' : m * 100000 = n * 100000 := h
      show m = n ∧ (1 : Int) = 1
      have g1' : (1 : Int) = 0 ∨ m.tmod 10 ≠ 0 := g1
      have g2' : (1 : Int) = 0 ∨ n.tmod 10 ≠ 0 := g2
      omega
    | 2 =>
      have h' : m * 100000 = n * 10000 := h
      show m = n ∧ (1 : Int) = 2
      have g1' : (1 : Int) = 0 ∨ m.tmod 10 ≠ 0 := g1
      have g2' : (2 : Int) = 0 ∨ n.tmod 10 ≠ 0 := g2
      omega
    | 3 =>
      have h' : m * 100000 = n * 1000 := h
      show m = n ∧ (1 : Int) = 3
      have g1' : (1 : Int) = 0 ∨ m.tmod 10 ≠ 0 := g1
      have g2' : (3 : Int) = 0 ∨ n.tmod 10 ≠ 0 := g2
      omega
    | 4 =>
      have h' : m * 100000 = n * 100 := h
      show m = n ∧ (1 : Int) = 4
      have g1' : (1 : Int) = 0 ∨ m.tmod 10 ≠ 0 := g1
      have g2' : (4 : Int) = 0 ∨ n.tmod 10 ≠ 0 := g2
      omega
    | 5 =>
      have h' : m * 100000 = n * 10 := h
      show m = n ∧ (1 : Int) = 5
      have g1' : (1 : Int) = 0 ∨ m.tmod 10 ≠ 0 := g1
      have g2' : (5 : Int) = 0 ∨ n.tmod 10 ≠ 0 := g2
      omega
    | 6 =>
      have h' : m * 100000 = n * 1 := h
      show m = n ∧ (1 : Int) = 6
      have g1' : (1 : Int) = 0 ∨ m.tmod 10 ≠ 0 := g1
      have g2' : (6 : Int) = 0 ∨ n.tmod 10 ≠ 0 := g2
      omega
  | 2 =>
    refine six (p := fun t => ∀ (m n : Int), ((2 : Int) = 0 ∨ m.tmod 10 ≠ 0) → (t = 0 ∨ n.tmod 10 ≠ 0) → Sp.val m 2 = Sp.val n t → m = n ∧ (2 : Int) = t) (fun j m n g1 g2 h => ?_)
    have hm := tsplit m 10 (by omega)
    have hn := tsplit n 10 (by omega)
    match j with
    | 0 =>
      have h' : m * 10000 = n * 1000000 := h
      show m = n ∧ (2 : Int) = 0
      have g1' : (2 : Int) = 0 ∨ m.tmod 10 ≠ 0 := g1
      have g2' : (0 : Int) = 0 ∨ n.tmod 10 ≠ 0 := g2
      omega
    | 1 =>
      have h' : m * 10000 = n * 100000 := h
      show m = n ∧ (2 : Int) = 1
      have g1' : (2 : Int) = 0 ∨ m.tmod 10 ≠ 0 := g1
      have g2' : (1 : Int) = 0 ∨ n.tmod 10 ≠ 0 := g2
      omega
    | 2 =>
      have h' : m * 10000 = n * 10000 := h
      show m = n ∧ (2 : Int) = 2
      have g1' : (2 : Int) = 0 ∨ m.tmod 10 ≠ 0 := g1
      have g2' : (2 : Int) = 0 ∨ n.tmod 10 ≠ 0 := g2
      omega
    | 3 =>
      have h' : m * 10000 = n * 1000 := h
      show m = n ∧ (2 : Int) = 3
      have g1' : (2 : Int) = 0 ∨ m.tmod 10 ≠ 0 := g1
      have g2' : (3 : Int) = 0 ∨ n.tmod 10 ≠ 0 := g2
      omega
    | 4 =>
      have h' : m * 10000 = n * 100 := h
      show m = n ∧ (2 : Int) = 4
      have g1' : (2 : Int) = 0 ∨ m.tmod 10 ≠ 0 := g1
      have g2' : (4 : Int) = 0 ∨ n.tmod 10 ≠ 0 := g2
      omega
    | 5 =>
      have h' : m * 10000 = n * 10 := h
      show m = n ∧ (2 : Int) = 5
      have g1' : (2 : Int) = 0 ∨ m.tmod 10 ≠ 0 := g1
      have g2' : (5 : Int) = 0 ∨ n.tmod 10 ≠ 0 := g2
      omega
    | 6 =>
      have h' : m * 10000 = n * 1 := h
      show m = n ∧ (2 : Int) = 6
      have g1' : (2 : Int) = 0 ∨ m.tmod 10 ≠ 0 := g1
      have g2' : (6 : Int) = 0 ∨ n.tmod 10 ≠ 0 := g2
      omega
  | 3 =>
    refine six (p := fun t => ∀ (m n : Int), ((3 : Int) = 0 ∨ m.tmod 10 ≠ 0) → (t = 0 ∨ n.tmod 10 ≠ 0) → Sp.val m 3 = Sp.val n t → m = n ∧ (3 : Int) = t) (fun j m n g1 g2 h => ?_)
    have hm := tsplit m 10 (by omega)
    have hn := tsplit n 10 (by omega)
    match j with
    | 0 =>
      have h' : m * 1000 = n * 1000000 := h
      show m = n ∧ (3 : Int) = 0
      have g1' : (3 : Int) = 0 ∨ m.tmod 10 ≠ 0 := g1
      have g2' : (0 : Int) = 0 ∨ n.tmod 10 ≠ 0 := g2
      omega
    | 1 =>
      have h' : m * 1000 = n * 100000 := h
      show m = n ∧ (3 : Int) = 1
      have g1' : (3 : Int) = 0 ∨ m.tmod 10 ≠ 0 := g1
      have g2' : (1 : Int) = 0 ∨ n.tmod 10 ≠ 0 := g2
      omega
    | 2 =>
      have h' : m * 1000 = n * 10000 := h
      show m = n ∧ (3 : Int) = 2
      have g1' : (3 : Int) = 0 ∨ m.tmod 10 ≠ 0 := g1
      have g2' : (2 : Int) = 0 ∨ n.tmod 10 ≠ 0 := g2
      omega
    | 3 =>
      have h' : m * 1000 = n * 1000 := h
      show m = n ∧ (3 : Int) = 3
      have g1' : (3 : Int) = 0 ∨ m.tmod 10 ≠ 0 := g1
      have g2' : (3 : Int) = 0 ∨ n.tmod 10 ≠ 0 := g2
      omega
    | 4 =>
      have h' : m * 1000 = n * 100 := h
      show m = n ∧ (3 : Int) = 4
      have g1' : (3 : Int) = 0 ∨ m.tmod 10 ≠ 0 := g1
      have g2' : (4 : Int) = 0 ∨ n.tmod 10 ≠ 0 := g2
      omega
    | 5 =>
      have h' : m * 1000 = n * 10 := h
      show m = n ∧ (3 : Int) = 5
      have g1' : (3 : Int) = 0 ∨ m.tmod 10 ≠ 0 := g1
      have g2' : (5 : Int) = 0 ∨ n.tmod 10 ≠ 0 := g2
      omega
    | 6 =>
      have h' : m * 1000 = n * 1 := h
      show m = n ∧ (3 : Int) = 6
      have g1' : (3 : Int) = 0 ∨ m.tmod 10 ≠ 0 := g1
      have g2' : (6 : Int) = 0 ∨ n.tmod 10 ≠ 0 := g2
      omega
  | 4 =>
    refine six (p := fun t => ∀ (m n : Int), ((4 : Int) = 0 ∨ m.tmod 10 ≠ 0) → (t = 0 ∨ n.tmod 10 ≠ 0) → Sp.val m 4 = Sp.val n t → m = n ∧ (4 : Int) = t) (fun j m n g1 g2 h => ?_)
    have hm := tsplit m 10 (by omega)
    have hn := tsplit n 10 (by omega)
    match j with
    | 0 =>
      have h' : m * 100 = n * 1000000 := h
      show m = n ∧ (4 : Int) = 0
      have g1' : (4 : Int) = 0 ∨ m.tmod 10 ≠ 0 := g1
      have g2' : (0 : Int) = 0 ∨ n.tmod 10 ≠ 0 := g2
      omega
    | 1 =>
      have h' : m * 100 = n * 100000 := h
      show m = n ∧ (4 : Int) = 1
      have g1' : (4 : Int) = 0 ∨ m.tmod 10 ≠ 0 := g1
      have g2' : (1 : Int) = 0 ∨ n.tmod 10 ≠ 0 := g2
      omega
    | 2 =>
      have h' : m * 100 = n * 10000 := h
      show m = n ∧ (4 : Int) = 2
      have g1' : (4 : Int) = 0 ∨ m.tmod 10 ≠ 0 := g1
      have g2' : (2 : Int) = 0 ∨ n.tmod 10 ≠ 0 := g2
      omega
    | 3 =>
      have h' : m * 100 = n * 1000 := h
      show m = n ∧ (4 : Int) = 3
      have g1' : (4 : Int) = 0 ∨ m.tmod 10 ≠ 0 := g1
      have g2' : (3 : Int) = 0 ∨ n.tmod 10 ≠ 0 := g2
      omega
    | 4 =>
      have h' : m * 100 = n * 100 := h
      show m = n ∧ (4 : Int) = 4
      have g1' : (4 : Int) = 0 ∨ m.tmod 10 ≠ 0 := g1
      have g2' : (4 : Int) = 0 ∨ n.tmod 10 ≠ 0 := g2
      omega
    | 5 =>
      have h' : m * 100 = n * 10 := h
      show m = n ∧ (4 : Int) = 5
      have g1' : (4 : Int) = 0 ∨ m.tmod 10 ≠ 0 := g1
      have g2' : (5 : Int) = 0 ∨ n.tmod 10 ≠ 0 := g2
      omega
    | 6 =>
      have h' : m * 100 = n * 1 := h
      show m = n ∧ (4 : Int) = 6
      have g1' : (4 : Int) = 0 ∨ m.tmod 10 ≠ 0 := g1
      have g2' : (6 : Int) = 0 ∨ n.tmod 10 ≠ 0 := g2
      omega
  | 5 =>
    refine six (p := fun t => ∀ (m n : Int), ((5 : Int) = 0 ∨ m.tmod 10 ≠ 0) → (t = 0 ∨ n.tmod 10 ≠ 0) → Sp.val m 5 = Sp.val n t → m = n ∧ (5 : Int) = t) (fun j m n g1 g2 h => ?_)
    have hm := tsplit m 10 (by omega)
    have hn := tsplit n 10 (by omega)
    match j with
    | 0 =>
      have h' : m * 10 = n * 1000000 := h
      show m = n ∧ (5 : Int) = 0
      have g1' : (5 : Int) = 0 ∨ m.tmod 10 ≠ 0 := g1
      have g2' : (0 : Int) = 0 ∨ n.tmod 10 ≠ 0 := g2
      omega
    | 1 =>
      have h' : m * 10 = n * 100000 := h
      show m = n ∧ (5 : Int) = 1
      have g1' : (5 : Int) = 0 ∨ m.tmod 10 ≠ 0 := g1
      have g2' : (1 : Int) = 0 ∨ n.tmod 10 ≠ 0 := g2
      omega
    | 2 =>
      have h' : m * 10 = n * 10000 := h
      show m = n ∧ (5 : Int) = 2
      have g1' : (5 : Int) = 0 ∨ m.tmod 10 ≠ 0 := g1
      have g2' : (2 : Int) = 0 ∨ n.tmod 10 ≠ 0 := g2
      omega
    | 3 =>
      have h' : m * 10 = n * 1000 := h
      show m = n ∧ (5 : Int) = 3
      have g1' : (5 : Int) = 0 ∨ m.tmod 10 ≠ 0 := g1
      have g2' : (3 : Int) = 0 ∨ n.tmod 10 ≠ 0 := g2
      omega
    | 4 =>
      have h' : m * 10 = n * 100 := h
      show m = n ∧ (5 : Int) = 4
      have g1' : (5 : Int) = 0 ∨ m.tmod 10 ≠ 0 := g1
      have g2' : (4 : Int) = 0 ∨ n.tmod 10 ≠ 0 := g2
      omega
    | 5 =>
      have h' : m * 10 = n * 10 := h
      show m = n ∧ (5 : Int) = 5
      have g1' : (5 : Int) = 0 ∨ m.tmod 10 ≠ 0 := g1
      have g2' : (5 : Int) = 0 ∨ n.tmod 10 ≠ 0 := g2
      omega
    | 6 =>
      have h' : m * 10 = n * 1 := h
      show m = n ∧ (5 : Int) = 6
      have g1' : (5 : Int) = 0 ∨ m.tmod 10 ≠ 0 := g1
      have g2' : (6 : Int) = 0 ∨ n.tmod 10 ≠ 0 := g2
      omega
  | 6 =>
    refine six (p := fun t => ∀ (m n : Int), ((6 : Int) = 0 ∨ m.tmod 10 ≠ 0) → (t = 0 ∨ n.tmod 10 ≠ 0) → Sp.val m 6 = Sp.val n t → m = n ∧ (6 : Int) = t) (fun j m n g1 g2 h => ?_)
    have hm := tsplit m 10 (by omega)
    have hn := tsplit n 10 (by omega)
    match j with
    | 0 =>
      have h' : m * 1 = n * 1000000 := h
      show m = n ∧ (6 : Int) = 0
      have g1' : (6 : Int) = 0 ∨ m.tmod 10 ≠ 0 := g1
      have g2' : (0 : Int) = 0 ∨ n.tmod 10 ≠ 0 := g2
      omega
    | 1 =>
      have h' : m * 1 = n * 100000 := h
      show m = n ∧ (6 : Int) = 1
      have g1' : (6 : Int) = 0 ∨ m.tmod 10 ≠ 0 := g1
      have g2' : (1 : Int) = 0 ∨ n.tmod 10 ≠ 0 := g2
      omega
    | 2 =>
      have h' : m * 1 = n * 10000 := h
      show m = n ∧ (6 : Int) = 2
      have g1' : (6 : Int) = 0 ∨ m.tmod 10 ≠ 0 := g1
      have g2' : (2 : Int) = 0 ∨ n.tmod 10 ≠ 0 := g2
      omega
    | 3 =>
      have h' : m * 1 = n * 1000 := h
      show m = n ∧ (6 : Int) = 3
      have g1' : (6 : Int) = 0 ∨ m.tmod 10 ≠ 0 := g1
      have g2' : (3 : Int) = 0 ∨ n.tmod 10 ≠ 0 := g2
      omega
    | 4 =>
      have h' : m * 1 = n * 100 := h
      show m = n ∧ (6 : Int) = 4
      have g1' : (6 : Int) = 0 ∨ m.tmod 10 ≠ 0 := g1
      have g2' : (4 : Int) = 0 ∨ n.tmod 10 ≠ 0 := g2
      omega
    | 5 =>
      have h' : m * 1 = n * 10 := h
      show m = n ∧ (6 : Int) = 5
      have g1' : (6 : Int) = 0 ∨ m.tmod 10 ≠ 0 := g1
      have g2' : (5 : Int) = 0 ∨ n.tmod 10 ≠ 0 := g2
      omega
    | 6 =>
      have h' : m * 1 = n * 1 := h
      show m = n ∧ (6 : Int) = 6
      have g1' : (6 : Int) = 0 ∨ m.tmod 10 ≠ 0 := g1
      have g2' : (6 : Int) = 0 ∨ n.tmod 10 ≠ 0 := g2
      omega
theorem cmp3 (x y : Int) : (x < y ∧ Sp.cmp x y = -1) ∨ (x = y ∧ Sp.cmp x y = 0) ∨ (y < x ∧ Sp.cmp x y = 1) := by
  unfold Sp.cmp
  split
  · exact .inl ⟨by assumption, rfl⟩
  · split
    · exact .inr (.inl ⟨by assumption, rfl⟩)
    · exact .inr (.inr ⟨by omega, rfl⟩)
theorem good_is (a b : Int) : Sp.ok (Sp.gM a b) (Sp.gS a b) = true := by
  have := good_ok a b
  exact ok_iff.2 ⟨by omega, by omega, by omega, by omega⟩
theorem order_says (m p n q k r : Int) : Says Tryd.prog 4 ⟨[.int .i64 m, .int .i64 p, .int .i64 n, .int .i64 q, .int .i64 k, .int .i64 r]⟩ (.bool true) := by
  refine says_of_K masks (s := [(9, knownS), (13, goodS), (14, cmpS), (15, cmpS)]) (fun x h => ?_) none 0 Tryd.func4 (by kernel_rfl) (c := code 4) (by kernel_rfl) (by kernel_rfl) rfl rfl rfl ?_
  · simp only [List.mem_cons, List.not_mem_nil, or_false] at h
    rcases h with rfl | rfl | rfl | rfl
    · exact known_h
    · exact good_h
    · exact cmp_h
    · exact refcmp_h
  refine Eq.trans ?_ ((K4 m p n q k r (ltow Tryd.prog (fiAt fis 4) (kcall [(9, knownS), (13, goodS), (14, cmpS), (15, cmpS)]) none 0).lp (ltow Tryd.prog (fiAt fis 4) (kcall [(9, knownS), (13, goodS), (14, cmpS), (15, cmpS)]) none 0).gs).trans ?_)
  · rfl
  rw [good_is m p, good_is n q, good_is k r]
  have ga := good_ok m p
  have gb := good_ok n q
  have inj := val_inj (Sp.gS m p) (in6_of ga.2.2.1 ga.2.2.2.1) (Sp.gS n q) (in6_of gb.2.2.1 gb.2.2.2.1) (Sp.gM m p) (Sp.gM n q) ga.2.2.2.2 gb.2.2.2.2
  have c1 := cmp3 (Sp.val (Sp.gM m p) (Sp.gS m p)) (Sp.val (Sp.gM n q) (Sp.gS n q))
  have c2 := cmp3 (Sp.val (Sp.gM n q) (Sp.gS n q)) (Sp.val (Sp.gM k r) (Sp.gS k r))
  have c3 := cmp3 (Sp.val (Sp.gM m p) (Sp.gS m p)) (Sp.val (Sp.gM k r) (Sp.gS k r))
  have c4 := cmp3 (Sp.val (Sp.gM n q) (Sp.gS n q)) (Sp.val (Sp.gM m p) (Sp.gS m p))
  have inj2 : Sp.gM m p = Sp.gM n q → Sp.gS m p = Sp.gS n q → Sp.val (Sp.gM m p) (Sp.gS m p) = Sp.val (Sp.gM n q) (Sp.gS n q) := fun e1 e2 => by rw [e1, e2]
  simp only [eqI_self, ite2_true]
  generalize Sp.val (Sp.gM m p) (Sp.gS m p) = va at *
  generalize Sp.val (Sp.gM n q) (Sp.gS n q) = vb at *
  generalize Sp.val (Sp.gM k r) (Sp.gS k r) = vc at *
  generalize Sp.cmp va vb = x at *
  generalize Sp.cmp vb vc = y at *
  generalize Sp.cmp va vc = z at *
  generalize Sp.cmp vb va = u at *
  generalize Sp.gM m p = ma at *
  generalize Sp.gS m p = sa at *
  generalize Sp.gM n q = mb at *
  generalize Sp.gS n q = sb at *
  rw [show Int.sub 0 x = 0 - x from rfl, wrapA_i64 (by omega) (by omega)]
  rw [ite2_pos (show eqI u (0 - x) = true by rw [eqI_dec]; simp only [decide_eq_true_eq]; omega)]
  rw [ite2_pos ?_]
  · by_cases h1 : 0 < x
    · rw [ite2_pos (by rw [gtI_dec]; simpa using h1)]
    · rw [ite2_neg (by rw [gtI_dec]; simpa using h1)]
      by_cases h2 : 0 < y
      · rw [ite2_pos (by rw [gtI_dec]; simpa using h2)]
      · rw [ite2_neg (by rw [gtI_dec]; simpa using h2), show leI z 0 = true by rw [leI_dec]; simp only [decide_eq_true_eq]; omega]
  · by_cases hx : x = 0
    · obtain ⟨e1, e2⟩ := inj (by omega)
      rw [ite2_pos (by rw [eqI_dec]; simpa using hx), e1, e2, eqI_self, eqI_self]; rfl
    · rw [ite2_neg (by rw [eqI_dec]; simpa using hx)]
      by_cases e1 : ma = mb
      · by_cases e2 : sa = sb
        · exact absurd (inj2 e1 e2) (by omega)
        · rw [ite2_neg (show eqI sa sb = false by rw [eqI_dec]; simpa using e2)]
          cases eqI ma mb <;> rfl
      · rw [ite2_neg (show eqI ma mb = false by rw [eqI_dec]; simpa using e1)]; rfl
theorem own : ownKnob Tryd.prog.godebug = none := by kernel_rfl
theorem decOrder_lifted (os : Os) (started : os.Started) (H : Type) (enc : TypeId × Value → H) :
    ReturnsInHanded {} Tryd.checked os 4 .any (fun w args => (Rows.decOrderSpec.pre enc Tryd.prog Tryd.f4 [] false w args ∧ laidMetH Tryd.prog Rows.decOrderRow.laid w) ∧ sizedMet enc Tryd.prog Tryd.f4 (OpenSpec.ofChange Rows.decOrderSpec) false w args)
      (Rows.decOrderSpec.post enc Tryd.prog Tryd.f4 false true false false) := by
  refine returnsInHanded_of_change_and (C := Tryd.checked) (X := fun w _ => laidMetH Tryd.prog Rows.decOrderRow.laid w) (fun _ _ _ hh h => h.of_heap hh) own started (by kernel_rfl) Tryd.func4
    (ChangeSpec.witness_shaped (enc := enc) (C := Tryd.checked) (os := os) (X := fun w _ => laidMetH Tryd.prog Rows.decOrderRow.laid w) false (World.laidAll Tryd.prog os Rows.decOrderRow.laid) #[.int .i64 0, .int .i64 0, .int .i64 0, .int .i64 0, .int .i64 0, .int .i64 0] 8 (World.laidAll_os _ _ _)
      (World.shaped_of_ZipB (by kernel_rfl) (by kernel_rfl)) (by kernel_rfl) (by kernel_rfl) (by kernel_rfl)
      (by rw [MakeChecks.laidMetH_plain _ _ _ (by kernel_rfl)]; exact laidMet_laidAll _ (by kernel_rfl) (by kernel_rfl))) ?_
  intro W base args ds gs before hval0 hW _ _ hL _
  have hval : ∀ (j : Nat) t v, Tryd.f4.params[j]? = some t → args[j]? = some v → Value.okWide Tryd.prog W .any base t v := hval0
  have hW' := hW
  obtain ⟨p, q, hA0, hV, rfl, _, _⟩ := hW
  have hA : DataW.TrodAll enc Tryd.prog W 0 (fun _ => true) true Tryd.f4.params.toList args.toList ds p := hA0
  rw [Tryd.params4] at hA hval
  obtain ⟨v0, v1, v2, v3, v4, v5, d0, d1, d2, d3, d4, d5, p0, p1, p2, p3, p4, p5, rfl, rfl, rfl, h0, h1, h2, h3, h4, h5⟩ := trodAll_six hA
  obtain ⟨rfl, rfl⟩ := trodVars_none hV
  obtain ⟨x0, rfl, rfl, rfl, w0⟩ := open_int Tryd.underlying3 (hval 0 3 v0 rfl rfl) h0
  obtain ⟨x1, rfl, rfl, rfl, w1⟩ := open_int Tryd.underlying3 (hval 1 3 v1 rfl rfl) h1
  obtain ⟨x2, rfl, rfl, rfl, w2⟩ := open_int Tryd.underlying3 (hval 2 3 v2 rfl rfl) h2
  obtain ⟨x3, rfl, rfl, rfl, w3⟩ := open_int Tryd.underlying3 (hval 3 3 v3 rfl rfl) h3
  obtain ⟨x4, rfl, rfl, rfl, w4⟩ := open_int Tryd.underlying3 (hval 4 3 v4 rfl rfl) h4
  obtain ⟨x5, rfl, rfl, rfl, w5⟩ := open_int Tryd.underlying3 (hval 5 3 v5 rfl rfl) h5
  simp only [List.append_nil] at hW'
  refine (order_says x0 x1 x2 x3 x4 x5 W).mono fun e W' ⟨he, hb⟩ => ?_
  subst he
  exact ⟨_, rfl, _, _, _, [], [], [], hW', trodAll_mk1 (shut_bool Tryd.underlying4 _), trodAll_mk6 (shut_int Tryd.underlying3 w0) (shut_int Tryd.underlying3 w1) (shut_int Tryd.underlying3 w2) (shut_int Tryd.underlying3 w3) (shut_int Tryd.underlying3 w4) (shut_int Tryd.underlying3 w5), rfl, hb.frame _, fun h => by cases h⟩
theorem decOrder_holds : Rows.DecOrderSaid :=
  OpenClaim.holds_of_wide 4 Tryd.f4 rfl rfl rfl rfl rfl rfl rfl ⟨rfl, rfl, rfl, rfl, rfl⟩ rfl rfl rfl rfl rfl (by kernel_rfl) Tryd.func4 (by kernel_rfl)
    (of_decide_eq_true (by kernel_rfl)) (by unfold Func.isWrapper; first | (rw [if_pos (by decide +kernel)]; kernel_rfl) | (rw [if_neg (by decide +kernel)]; exact ⟨rfl, rfl⟩))
    (fun os started H enc _ => decOrder_lifted os started H enc)
theorem decOrder_card_holds : Rows.DecOrderCardSaid :=
  Claim7.holds_tied_plain_at .later [] [.data, .pinned] true (true, "2bf8501facfaf03854a4f07ca71da2acdc182553b4ab1e5061d6595639656f6e") false decOrder_holds (fun _ h => by cases h) (by kernel_rfl) (fun _ h => by cases h) decOrder_row_tie rfl ⟨rfl, rfl⟩ (by kernel_rfl) rfl
    (fun f fn hf hfn => by
      obtain rfl : f = 4 := Option.some.inj ((show Tryd.prog.funcNamed "triad/triadlaw13.DecOrder" = some 4 by kernel_rfl).symm.trans hf) |>.symm
      obtain rfl : fn = Tryd.f4 := (Option.some.inj (Tryd.func4.symm.trans hfn)).symm
      exact ⟨by kernel_rfl, fun j t ht => by
        rw [Tryd.params4] at ht
        have hm : t ∈ [3, 3, 3, 3, 3, 3] := by simpa using Array.mem_of_getElem? ht
        have hall : ([3, 3, 3, 3, 3, 3].all fun u => !Tryd.prog.wantsStandIn u) = true := by kernel_rfl
        exact (show Tryd.prog.wantsStandIn t = false by simpa using List.all_eq_true.1 hall t hm)⟩)
    (by kernel_rfl)
#print axioms decOrder_card_holds
end Go.Proofs.YtoieohcleepmmaaDoor
