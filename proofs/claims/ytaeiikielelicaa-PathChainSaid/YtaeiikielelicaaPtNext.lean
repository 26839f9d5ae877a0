/- The maker of ways: next. -/
import Derived.Test.YtaeiikielelicaaPtArgs
import Derived.BigQuiet
set_option linter.unusedVariables false
set_option linter.unusedSimpArgs false
set_option linter.unusedSectionVars false
set_option linter.deprecated false
namespace Go.Proofs.Ytaeiikielelicaa.Pt
open Go.RowKit Go.Proofs Go.Am
open Pm
set_option maxRecDepth 1000000
set_option linter.unusedVariables false
set_option linter.unusedSimpArgs false
noncomputable section
/-- the next number, and the place behind it. -/
def nextF (ns : List Int) (at_ : Nat) (n : Int) : Int × Nat := match ns[at_]? with
  | none => (0, at_)
  | some a => (a % n, at_ + 1)
def kidsF (f : Nat → Wy × Nat) : Nat → Nat → List Wy × Nat
  | 0, at_ => ([], at_)
  | n + 1, at_ => ((kidsF f n at_).1 ++ [(f (kidsF f n at_).2).1], (f (kidsF f n at_).2).2)
def leafF (ns : List Int) (at_ : Nat) : Wy × Nat := (.mk 1 (nm [⟨#[112, 58, 49]⟩, ⟨#[112, 58, 50]⟩, ⟨#[112, 58, 51]⟩, ⟨#[112, 58, 57]⟩] (nextF ns at_ 4).1.toNat) [], (nextF ns at_ 4).2)
def opF (k : Int) : Int := 2 + k % 6
def cntF (ns : List Int) (op : Int) (at_ : Nat) : Int × Nat := if op = 3 ∨ op = 4 then (2 + (nextF ns at_ 2).1, (nextF ns at_ 2).2) else (1, at_)
def numF (r c : Int) : Int := if r = 19 then c + 1 else if r = 18 then 0 else c
def lastF (r op : Int) : Int := if r = 17 then 8 else op
/-- the way that numbers make. -/
def wayF (ns : List Int) : Nat → Nat → Wy × Nat
  | 0, at_ => leafF ns (nextF ns at_ 12).2
  | d + 1, at_ =>
    let k := nextF ns at_ 12
    if k.1 < 3 then leafF ns k.2 else
    let c := cntF ns (opF k.1) k.2
    let r := nextF ns c.2 20
    let ks := kidsF (wayF ns d) (numF r.1 c.1).toNat r.2
    (.mk (lastF r.1 (opF k.1)) ⟨#[]⟩ ks.1, ks.2)
theorem next_bound (ns : List Int) (at_ : Nat) (n : Int) (hn : 0 < n) : 0 ≤ (nextF ns at_ n).1 ∧ (nextF ns at_ n).1 < n := by
  unfold nextF
  split
  · exact ⟨Int.le_refl _, hn⟩
  · exact ⟨Int.emod_nonneg _ (by omega), Int.emod_lt_of_pos _ hn⟩
theorem next_at (ns : List Int) (at_ : Nat) (n : Int) (h : at_ ≤ ns.length) : (nextF ns at_ n).2 ≤ ns.length := by
  unfold nextF
  split
  · exact h
  · rename_i a ha
    exact (List.getElem?_eq_some_iff.1 ha).1
def Mk (w : World) (b : Nat) (v : Value) (at_ : Nat) : Prop := w.heap[b]? = some (.cells #[v, .int .i64 (at_ : Int)] 55 (0, 0))
theorem Mk.cells {w : World} {b : Nat} {v : Value} {at_ : Nat} (h : Mk w b v at_) : w.cell? ⟨b, 0, none⟩ = some v ∧ w.cell? ⟨b, 1, none⟩ = some (.int .i64 (at_ : Int)) ∧ w.frozen? ⟨b, 1, none⟩ = false := by
  unfold Mk at h
  simp [World.cell?, World.frozen?, h]
theorem mk_set {w : World} {b : Nat} {v : Value} {at_ : Nat} (h : Mk w b v at_) (i j : Nat) : Mk (((w.drewN i).setCell ⟨b, 1, none⟩ (.int .i64 ((at_ : Int) + 1))).drewN j) b v (at_ + 1) := by
  unfold Mk at h
  obtain ⟨hlt, hk⟩ := Array.getElem?_eq_some_iff.1 h
  show (w.heap.modify b _)[b]? = _
  rw [Array.getElem?_eq_getElem (by rw [Array.size_modify]; exact hlt), Array.getElem_modify_self, hk]
  rfl
def NextPost (b : Nat) (v : Value) (w : World) (r : Int × Nat) (e : Ending) (w' : World) : Prop := e = .returned (.int .i64 r.1) ∧ Mk w' b v r.2 ∧ w.grownBy w' (some b) ∧ w'.heap.size = w.heap.size
set_option maxHeartbeats 1000000 in
theorem next_calls (w0 : World) (b at_ : Nat) (v : Value) (ns : List Int) (n : Int) (w : World) (hN : NsOk w0 v ns) (hbw : Below w0.heap.size w0 w) (hb : w0.heap.size ≤ b) (hM : Mk w b v at_) (hat : at_ ≤ ns.length) (hl : ns.length ≤ 9223372036854775807) (h0 : 0 < n) (h1 : n ≤ 1000) :
    Calls Try.prog 42 #[.pointer (some ⟨b, 0, none⟩), .int .i64 n] w (NextPost b v w (nextF ns at_ n)) := by
  have hNs := hN.below hbw
  obtain ⟨ad, cap, rfl, hNv⟩ := hN
  obtain ⟨m0, m1, m2⟩ := hM.cells
  by_cases hlt : at_ < ns.length
  · obtain ⟨a, ha⟩ : ∃ a, ns[at_]? = some a := ⟨ns[at_], List.getElem?_eq_getElem hlt⟩
    have hr : nextF ns at_ n = (a % n, at_ + 1) := by unfold nextF; rw [ha]
    rw [hr]
    obtain ⟨g, off, rfl, hg, hc, c1, c2⟩ := hNv at_ a ha
    have hgb : g ≠ b := by omega
    have hltI : ¬ ((ns.length : Int) ≤ (at_ : Int)) := by omega
    have hltJ : (at_ : Int) < (ns.length : Int) := by omega
    have hcw := (hbw.cell (p := ⟨g, off + at_, none⟩) hg).trans hc
    have hw1 : IntKind.i64.wrap (at_ : Int) = (at_ : Int) := by unfold IntKind.wrap; simp [IntKind.bits, IntKind.signed]; omega
    have hw2 : IntKind.i64.wrap ((at_ : Int) + 1 - 1) = (at_ : Int) := by rw [Int.add_sub_cancel]; exact hw1
    have hwi : ∀ W, Calls Try.prog 19 #[.int .i64 a, .int .i64 n] W fun e w' => e = .returned (.int .i64 (a % n)) ∧ w' = W := fun W => within_calls a n W h0 h1 c1 c2
    go_enter Try.func42, Try.ntmps42
    go_wp2
    go_quiet (fail)
    go_wp2
    go_quiet (first | (go_at_call 19; exact Calls.quiet_of_same (hwi _)))
    go_wp2
    go_ret
    exact ⟨rfl, mk_set hM _ _, ⟨rfl, rfl, rfl, by simp [World.setCell], fun k hk hne => Below.heap_setCell (w.drewN _) ⟨b, 1, none⟩ _ k (fun e => hne (by rw [e]))⟩, by simp [World.setCell]⟩
  · have hr : nextF ns at_ n = (0, at_) := by unfold nextF; rw [List.getElem?_eq_none (by omega)]
    rw [hr]
    have hltI : (ns.length : Int) ≤ (at_ : Int) := by omega
    go_enter Try.func42, Try.ntmps42
    go_wp2
    go_quiet (fail)
    go_wp2
    go_ret
    exact ⟨rfl, hM, ⟨rfl, rfl, rfl, Nat.le_refl _, fun _ _ _ => rfl⟩, rfl⟩
end
end Go.Proofs.Ytaeiikielelicaa.Pt
