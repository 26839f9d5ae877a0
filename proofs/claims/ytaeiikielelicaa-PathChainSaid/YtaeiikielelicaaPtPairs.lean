/- Pairs held against one another. -/
import Derived.Test.YtaeiikielelicaaPtCmp
set_option linter.unusedVariables false
set_option linter.unusedSimpArgs false
set_option linter.unusedSectionVars false
set_option linter.deprecated false
namespace Go.Proofs.Ytaeiikielelicaa.Pt
open Go.RowKit Go.Proofs Go.Am
open Pm
set_option maxRecDepth 1000000
set_option linter.unusedVariables false
noncomputable section
def cS (c : Tm → Tm → Int) : List Value → Option (Bool × Value) := fun l => ob (t2 l) fun p => some (true, .int .i64 (c p.1 p.2))
theorem K29 (c : Tm → Tm → Int) (k : Int) (s g t : ByteArray) (k2 : Int) (s2 g2 t2 : ByteArray) (k3 : Int) (s3 g3 t3 : ByteArray) (k4 : Int) (s4 g4 t4 : ByteArray) :
    bodyM Try.prog (fiAt fis 29) (kcallHK [(31, cS c)] hO) (kcallH [(31, cS c)] hO) 3 (code 29) (res 29) [.agg ⟨[.int .i64 k, .string s, .string g, .string t, .int .i64 k2, .string s2, .string g2, .string t2]⟩, .agg ⟨[.int .i64 k3, .string s3, .string g3, .string t3, .int .i64 k4, .string s4, .string g4, .string t4]⟩] (mem0 Try.prog 0) (fun v _ => some v) =
    ite2 (ite2 (ite2 (eqI k2 k2) (ite2 (eqS s2 s2) (ite2 (eqS g2 g2) (ite2 (eqS t2 t2) true false) false) false) false) true false) (ite2 (ite2 (ite2 (eqI k4 k4) (ite2 (eqS s4 s4) (ite2 (eqS g4 g4) (ite2 (eqS t4 t4) true false) false) false) false) true false) (some (.int .i64 (orZ [c ⟨k, s, g, t⟩ ⟨k3, s3, g3, t3⟩, c ⟨k2, s2, g2, t2⟩ ⟨k4, s4, g4, t4⟩]))) none) none := by kernel_rfl
theorem K53 (c : Tm → Tm → Int) (k : Int) (s g t : ByteArray) (k2 : Int) (s2 g2 t2 : ByteArray) (k3 : Int) (s3 g3 t3 : ByteArray) (k4 : Int) (s4 g4 t4 : ByteArray) :
    bodyM Try.prog (fiAt fis 53) (kcallHK [(22, cS c)] hO) (kcallH [(22, cS c)] hO) 3 (code 53) (res 53) [.agg ⟨[.int .i64 k, .string s, .string g, .string t, .int .i64 k2, .string s2, .string g2, .string t2]⟩, .agg ⟨[.int .i64 k3, .string s3, .string g3, .string t3, .int .i64 k4, .string s4, .string g4, .string t4]⟩] (mem0 Try.prog 0) (fun v _ => some v) =
    ite2 (eqI (c ⟨k, s, g, t⟩ ⟨k3, s3, g3, t3⟩) 0) (some (.bool (ltI (c ⟨k2, s2, g2, t2⟩ ⟨k4, s4, g4, t4⟩) 0))) (some (.bool (ltI (c ⟨k, s, g, t⟩ ⟨k3, s3, g3, t3⟩) 0))) := by kernel_rfl
theorem pc_h : ∀ x ∈ [((31, cS cmpT) : KSpec)], Holds Try.prog x := fun x h => by rw [List.mem_singleton.1 h]; exact pcmp_h
theorem rc_h : ∀ x ∈ [((22, cS cmpT) : KSpec)], Holds Try.prog x := fun x h => by rw [List.mem_singleton.1 h]; exact rcmp_h
/-- what comes of a function told by the machine, called with flat values. -/
theorem told {s : List KSpec} (hs : ∀ x ∈ s, Holds Try.prog x) {n f : Nat} {fn : Func} {c : Code} {args : List Value} {v : Value} (hf : Try.prog.funcs[f]? = some fn) (hn : (fn.name == "runtime.NumGoroutine") = false) (hb : fn.body = some c) (hst : (fiAt fis f).st = true)
    (hle : Nat.ble args.length fn.ntmps = true) (ha : args.all flat = true) (hv : flat2 v = true) (h : bodyM Try.prog (fiAt fis f) (kcallHK s hO) (kcallH s hO) n c fn.results.toList args (mem0 Try.prog 0) (fun v _ => some v) = some v) (w : World) :
    Calls Try.prog f ⟨args⟩ w fun e w' => e = .returned v ∧ Bel w.heap.size w w' :=
  calls_of_M masks (wo := orig Try.prog [] w) (kcallH_same s hO) (fun d => kcallH_ok hs (hO_h _ _)) hf hn hb hst hle hv h rfl (Go.Am.start (vs := [])) (VRels.flat ha)
theorem cmpP_callsB (p q : Pr) (w : World) : Calls Try.prog 29 #[encP p, encP q] w fun e w' => e = .returned (.int .i64 (cmpP p q)) ∧ Bel w.heap.size w w' := by
  obtain ⟨⟨k, s, g, t⟩, ⟨k2, s2, g2, t2⟩⟩ := p
  obtain ⟨⟨k3, s3, g3, t3⟩, ⟨k4, s4, g4, t4⟩⟩ := q
  refine told pc_h (n := 3) Try.func29 (by kernel_rfl) (c := code 29) (by kernel_rfl) (by kernel_rfl) (by kernel_rfl) rfl rfl ((K29 cmpT k s g t k2 s2 g2 t2 k3 s3 g3 t3 k4 s4 g4 t4).trans ?_) w
  simp only [eqI_self, eqS_self]
  unfold cmpP
  rw [orZ_cons, orZ_cons]
  unfold orI
  by_cases h : cmpT ⟨k2, s2, g2, t2⟩ ⟨k4, s4, g4, t4⟩ = 0
  · rw [h]; rfl
  · rw [if_neg h]; rfl
def lessP (p q : Pr) : Bool := decide (cmpP p q < 0)
theorem less_callsB (p q : Pr) (w : World) : Calls Try.prog 53 #[encP p, encP q] w fun e w' => e = .returned (.bool (lessP p q)) ∧ Bel w.heap.size w w' := by
  obtain ⟨⟨k, s, g, t⟩, ⟨k2, s2, g2, t2⟩⟩ := p
  obtain ⟨⟨k3, s3, g3, t3⟩, ⟨k4, s4, g4, t4⟩⟩ := q
  refine told rc_h (n := 3) Try.func53 (by kernel_rfl) (c := code 53) (by kernel_rfl) (by kernel_rfl) (by kernel_rfl) rfl rfl ((K53 cmpT k s g t k2 s2 g2 t2 k3 s3 g3 t3 k4 s4 g4 t4).trans ?_) w
  unfold lessP cmpP orI
  dsimp only
  rw [eqI_dec, ltI_eq, ltI_eq]
  by_cases h : cmpT ⟨k, s, g, t⟩ ⟨k3, s3, g3, t3⟩ = 0
  · rw [ite2_pos (decide_eq_true h), if_pos h]
  · rw [ite2_neg (decide_eq_false h), if_neg h]
theorem cmpP_calls (p q : Pr) (w : World) : Calls Try.prog 29 #[encP p, encP q] w fun e w' => e = .returned (.int .i64 (cmpP p q)) ∧ Below w.heap.size w w' := (cmpP_callsB p q w).mono fun _ _ h => ⟨h.1, h.2.toBelow⟩
theorem less_calls (p q : Pr) (w : World) : Calls Try.prog 53 #[encP p, encP q] w fun e w' => e = .returned (.bool (lessP p q)) ∧ Below w.heap.size w w' := (less_callsB p q w).mono fun _ _ h => ⟨h.1, h.2.toBelow⟩
end
end Go.Proofs.Ytaeiikielelicaa.Pt
