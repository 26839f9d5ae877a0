/- Rows of numbers that are handed in. -/
import Derived.Test.YtaeiikielelicaaPtSet2
import Derived.ChangeSlices
import Derived.WideShapes
set_option linter.unusedVariables false
set_option linter.unusedSimpArgs false
set_option linter.unusedSectionVars false
set_option linter.deprecated false
namespace Go.Proofs.Ytaeiikielelicaa.Pt
open Go.RowKit Go.Proofs Go.Am
open Pm
set_option maxRecDepth 1000000
set_option linter.unusedVariables false
set_option linter.unusedSimpArgs false
noncomputable section
/-- a row of numbers that may be read. -/
def NsOk (w : World) (v : Value) (ns : List Int) : Prop := ∃ ad cap, v = .slice ad ns.length cap ∧ ∀ (j : Nat) a, ns[j]? = some a → ∃ g off, ad = some ⟨g, off, none⟩ ∧ g < w.heap.size ∧ w.cell? ⟨g, off + j, none⟩ = some (.int .i64 a) ∧ -9223372036854775808 ≤ a ∧ a ≤ 9223372036854775807
theorem NsOk.below {w w' : World} {v : Value} {ns : List Int} (h : NsOk w v ns) (hb : Below w.heap.size w w') : NsOk w' v ns := by
  obtain ⟨ad, cap, rfl, h⟩ := h
  refine ⟨ad, cap, rfl, fun j a hj => ?_⟩
  obtain ⟨g, off, e, hg, hc, h1, h2⟩ := h j a hj
  exact ⟨g, off, e, Nat.lt_of_lt_of_le hg hb.size, (hb.cell (p := ⟨g, off + j, none⟩) hg).trans hc, h1, h2⟩
theorem addr_addT (blk off i : Nat) : Addr.add ⟨blk, off, none⟩ i = ⟨blk, off + i, none⟩ := by
  unfold Addr.add
  split <;> simp_all
theorem ns_open {H : Type} {enc : TypeId × Value → H} {W : World} {v : Value} {d : DataW H} {ps : List MemPlace} (hval : ∃ a len cap, v = .slice a len cap) (h : DataW.Trod enc Try.prog W 0 (fun _ => true) true 22 v d ps) : ∃ ns, NsOk W v ns ∧ ns.length ≤ 9223372036854775807 := by
  obtain ⟨fuel, hf⟩ := h
  obtain ⟨a0, len0, cap0, rfl⟩ := hval
  rcases Go.ChangeShapes.open_ints (show Try.prog.underlying 22 = some (.slice 3) by kernel_rfl) Try.underlying3 (by kernel_rfl) hf with ⟨hcs, -⟩ | ⟨a, len, cap, zs, hcs, -, hl, hm, hzl, -, hc, hwf⟩
  · have : (Value.slice a0 len0 cap0) = .slice none 0 0 := List.cons.inj (show [Value.slice a0 len0 cap0] = _ from hcs) |>.1
    cases this
    exact ⟨[], ⟨none, 0, rfl, fun j a h => by simp at h⟩, by simp⟩
  · have : (Value.slice a0 len0 cap0) = .slice (some a) len cap := List.cons.inj (show [Value.slice a0 len0 cap0] = _ from hcs) |>.1
    cases this
    rw [if_pos rfl] at hzl
    refine ⟨zs.take len0, ⟨some a, cap0, by rw [List.length_take, hzl, Nat.min_eq_left hl], fun j z hj => ?_⟩, by rw [List.length_take, hzl]; unfold maxLen at hm; omega⟩
    have hjl := (List.getElem?_eq_some_iff.1 hj).1
    rw [List.length_take] at hjl
    rw [List.getElem?_take] at hj
    split at hj
    · have c0 := hc j (by omega)
      have hz : zs.getD j 0 = z := by rw [List.getD_eq_getElem?_getD, hj]; rfl
      rw [hz] at c0
      obtain ⟨blk, off, spot⟩ := a
      have hsp : spot = none := by
        cases spot with
        | none => rfl
        | some x =>
          have c1 := hc 0 (by omega)
          have e : Addr.add ⟨blk, off, some x⟩ 0 = ⟨blk, off, some x⟩ := rfl
          rw [e] at c1
          unfold World.cell? at c1
          split at c1 <;> simp at c1
      subst hsp
      rw [addr_addT] at c0
      have hblk : blk < W.heap.size := by
        unfold World.cell? at c0
        split at c0
        · rename_i c el fz he; exact (Array.getElem?_eq_some_iff.1 he).1
        · cases c0
      have hw := hwf z (List.mem_of_getElem? hj)
      simp [Lit.wf, IntKind.min, IntKind.max, IntKind.bits, IntKind.signed] at hw
      exact ⟨blk, off, rfl, hblk, c0, by omega, by omega⟩
    · cases hj
def nm (l : List ByteArray) (m : Nat) : ByteArray := l.getD m ⟨#[]⟩
/-- a triple of a number. -/
def trOf (n : Int) : T3 :=
  (if n % 5 = 4 then ⟨2, ⟨#[110]⟩, ⟨#[]⟩, ⟨#[]⟩⟩ else ⟨1, nm [⟨#[115, 58, 49]⟩, ⟨#[115, 58, 50]⟩, ⟨#[115, 58, 51]⟩, ⟨#[115, 58, 52]⟩] (n % 4).toNat, ⟨#[]⟩, ⟨#[]⟩⟩,
   ⟨1, nm [⟨#[112, 58, 49]⟩, ⟨#[112, 58, 50]⟩, ⟨#[112, 58, 51]⟩] ((n.tdiv 5) % 3).toNat, ⟨#[]⟩, ⟨#[]⟩⟩,
   if (n.tdiv 60) % 6 = 5 then ⟨3, nm [⟨#[49]⟩, ⟨#[50, 46, 53]⟩, ⟨#[120]⟩] ((n.tdiv 360) % 3).toNat, ⟨#[]⟩, ⟨#[104, 116, 116, 112, 58, 47, 47, 119, 119, 119, 46, 119, 51, 46, 111, 114, 103, 47, 50, 48, 48, 49, 47, 88, 77, 76, 83, 99, 104, 101, 109, 97, 35, 100, 101, 99, 105, 109, 97, 108]⟩⟩ else
   if (n.tdiv 60) % 6 = 4 then ⟨3, nm [⟨#[116]⟩, ⟨#[117]⟩] ((n.tdiv 360) % 2).toNat, ⟨#[]⟩, ⟨#[]⟩⟩ else ⟨1, nm [⟨#[115, 58, 49]⟩, ⟨#[115, 58, 50]⟩, ⟨#[115, 58, 51]⟩, ⟨#[115, 58, 52]⟩] ((n.tdiv 15) % 4).toNat, ⟨#[]⟩, ⟨#[]⟩⟩)
theorem trOf_iri (n : Int) : (trOf n).2.1 = ⟨1, (trOf n).2.1.s, ⟨#[]⟩, ⟨#[]⟩⟩ := rfl
theorem nm4 {a b c d : ByteArray} {m : Nat} (h : m < 4) : (#[Value.string a, .string b, .string c, .string d] : Array Value)[m]? = some (.string (nm [a, b, c, d] m)) := by
  match m, h with
  | 0, _ => rfl
  | 1, _ => rfl
  | 2, _ => rfl
  | 3, _ => rfl
theorem nm3 {a b c : ByteArray} {m : Nat} (h : m < 3) : (#[Value.string a, .string b, .string c] : Array Value)[m]? = some (.string (nm [a, b, c] m)) := by
  match m, h with
  | 0, _ => rfl
  | 1, _ => rfl
  | 2, _ => rfl
theorem nm2 {a b : ByteArray} {m : Nat} (h : m < 2) : (#[Value.string a, .string b] : Array Value)[m]? = some (.string (nm [a, b] m)) := by
  match m, h with
  | 0, _ => rfl
  | 1, _ => rfl
end
end Go.Proofs.Ytaeiikielelicaa.Pt
