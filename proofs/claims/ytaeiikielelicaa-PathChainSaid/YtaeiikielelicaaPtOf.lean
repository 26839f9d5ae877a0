/- The maps of path: the ends of a way, as a set. -/
import Derived.Test.YtaeiikielelicaaPtAlone
import Derived.Deep.RegionWith
set_option linter.unusedVariables false
set_option linter.unusedSimpArgs false
set_option linter.unusedSectionVars false
set_option linter.deprecated false
namespace Go.Proofs.Ytaeiikielelicaa.Pt
open Go.RowKit Go.Proofs Go.Am
open Pm
set_option maxRecDepth 1000000
set_option linter.unusedVariables false
set_option linter.unusedSimpArgs false
noncomputable section
/-- a way. -/
inductive Wy
  | mk (op : Int) (s : ByteArray) (kids : List Wy)
/-- a way in memory. -/
inductive RepW (w : World) : Wy → Value → Prop
  | leaf (op : Int) (s : ByteArray) : RepW w (.mk op s []) (.agg #[.int .i64 op, .string s, .slice none 0 0])
  | node (op : Int) (s : ByteArray) (kids : List Wy) (g cap : Nat) (hn : 0 < kids.length) (h : kids.length ≤ 1000) (hg : g < w.heap.size) (c0 c1 c2 : Nat → Value)
      (hc : ∀ j, j < kids.length → w.cell? ⟨g, j * 3, none⟩ = some (c0 j) ∧ w.cell? ⟨g, j * 3 + 1, none⟩ = some (c1 j) ∧ w.cell? ⟨g, j * 3 + 2, none⟩ = some (c2 j))
      (hk : ∀ j (k : Wy), kids[j]? = some k → RepW w k (.agg #[c0 j, c1 j, c2 j])) : RepW w (.mk op s kids) (.agg #[.int .i64 op, .string s, .slice (some ⟨g, 0, none⟩) kids.length cap])
theorem RepW.later {w w' : World} (hb : Below w.heap.size w w') {t : Wy} {v : Value} (h : RepW w t v) : RepW w' t v := by
  induction h with
  | leaf op s => exact .leaf op s
  | node op s kids g cap hn hl hg c0 c1 c2 hc hk ih =>
    exact .node op s kids g cap hn hl (Nat.lt_of_lt_of_le hg hb.size) c0 c1 c2 (fun j hj => ⟨(hb.cell (p := ⟨g, j * 3, none⟩) hg).trans (hc j hj).1, (hb.cell (p := ⟨g, j * 3 + 1, none⟩) hg).trans (hc j hj).2.1, (hb.cell (p := ⟨g, j * 3 + 2, none⟩) hg).trans (hc j hj).2.2⟩) ih
/-- relations, one behind the other, or all of them. -/
def joinL (f : (Pr → Prop) → (Pr → Prop) → Pr → Prop) : List (Pr → Prop) → Pr → Prop
  | [] => fun _ => False
  | A :: L => L.foldl f A
def orP (A B : Pr → Prop) (p : Pr) : Prop := A p ∨ B p
def relOf (G : List T3) (op : Int) (s : ByteArray) (L : List (Pr → Prop)) : Pr → Prop :=
  if op = 1 then stepL ⟨1, s, ⟨#[]⟩, ⟨#[]⟩⟩ G else if op = 3 then joinL behindP L else if op = 4 then joinL orP L else match L with
    | [A] => aloneP op G A
    | _ => fun _ => False
mutual
def rel (G : List T3) : Wy → Pr → Prop
  | .mk op s kids => relOf G op s (rels G kids)
def rels (G : List T3) : List Wy → List (Pr → Prop)
  | [] => []
  | k :: ks => rel G k :: rels G ks
end
theorem rels_map (G : List T3) : ∀ l, rels G l = l.map (rel G)
  | [] => by rw [rels]; rfl
  | k :: ks => by rw [rels, rels_map G ks]; rfl
theorem rel_eq (G : List T3) (op : Int) (s : ByteArray) (kids : List Wy) : rel G (.mk op s kids) = relOf G op s (kids.map (rel G)) := by rw [rel, rels_map]
/-- the terms of triples. -/
def termsL (G : List T3) : List Tm := G.flatMap fun t => [t.1, t.2.2]
theorem termsL_len (G : List T3) : (termsL G).length = 2 * G.length := by
  induction G with
  | nil => rfl
  | cons t G ih => rw [termsL, List.flatMap_cons, List.length_append, ← termsL, ih]; simp; omega
def InT (G : List T3) (A : Pr → Prop) : Prop := ∀ p, A p → p.1 ∈ termsL G ∧ p.2 ∈ termsL G
theorem mem_terms {G : List T3} {t : T3} (h : t ∈ G) : t.1 ∈ termsL G ∧ t.2.2 ∈ termsL G := ⟨List.mem_flatMap.2 ⟨t, h, by simp⟩, List.mem_flatMap.2 ⟨t, h, by simp⟩⟩
theorem inT_step (G : List T3) (pt : Tm) : InT G (stepL pt G) := fun p ⟨t, ht, _, e⟩ => by rw [e]; exact mem_terms ht
theorem inT_same (G : List T3) : InT G (sameL G) := fun p ⟨e, t, ht, h⟩ => by
  have := mem_terms ht
  rcases h with h | h
  · exact ⟨by rw [h]; exact this.1, by rw [← e, h]; exact this.1⟩
  · exact ⟨by rw [h]; exact this.2, by rw [← e, h]; exact this.2⟩
theorem inT_behind {G : List T3} {A B : Pr → Prop} (hA : InT G A) (hB : InT G B) : InT G (behindP A B) := fun p ⟨y, h1, h2⟩ => ⟨(hA _ h1).1, (hB _ h2).2⟩
theorem inT_or {G : List T3} {A B : Pr → Prop} (hA : InT G A) (hB : InT G B) : InT G (orP A B) := fun p h => h.elim (hA p) (hB p)
theorem inT_alone {G : List T3} {A : Pr → Prop} (op : Int) (hA : InT G A) : InT G (aloneP op G A) := fun p h => by
  unfold aloneP at h
  split at h
  · exact (hA _ h).symm
  · split at h
    · exact h.elim (tm_in hA) (inT_same G p)
    · split at h
      · exact tm_in hA h
      · split at h
        · exact h.elim (hA p) (inT_same G p)
        · exact h.elim
theorem inT_fold {G : List T3} {f : (Pr → Prop) → (Pr → Prop) → Pr → Prop} (hf : ∀ A B, InT G A → InT G B → InT G (f A B)) : ∀ (L : List (Pr → Prop)) (A : Pr → Prop), InT G A → (∀ B ∈ L, InT G B) → InT G (L.foldl f A)
  | [], A, hA, _ => hA
  | B :: L, A, hA, hL => inT_fold hf L (f A B) (hf A B hA (hL B (by simp))) (fun C hC => hL C (by simp [hC]))
theorem inT_relOf {G : List T3} (op : Int) (s : ByteArray) {L : List (Pr → Prop)} (hL : ∀ B ∈ L, InT G B) : InT G (relOf G op s L) := by
  unfold relOf
  split
  · exact inT_step G _
  · split
    · cases L with
      | nil => intro p h; exact h.elim
      | cons A L => exact inT_fold (fun _ _ => inT_behind) L A (hL A (by simp)) (fun B hB => hL B (by simp [hB]))
    · split
      · cases L with
        | nil => intro p h; exact h.elim
        | cons A L => exact inT_fold (fun _ _ => inT_or) L A (hL A (by simp)) (fun B hB => hL B (by simp [hB]))
      · match L, hL with
        | [A], hL => exact inT_alone op (hL A (by simp))
        | [], _ => intro p h; exact h.elim
        | _ :: _ :: _, _ => intro p h; exact h.elim
theorem inT_rel (G : List T3) : ∀ t, InT G (rel G t)
  | .mk op s kids => by
    rw [rel_eq]
    exact inT_relOf op s (fun B hB => by
      obtain ⟨k, hk, rfl⟩ := List.mem_map.1 hB
      have := List.sizeOf_lt_of_mem hk
      exact inT_rel G k)
theorem alone_calls (v : Value) (G : List T3) (op : Int) (a : Nat) (A : Pr → Prop) (w : World) (ha : PSet w a A) (hG : GOk w v G) (hn : G.length ≤ 500) (hA : InT G A) : AloneOk v G op a A w := by
  have hTl : (termsL G).length ≤ 1000 := by rw [termsL_len]; omega
  by_cases h2 : op = 2
  · rw [h2]; exact alone_inv v G a A w ha
  by_cases h5 : op = 5
  · rw [h5]; exact alone_star v G a A (termsL G) w ha hG (by omega) hA hTl
  by_cases h6 : op = 6
  · rw [h6]; exact alone_plus v G a A (termsL G) w ha hA hTl
  by_cases h7 : op = 7
  · rw [h7]; exact alone_opt v G a A w ha hG (by omega)
  exact alone_none v G op a A w h2 h5 h6 h7
end
end Go.Proofs.Ytaeiikielelicaa.Pt
