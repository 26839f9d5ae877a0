/- A chain of triples: what a plus, a star lead between. Plain. -/
import Derived.Test.YtaeiikielelicaaPtReach
set_option linter.unusedVariables false
set_option linter.unusedSimpArgs false
set_option linter.unusedSectionVars false
set_option linter.deprecated false
namespace Go.Proofs.Ytaeiikielelicaa.Pt
open Go.RowKit Go.Proofs Go.Am
open Pm
set_option maxRecDepth 100000
noncomputable section
def nmB (i : Nat) : ByteArray := ⟨#[115, 58, UInt8.ofNat (97 + i)]⟩
def nmT (i : Nat) : Tm := ⟨1, nmB i, ⟨#[]⟩, ⟨#[]⟩⟩
def pB : ByteArray := ⟨#[112, 58, 49]⟩
def pT : Tm := ⟨1, pB, ⟨#[]⟩, ⟨#[]⟩⟩
theorem nmB_inj {i j : Nat} (hi : i ≤ 12) (hj : j ≤ 12) (h : nmB i = nmB j) : i = j := by
  unfold nmB at h
  have h1 := ByteArray.mk.inj h
  have h2 : UInt8.ofNat (97 + i) = UInt8.ofNat (97 + j) := by simpa using h1
  have h3 := congrArg UInt8.toNat h2
  rw [UInt8.toNat_ofNat', UInt8.toNat_ofNat'] at h3
  omega
theorem nmT_inj {i j : Nat} (hi : i ≤ 12) (hj : j ≤ 12) (h : nmT i = nmT j) : i = j := nmB_inj hi hj (congrArg Tm.s h)
/-- where a step leads. -/
def toF (N : Nat) (ring : Bool) (i : Nat) : Nat := if ring then (i + 1) % N else i + 1
def trC (N : Nat) (ring : Bool) (i : Nat) : T3 := (nmT i, pT, nmT (toF N ring i))
def chainG (N : Nat) (ring : Bool) : List T3 := (List.range N).map (trC N ring)
theorem mem_chain {N : Nat} {ring : Bool} {t : T3} : t ∈ chainG N ring ↔ ∃ i, i < N ∧ t = trC N ring i := by
  unfold chainG
  rw [List.mem_map]
  exact ⟨fun ⟨i, h1, h2⟩ => ⟨i, List.mem_range.1 h1, h2.symm⟩, fun ⟨i, h1, h2⟩ => ⟨i, List.mem_range.2 h1, h2.symm⟩⟩
theorem step_chain {N : Nat} {ring : Bool} {G : List T3} (hG : ∀ t, t ∈ G ↔ t ∈ chainG N ring) (q : Pr) : stepS G pB q ↔ ∃ i, i < N ∧ q = (nmT i, nmT (toF N ring i)) := by
  constructor
  · rintro ⟨t, ht, h1, h2⟩
    obtain ⟨i, hi, rfl⟩ := mem_chain.1 ((hG t).1 ht)
    exact ⟨i, hi, h2⟩
  · rintro ⟨i, hi, rfl⟩
    exact ⟨trC N ring i, (hG _).2 (mem_chain.2 ⟨i, hi, rfl⟩), rfl, rfl⟩
theorem plus_line {N : Nat} (hN : N ≤ 12) {G : List T3} (hG : ∀ t, t ∈ G ↔ t ∈ chainG N false) (x y : Tm) : Plus (stepS G pB) x y ↔ ∃ i j, i < j ∧ j ≤ N ∧ x = nmT i ∧ y = nmT j := by
  constructor
  · intro h
    induction h with
    | one h =>
      obtain ⟨i, hi, e⟩ := (step_chain hG _).1 h
      obtain ⟨rfl, rfl⟩ := Prod.mk.inj e
      exact ⟨i, i + 1, by omega, by omega, rfl, rfl⟩
    | more _ h ih =>
      obtain ⟨i, j, h1, h2, rfl, rfl⟩ := ih
      obtain ⟨k, hk, e⟩ := (step_chain hG _).1 h
      obtain ⟨e1, rfl⟩ := Prod.mk.inj e
      have := nmT_inj (by omega) (by omega) e1
      subst this
      exact ⟨i, j + 1, by omega, by omega, rfl, rfl⟩
  · rintro ⟨i, j, h1, h2, rfl, rfl⟩
    obtain ⟨d, rfl⟩ : ∃ d, j = i + d + 1 := ⟨j - i - 1, by omega⟩
    induction d with
    | zero => exact .one ((step_chain hG _).2 ⟨i, by omega, rfl⟩)
    | succ d ih => exact .more (ih (by omega) (by omega)) ((step_chain hG _).2 ⟨i + d + 1, by omega, rfl⟩)
theorem plus_ring {N : Nat} (hN : N ≤ 12) (hN0 : 0 < N) {G : List T3} (hG : ∀ t, t ∈ G ↔ t ∈ chainG N true) (x y : Tm) : Plus (stepS G pB) x y ↔ ∃ i j, i < N ∧ j < N ∧ x = nmT i ∧ y = nmT j := by
  constructor
  · intro h
    induction h with
    | one h =>
      obtain ⟨i, hi, e⟩ := (step_chain hG _).1 h
      obtain ⟨rfl, rfl⟩ := Prod.mk.inj e
      exact ⟨i, (i + 1) % N, hi, Nat.mod_lt _ hN0, rfl, rfl⟩
    | more _ h ih =>
      obtain ⟨i, j, h1, h2, rfl, rfl⟩ := ih
      obtain ⟨k, hk, e⟩ := (step_chain hG _).1 h
      obtain ⟨e1, rfl⟩ := Prod.mk.inj e
      exact ⟨i, (k + 1) % N, h1, Nat.mod_lt _ hN0, rfl, rfl⟩
  · rintro ⟨i, j, h1, h2, rfl, rfl⟩
    have key : ∀ d, Plus (stepS G pB) (nmT i) (nmT ((i + d + 1) % N)) := fun d => by
      induction d with
      | zero => exact .one ((step_chain hG _).2 ⟨i, h1, rfl⟩)
      | succ d ih =>
        refine .more ih ((step_chain hG _).2 ⟨(i + d + 1) % N, Nat.mod_lt _ hN0, ?_⟩)
        have e : (i + (d + 1) + 1) % N = ((i + d + 1) % N + 1) % N := by rw [Nat.mod_add_mod]; rfl
        rw [e]; rfl
    have := key (j + N - i - 1)
    rw [show i + (j + N - i - 1) + 1 = j + N by omega, Nat.add_mod_right, Nat.mod_eq_of_lt h2] at this
    exact this
/-- pairs of numbers. -/
def below_ (N : Nat) : List (Nat × Nat) := (List.range (N + 1)).flatMap fun j => (List.range j).map fun i => (i, j)
def upto_ (N : Nat) : List (Nat × Nat) := (List.range (N + 1)).flatMap fun j => (List.range (j + 1)).map fun i => (i, j)
def all_ (N : Nat) : List (Nat × Nat) := (List.range N).flatMap fun j => (List.range N).map fun i => (i, j)
theorem mem_below {N i j : Nat} : (i, j) ∈ below_ N ↔ i < j ∧ j ≤ N := by
  simp only [below_, List.mem_flatMap, List.mem_map, List.mem_range, Prod.mk.injEq]
  exact ⟨fun ⟨a, h1, b, h2, e1, e2⟩ => by omega, fun ⟨h1, h2⟩ => ⟨j, by omega, i, h1, rfl, rfl⟩⟩
theorem mem_upto {N i j : Nat} : (i, j) ∈ upto_ N ↔ i ≤ j ∧ j ≤ N := by
  simp only [upto_, List.mem_flatMap, List.mem_map, List.mem_range, Prod.mk.injEq]
  exact ⟨fun ⟨a, h1, b, h2, e1, e2⟩ => by omega, fun ⟨h1, h2⟩ => ⟨j, by omega, i, by omega, rfl, rfl⟩⟩
theorem mem_all {N i j : Nat} : (i, j) ∈ all_ N ↔ i < N ∧ j < N := by
  simp only [all_, List.mem_flatMap, List.mem_map, List.mem_range, Prod.mk.injEq]
  exact ⟨fun ⟨a, h1, b, h2, e1, e2⟩ => by omega, fun ⟨h1, h2⟩ => ⟨j, by omega, i, h1, rfl, rfl⟩⟩
def prF (q : Nat × Nat) : Pr := (nmT q.1, nmT q.2)
/-- a row of pairs, each once, has as many as its numbers. -/
theorem len_of {zs : List Pr} (hs : zs.Nodup) (L : List (Nat × Nat)) (hL : L.Nodup) (hb : ∀ q ∈ L, q.1 ≤ 12 ∧ q.2 ≤ 12) (hm : ∀ p, p ∈ zs ↔ ∃ q ∈ L, p = prF q) : zs.length = L.length := by
  have h2 : (L.map prF).Nodup := by
    unfold List.Nodup at hL ⊢
    rw [List.pairwise_map]
    refine List.Pairwise.imp_of_mem (fun {a b} ha hb' hne e => hne ?_) hL
    obtain ⟨e1, e2⟩ := Prod.mk.inj e
    exact Prod.ext (nmT_inj (hb a ha).1 (hb b hb').1 e1) (nmT_inj (hb a ha).2 (hb b hb').2 e2)
  have hmm : ∀ p, p ∈ zs ↔ p ∈ L.map prF := fun p => by
    rw [hm, List.mem_map]
    exact ⟨fun ⟨q, h1, h2⟩ => ⟨q, h1, h2.symm⟩, fun ⟨q, h1, h2⟩ => ⟨q, h1, h2.symm⟩⟩
  rw [show L.length = (L.map prF).length by rw [List.length_map]]
  exact Nat.le_antisymm (hs.length_le_of_subset fun p hp => (hmm p).1 hp) (h2.length_le_of_subset fun p hp => (hmm p).2 hp)
def okN (N : Nat) : Bool := decide ((below_ N).Nodup ∧ (upto_ N).Nodup ∧ (all_ N).Nodup ∧ (below_ N).length = N * (N + 1) / 2 ∧ (upto_ N).length = N * (N + 1) / 2 + N + 1 ∧ (all_ N).length = N * N)
theorem ok_all : ((List.range 13).all okN) = true := by decide +kernel
theorem ok_of {N : Nat} (h : N ≤ 12) : (below_ N).Nodup ∧ (upto_ N).Nodup ∧ (all_ N).Nodup ∧ (below_ N).length = N * (N + 1) / 2 ∧ (upto_ N).length = N * (N + 1) / 2 + N + 1 ∧ (all_ N).length = N * N :=
  of_decide_eq_true (List.all_eq_true.1 ok_all N (List.mem_range.2 (by omega)))
theorem iris_chain {N : Nat} {ring : Bool} {G : List T3} (hG : ∀ t, t ∈ G ↔ t ∈ chainG N ring) : Iris G := fun t ht => by
  obtain ⟨i, _, rfl⟩ := mem_chain.1 ((hG t).1 ht)
  rfl
theorem plus_rel {G : List T3} (hI : Iris G) (p : Pr) : plusP (rel G (.mk 1 pB [])) p ↔ Plus (stepS G pB) p.1 p.2 := by
  have := reach_rel hI pB p.1 p.2
  rw [rel_plus] at this
  exact this
theorem line_plus {N : Nat} (hN : N ≤ 12) {G : List T3} (hG : ∀ t, t ∈ G ↔ t ∈ chainG N false) {zs : List Pr} (hs : Sorted zs) (hz : ∀ p, p ∈ zs ↔ rel G (.mk 6 ⟨#[]⟩ [.mk 1 pB []]) p) : zs.length = N * (N + 1) / 2 := by
  obtain ⟨h1, -, -, h4, -, -⟩ := ok_of hN
  rw [← h4]
  refine len_of hs.nodup _ h1 (fun q hq => ?_) (fun p => ?_)
  · obtain ⟨i, j⟩ := q
    have := mem_below.1 hq
    omega
  · obtain ⟨x, y⟩ := p
    rw [hz, reach_rel (iris_chain hG), plus_line hN hG]
    exact ⟨fun ⟨i, j, a1, a2, e1, e2⟩ => ⟨(i, j), mem_below.2 ⟨a1, a2⟩, by rw [e1, e2]; rfl⟩, fun ⟨⟨i, j⟩, a1, e⟩ => by
      obtain ⟨e1, e2⟩ := Prod.mk.inj e
      exact ⟨i, j, (mem_below.1 a1).1, (mem_below.1 a1).2, e1, e2⟩⟩
theorem ring_plus {N : Nat} (hN : N ≤ 12) (hN0 : 0 < N) {G : List T3} (hG : ∀ t, t ∈ G ↔ t ∈ chainG N true) {zs : List Pr} (hs : Sorted zs) (hz : ∀ p, p ∈ zs ↔ rel G (.mk 6 ⟨#[]⟩ [.mk 1 pB []]) p) : zs.length = N * N := by
  obtain ⟨-, -, h3, -, -, h6⟩ := ok_of hN
  rw [← h6]
  refine len_of hs.nodup _ h3 (fun q hq => ?_) (fun p => ?_)
  · obtain ⟨i, j⟩ := q
    have := mem_all.1 hq
    omega
  · obtain ⟨x, y⟩ := p
    rw [hz, reach_rel (iris_chain hG), plus_ring hN hN0 hG]
    exact ⟨fun ⟨i, j, a1, a2, e1, e2⟩ => ⟨(i, j), mem_all.2 ⟨a1, a2⟩, by rw [e1, e2]; rfl⟩, fun ⟨⟨i, j⟩, a1, e⟩ => by
      obtain ⟨e1, e2⟩ := Prod.mk.inj e
      exact ⟨i, j, (mem_all.1 a1).1, (mem_all.1 a1).2, e1, e2⟩⟩
theorem line_star {N : Nat} (hN : N ≤ 12) (hN0 : 0 < N) {G : List T3} (hG : ∀ t, t ∈ G ↔ t ∈ chainG N false) {zs : List Pr} (hs : Sorted zs) (hz : ∀ p, p ∈ zs ↔ rel G (.mk 5 ⟨#[]⟩ [.mk 1 pB []]) p) : zs.length = N * (N + 1) / 2 + N + 1 := by
  obtain ⟨-, h2, -, -, h5, -⟩ := ok_of hN
  rw [← h5]
  refine len_of hs.nodup _ h2 (fun q hq => ?_) (fun p => ?_)
  · obtain ⟨i, j⟩ := q
    have := mem_upto.1 hq
    omega
  · obtain ⟨x, y⟩ := p
    rw [hz, rel_star, plus_rel (iris_chain hG), plus_line hN hG]
    constructor
    · rintro (⟨i, j, a1, a2, e1, e2⟩ | ⟨e, t, ht, h⟩)
      · dsimp only at e1 e2
        exact ⟨(i, j), mem_upto.2 ⟨by omega, a2⟩, by rw [e1, e2]; rfl⟩
      · obtain ⟨i, hi, rfl⟩ := mem_chain.1 ((hG t).1 ht)
        dsimp only at e h
        subst e
        rcases h with h | h
        · exact ⟨(i, i), mem_upto.2 ⟨by omega, by omega⟩, by rw [h]; rfl⟩
        · exact ⟨(i + 1, i + 1), mem_upto.2 ⟨by omega, by omega⟩, by rw [h]; rfl⟩
    · rintro ⟨⟨i, j⟩, a1, e⟩
      obtain ⟨rfl, rfl⟩ := Prod.mk.inj e
      obtain ⟨b1, b2⟩ := mem_upto.1 a1
      by_cases hij : i = j
      · subst hij
        refine .inr ⟨rfl, ?_⟩
        by_cases hiN : i < N
        · exact ⟨trC N false i, (hG _).2 (mem_chain.2 ⟨i, hiN, rfl⟩), .inl rfl⟩
        · obtain rfl : i = N := by omega
          refine ⟨trC i false (i - 1), (hG _).2 (mem_chain.2 ⟨i - 1, by omega, rfl⟩), .inr ?_⟩
          show nmT i = nmT (toF i false (i - 1))
          unfold toF
          rw [if_neg (by decide), show i - 1 + 1 = i by omega]
      · exact .inl ⟨i, j, by omega, b2, rfl, rfl⟩
theorem ring_star {N : Nat} (hN : N ≤ 12) (hN0 : 0 < N) {G : List T3} (hG : ∀ t, t ∈ G ↔ t ∈ chainG N true) {zs : List Pr} (hs : Sorted zs) (hz : ∀ p, p ∈ zs ↔ rel G (.mk 5 ⟨#[]⟩ [.mk 1 pB []]) p) : zs.length = N * N := by
  obtain ⟨-, -, h3, -, -, h6⟩ := ok_of hN
  rw [← h6]
  refine len_of hs.nodup _ h3 (fun q hq => ?_) (fun p => ?_)
  · obtain ⟨i, j⟩ := q
    have := mem_all.1 hq
    omega
  · obtain ⟨x, y⟩ := p
    rw [hz, rel_star, plus_rel (iris_chain hG), plus_ring hN hN0 hG]
    constructor
    · rintro (⟨i, j, a1, a2, e1, e2⟩ | ⟨e, t, ht, h⟩)
      · dsimp only at e1 e2
        exact ⟨(i, j), mem_all.2 ⟨a1, a2⟩, by rw [e1, e2]; rfl⟩
      · obtain ⟨i, hi, rfl⟩ := mem_chain.1 ((hG t).1 ht)
        dsimp only at e h
        subst e
        rcases h with h | h
        · exact ⟨(i, i), mem_all.2 ⟨hi, hi⟩, by rw [h]; rfl⟩
        · have := Nat.mod_lt (i + 1) hN0
          exact ⟨((i + 1) % N, (i + 1) % N), mem_all.2 ⟨this, this⟩, by rw [h]; rfl⟩
    · rintro ⟨⟨i, j⟩, a1, e⟩
      obtain ⟨rfl, rfl⟩ := Prod.mk.inj e
      obtain ⟨b1, b2⟩ := mem_all.1 a1
      exact .inl ⟨i, j, b1, b2, rfl, rfl⟩
end
end Go.Proofs.Ytaeiikielelicaa.Pt
