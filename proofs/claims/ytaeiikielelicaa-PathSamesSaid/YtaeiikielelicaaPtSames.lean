/- The walk of PathSames. -/
import Derived.Test.YtaeiikielelicaaPtReg13
import Derived.Test.YtaeiikielelicaaPtGraph
set_option linter.unusedVariables false
set_option linter.unusedSimpArgs false
set_option linter.unusedSectionVars false
set_option linter.deprecated false
namespace Go.Proofs.Ytaeiikielelicaa.Pt
open Go.RowKit Go.Proofs Go.Am
open Pm
set_option maxRecDepth 1000000
set_option linter.unusedVariables false
set_option linter.unusedSimpArgs false
noncomputable section
theorem sum_namedW (a b : ByteArray) (h : a.size + b.size ≤ 9223372036854775807) : ∃ y : ByteArray, y.size = a.size + b.size ∧ ∀ W : World, (Op.stringOp .add a b).run Try.prog W = .ok (.string y) W :=
  ⟨_, ByteArray.size_append, fun W => run_string_add_sum W a b h⟩
theorem nm_size (m : Nat) : (nm [⟨#[112, 58, 49]⟩, ⟨#[112, 58, 50]⟩, ⟨#[112, 58, 51]⟩, ⟨#[112, 58, 57]⟩] m).size ≤ 10 := by
  match m with
  | 0 => decide
  | 1 => decide
  | 2 => decide
  | 3 => decide
  | n + 4 => simp [nm]; decide
theorem kidsF_length (f : Nat → Wy × Nat) : ∀ (n a : Nat), (kidsF f n a).1.length = n
  | 0, a => rfl
  | n + 1, a => by rw [kidsF, List.length_append, kidsF_length f n a]; rfl
theorem wayF_op (ns : List Int) (d a : Nat) : ∃ op s kids, (wayF ns d a).1 = .mk op s kids ∧ 1 ≤ op ∧ op ≤ 8 ∧ s.size ≤ 10 ∧ kids.length ≤ 10 := by
  cases d with
  | zero => rw [wayF]; exact ⟨_, _, _, rfl, by omega, by omega, nm_size _, by simp⟩
  | succ d =>
    rw [wayF]
    dsimp only
    split
    · exact ⟨_, _, _, rfl, by omega, by omega, nm_size _, by simp⟩
    · refine ⟨_, _, _, rfl, ?_, ?_, by decide, ?_⟩
      · unfold lastF opF; split <;> omega
      · unfold lastF opF; split <;> omega
      · rw [kidsF_length]
        generalize (nextF ns a 12).2 = q
        generalize opF (nextF ns a 12).1 = o
        have h1 : (cntF ns o q).1 ≤ 3 := by
          unfold cntF
          split
          · have := (next_bound ns q 2 (by omega)).2; dsimp only; omega
          · dsimp only; omega
        generalize (nextF ns (cntF ns o q).2 20).1 = r
        generalize (cntF ns o q).1 = c at h1
        unfold numF
        split
        · omega
        · split <;> omega
/-- a way's kids, as a row that is read. -/
structure KidsIn (w : World) (kids : List Wy) (ks : Value) (kl : List V3) : Prop where
  shape : ∃ a m, ks = .slice a kids.length m
  len : kl.length = kids.length
  small : kids.length ≤ 1000
  src : ∀ x9, w.heap.size ≤ x9 → ∀ W, Below w.heap.size w W → KidsSrc W x9 ks kl
  one : ∀ u ∈ kl.flatMap c3, u.oneCell' = true
  reps : ∀ (j : Nat) k c, kids[j]? = some k → kl[j]? = some c → RepW w k (.agg #[c.1, c.2.1, c.2.2])
theorem RepW.row {w : World} {t : Wy} {pv : Value} (h : RepW w t pv) : ∃ op s kids ks kl, t = .mk op s kids ∧ pv = .agg #[.int .i64 op, .string s, ks] ∧ KidsIn w kids ks kl := by
  cases h with
  | leaf op s => exact ⟨op, s, [], _, [], rfl, rfl, ⟨⟨none, 0, rfl⟩, rfl, by simp, fun x9 _ W _ => .inl ⟨rfl, rfl⟩, fun u hu => by simp at hu, fun j k c hj => by simp at hj⟩⟩
  | node op s kids g cap hn hl hg c0 c1 c2 hc hk =>
    have hget : ∀ (j : Nat) c, ((List.range kids.length).map fun j => ((c0 j, c1 j, c2 j) : V3))[j]? = some c → j < kids.length ∧ c = (c0 j, c1 j, c2 j) := fun j c hj => by
      rw [List.getElem?_map] at hj
      obtain ⟨i, hi, rfl⟩ := Option.map_eq_some_iff.1 hj
      obtain ⟨h1, h2⟩ := List.getElem?_eq_some_iff.1 hi
      rw [List.getElem_range] at h2
      subst h2
      rw [List.length_range] at h1
      exact ⟨h1, rfl⟩
    refine ⟨op, s, kids, _, (List.range kids.length).map fun j => (c0 j, c1 j, c2 j), rfl, rfl, ⟨⟨_, _, rfl⟩, by simp, hl, fun x9 hx W hW => .inr ⟨g, cap, by simp, Nat.lt_of_lt_of_le hg hW.size, by omega, fun j u hj => ?_⟩, fun u hu => ?_, fun j k c hj hjc => ?_⟩⟩
    · rw [flat3_get] at hj
      obtain ⟨c, hjc, hu⟩ := Option.bind_eq_some_iff.1 hj
      obtain ⟨h1, rfl⟩ := hget _ c hjc
      obtain ⟨q0, q1, q2⟩ := hc _ h1
      rw [(hW.cell (p := ⟨g, j, none⟩) hg)]
      have hj3 : j = j / 3 * 3 + j % 3 := by omega
      have hm : j % 3 < 3 := Nat.mod_lt _ (by omega)
      rw [hj3]
      match hr : j % 3, hm with
      | 0, _ => rw [hr] at hu; rw [show j / 3 * 3 + 0 = j / 3 * 3 by omega]; rw [q0]; exact hu
      | 1, _ => rw [hr] at hu; rw [q1]; exact hu
      | 2, _ => rw [hr] at hu; rw [q2]; exact hu
    · obtain ⟨c, hc1, hc2⟩ := List.mem_flatMap.1 hu
      obtain ⟨j, hj⟩ := List.getElem?_of_mem hc1
      obtain ⟨h1, rfl⟩ := hget _ c hj
      obtain ⟨o, s', a, n, m, e⟩ := (hk j _ (List.getElem?_eq_getElem h1)).shape
      simp only [Value.agg.injEq, Array.mk.injEq, List.cons.injEq, and_true] at e
      simp only [c3, List.mem_cons, List.not_mem_nil, or_false] at hc2
      rcases hc2 with rfl | rfl | rfl
      · rw [e.1]; rfl
      · rw [e.2.1]; rfl
      · rw [e.2.2]; rfl
    · obtain ⟨h1, rfl⟩ := hget _ c hjc
      exact hk j k hj
/-- another head. -/
theorem RepW.head {w : World} {op op' : Int} {s s' : ByteArray} {kids : List Wy} {ks : Value} (h : RepW w (.mk op s kids) (.agg #[.int .i64 op, .string s, ks])) : RepW w (.mk op' s' kids) (.agg #[.int .i64 op', .string s', ks]) := by
  generalize hp : Value.agg #[.int .i64 op, .string s, ks] = pv at h
  generalize ht : Wy.mk op s kids = t at h
  cases h with
  | leaf o s2 =>
    simp only [Value.agg.injEq, Array.mk.injEq, List.cons.injEq, and_true] at hp
    obtain ⟨-, -, rfl⟩ := hp
    obtain ⟨-, -, rfl⟩ := wy_inj.1 ht
    exact .leaf _ _
  | node o s2 kids2 g cap hn hl hg c0 c1 c2 hc hk =>
    simp only [Value.agg.injEq, Array.mk.injEq, List.cons.injEq, and_true] at hp
    obtain ⟨-, -, rfl⟩ := hp
    obtain ⟨-, -, rfl⟩ := wy_inj.1 ht
    exact .node _ _ _ g cap hn hl hg c0 c1 c2 hc hk
/-- a row that was made by append. -/
theorem rep_own {W : World} {B : Nat} {v : Value} (op : Int) (s : ByteArray) (l : List (Wy × V3)) (hl : l.length ≤ 1000) (hn : 0 < l.length) (h : W.ownsRow B 28 3 v l.length ((l.map Prod.snd).flatMap c3)) (hk : ∀ q ∈ l, RepW W q.1 (.agg #[q.2.1, q.2.2.1, q.2.2.2])) :
    RepW W (.mk op s (l.map Prod.fst)) (.agg #[.int .i64 op, .string s, v]) := by
  rcases h.2 with ⟨_, h0⟩ | ⟨g, cap, cur, rfl, hg, hgg, rest⟩
  · omega
  · have hlt := (Array.getElem?_eq_some_iff.1 hgg).1
    have hcell := fun j u hj => h.cells (g := g) rfl j u hj
    have hget : ∀ j (q : Wy × V3) m, l[j]? = some q → m < 3 → ((l.map Prod.snd).flatMap c3)[j * 3 + m]? = (c3 q.2)[m]? := fun j q m hj hm => by
      rw [flat3_get, show (j * 3 + m) / 3 = j by omega, show (j * 3 + m) % 3 = m by omega, List.getElem?_map, hj]
      rfl
    have e := RepW.node (w := W) op s (l.map Prod.fst) g cap (by simpa using hn) (by simpa using hl) hlt
      (fun j => ((l[j]?).map fun q => q.2.1).getD default) (fun j => ((l[j]?).map fun q => q.2.2.1).getD default) (fun j => ((l[j]?).map fun q => q.2.2.2).getD default) ?_ ?_
    · rw [List.length_map] at e; exact e
    · intro j hj
      rw [List.length_map] at hj
      obtain ⟨q, hq⟩ : ∃ q, l[j]? = some q := ⟨l[j], List.getElem?_eq_getElem hj⟩
      rw [hq]
      have a0 := hcell (j * 3 + 0) q.2.1 ((hget j q 0 hq (by omega)).trans rfl)
      have a1 := hcell (j * 3 + 1) q.2.2.1 ((hget j q 1 hq (by omega)).trans rfl)
      have a2 := hcell (j * 3 + 2) q.2.2.2 ((hget j q 2 hq (by omega)).trans rfl)
      rw [addr_addT, Nat.zero_add] at a0 a1 a2
      exact ⟨a0, a1, a2⟩
    · intro j k hj
      rw [List.getElem?_map] at hj
      obtain ⟨q, hq, rfl⟩ := Option.map_eq_some_iff.1 hj
      rw [hq]
      exact hk q (List.mem_of_getElem? hq)
def two (W : World) (g h : Nat) (oA oB : Int) (sA sB : ByteArray) (aA aB : Option Addr) (nA mA nB mB : Nat) : Prop := (W.cell? ⟨g, 0, none⟩ = some (.int .i64 oA) ∧ W.cell? ⟨g, 1, none⟩ = some (.string sA) ∧ W.cell? ⟨g, 2, none⟩ = some (.slice aA nA mA)) ∧ (W.cell? ⟨h, 0, none⟩ = some (.int .i64 oB) ∧ W.cell? ⟨h, 1, none⟩ = some (.string sB) ∧ W.cell? ⟨h, 2, none⟩ = some (.slice aB nB mB))
set_option maxHeartbeats 4000000 in
theorem sames_law (v0 v1 : Value) (la lb : List Int) (k : Int) (w : World) (ha : NsOk w v0 la) (hb : NsOk w v1 lb) (hal : la.length ≤ 9223372036854775807) (hbl : lb.length ≤ 9223372036854775807) (hk1 : -9223372036854775808 ≤ k) (hk2 : k ≤ 9223372036854775807) :
    Calls Try.prog 5 #[v0, v1, .int .i64 k] w fun e w' => e = .returned (.bool true) ∧ Below w.heap.size w w' := by
  have hkn := known_calls w
  have hwa : ∀ w1, Below w.heap.size w w1 → Calls Try.prog 12 #[v0] w1 (WPost w1 (wayF la 3 0).1) := fun w1 h => Way_calls v0 la w1 (ha.below h) hal
  have hwb : ∀ w1, Below w.heap.size w w1 → Calls Try.prog 12 #[v1] w1 (WPost w1 (wayF lb 3 0).1) := fun w1 h => Way_calls v1 lb w1 (hb.below h) hbl
  obtain ⟨op, s, kids, hTA, hop1, hop2, hss, hkl⟩ := wayF_op la 3 0
  rw [hTA] at hwa
  clear hTA
  generalize (wayF lb 3 0).1 = TB at hwb
  have hwi := fun W => within_calls k 3 W (by omega) (by omega) hk1 hk2
  obtain ⟨m, hm, hm3, -⟩ := mod_nat k 3 (by omega)
  rw [hm] at hwi
  obtain ⟨a0, c0, rfl, -⟩ := ha
  obtain ⟨a1, c1, rfl, -⟩ := hb
  go_enter Try.func5, Try.ntmps5
  go_wp2_with (first
    | (go_at_call 10; refine hkn.mono ?_; rintro e w1 ⟨rfl, b1⟩)
    | (go_at_call 12; refine (hwa _ b1).mono ?_; rintro e w3 ⟨oA, sA, aA, nA, mA, rfl, tA, t2⟩; have b3 := b1.trans (t2.mono b1.size))
    | (go_at_call 12; refine (hwb _ b3).mono ?_; rintro e w4 ⟨oB, sB, aB, nB, mB, rfl, tB, t3⟩; have b4 := b3.trans (t3.mono b3.size); have tA4 := tA.later t3))
  obtain ⟨W0, hW0⟩ : ∃ W0, (w4.alloc (.cells #[.int .i64 oA, .string sA, .slice aA nA mA] 28)).alloc (.cells #[.int .i64 oB, .string sB, .slice aB nB mB] 28) = W0 := ⟨_, rfl⟩
  rw [hW0]
  have hs0 : W0.heap.size = w4.heap.size + 2 := by rw [← hW0]; simp
  have hb0 : Below w4.heap.size w4 W0 := by rw [← hW0]; exact ((Below.refl _ w4).alloc (Nat.le_refl _) _).alloc (by simp) _
  have p7 : W0.heap[w4.heap.size]? = some (.cells #[.int .i64 oA, .string sA, .slice aA nA mA] 28 (0, 0)) := by
    rw [← hW0]; exact (Below.heap_alloc _ _ _ (by simp)).trans (World.alloc_heap_new w4 _)
  have p8 : W0.heap[w4.heap.size + 1]? = some (.cells #[.int .i64 oB, .string sB, .slice aB nB mB] 28 (0, 0)) := by
    rw [← hW0]
    have := World.alloc_heap_new (w4.alloc (.cells #[.int .i64 oA, .string sA, .slice aA nA mA] 28)) (.cells #[.int .i64 oB, .string sB, .slice aB nB mB] 28)
    rwa [World.size_alloc] at this
  clear hW0
  have tA0 := tA4.later hb0
  have tB0 := tB.later hb0
  have B0 : Below w.heap.size w W0 := b4.trans (hb0.mono b4.size)
  have hall : ∀ W, Below W0.heap.size W0 W → two W w4.heap.size (w4.heap.size + 1) oA oB sA sB aA aB nA mA nB mB := fun W h => ⟨cells3 (box_kept h p7), cells3 (box_kept h p8)⟩
  have hS17 : ∀ W, Below W0.heap.size W0 W → SameOk 17 (.agg #[.int .i64 oA, .string sA, .slice aA nA mA]) (.agg #[.int .i64 oB, .string sB, .slice aB nB mB]) (Wy.mk op s kids = TB) W := fun W h => Same_calls (tA0.later h) (tB0.later h)
  have hS18 : ∀ W, Below W0.heap.size W0 W → SameOk 18 (.agg #[.int .i64 oA, .string sA, .slice aA nA mA]) (.agg #[.int .i64 oB, .string sB, .slice aB nB mB]) (Wy.mk op s kids = TB) W := fun W h => SameP_calls (tA0.later h) (tB0.later h)
  have hW12 : ∀ W, Below W0.heap.size W0 W → Calls Try.prog 12 #[.slice a0 la.length c0] W (WPost W (.mk op s kids)) := fun W h => hwa W (B0.trans (h.mono B0.size))
  have hSaa : ∀ W o s' a n m, Below W0.heap.size W0 W → RepW W (.mk op s kids) (.agg #[.int .i64 o, .string s', .slice a n m]) → SameOk 17 (.agg #[.int .i64 oA, .string sA, .slice aA nA mA]) (.agg #[.int .i64 o, .string s', .slice a n m]) (Wy.mk op s kids = Wy.mk op s kids) W := fun W o s' a n m h ht => Same_calls (tA0.later h) ht
  unfold SameOk at hS17 hS18 hSaa
  rw [dB_true rfl] at hSaa
  generalize dB (Wy.mk op s kids = TB) = D at hS17 hS18
  unfold two at hall
  have hd0 : Below W0.heap.size W0 W0.drew := (Below.refl _ _).drew
  have hx0 := hall _ hd0
  have hDD : (D != D) = false := by cases D <;> rfl
  go_region_held3 (fun W => (W.cell? ⟨w4.heap.size, 0, none⟩ = some (.int .i64 oA) ∧ W.cell? ⟨w4.heap.size, 1, none⟩ = some (.string sA) ∧ W.cell? ⟨w4.heap.size, 2, none⟩ = some (.slice aA nA mA)) ∧ (W.cell? ⟨w4.heap.size + 1, 0, none⟩ = some (.int .i64 oB) ∧ W.cell? ⟨w4.heap.size + 1, 1, none⟩ = some (.string sB) ∧ W.cell? ⟨w4.heap.size + 1, 2, none⟩ = some (.slice aB nB mB))) (first | exact hx4 | exact hx3 | exact hx2 | exact hx1 | exact hx0)
    (first
    | (go_at_call 17; refine (hSaa _ _ _ _ _ _ hd3 r3).mono ?_; rintro e w14 ⟨rfl, d4⟩; have hd4 := hd3.trans (d4.mono hd3.size); have hx4 := hall w14 hd4)
    | (go_at_call 12; refine (hW12 _ hd2).mono ?_; rintro e w13 ⟨oD, sD, aD, nD, mD, rfl, r3, d3⟩; have hd3 := hd2.trans (d3.mono hd2.size); have hx3 := hall w13 hd3)
    | (go_at_call 18; refine (hS18 _ hd1).mono ?_; rintro e w12 ⟨rfl, d2⟩; have hd2 := hd1.trans (d2.mono hd1.size); have hx2 := hall w12 hd2)
    | (go_at_call 17; refine (hS17 _ hd0).mono ?_; rintro e w11 ⟨rfl, d1⟩; have hd1 := hd0.trans (d1.mono hd0.size); have hx1 := hall w11 hd1))
  have B14 := B0.trans (hd4.mono B0.size)
  have hw15 := hW12 w14 hd4
  clear hx0 hx1 hx2 hx3 hS17 hS18 hSaa hkn hwb r3 d1 d2 d3 d4 hd0 hd1 hd2 hd3
  have hmc : m = 0 ∨ m = 1 ∨ m = 2 := by omega
  rcases hmc with rfl | rfl | rfl
  · have hwr : IntKind.i64.wrap (op + 1) = op + 1 := by simp [IntKind.wrap, IntKind.bits, IntKind.signed]; omega
    go_wp2_with (first
    | (go_at_call 12; refine hw15.mono ?_; rintro e w15 ⟨o5, s5, a5, n5, m5, rfl, r5, d5⟩
       obtain ⟨op', s', kids', ks, kl, e1, e2, hKI⟩ := r5.row
       obtain ⟨rfl, rfl, rfl⟩ := wy_inj.1 e1
       simp only [Value.agg.injEq, Array.mk.injEq, List.cons.injEq, Value.int.injEq, Value.string.injEq, and_true, true_and] at e2
       obtain ⟨rfl, rfl, rfl⟩ := show op = o5 ∧ s = s5 ∧ ks = .slice a5 n5 m5 from ⟨e2.1.symm, e2.2.1.symm, e2.2.2.symm⟩
       have d15 := hd4.trans (d5.mono hd4.size)
       have B15 := B14.trans (d5.mono B14.size)
       obtain ⟨W1, hW1⟩ : ∃ W1, W1 = w15.alloc (.cells #[.int .i64 (op + 1), .string s, .slice a5 n5 m5] 28) := ⟨_, rfl⟩
       have hb1 : Below w15.heap.size w15 W1 := by rw [hW1]; exact (Below.refl _ _).alloc (Nat.le_refl _) _
       have d16 := d15.trans (hb1.mono d15.size)
       have B16 := B15.trans (hb1.mono B15.size)
       have hx16 := hall W1 d16
       have r16 := (r5.later hb1).head (op' := op + 1) (s' := s)
       have hsz1 : W1.heap.size = w15.heap.size + 1 := by rw [hW1]; simp
       have hn1 : W1.heap[w15.heap.size]? = some (.cells #[.int .i64 (op + 1), .string s, .slice a5 n5 m5] 28 (0, 0)) := by rw [hW1]; exact World.alloc_heap_new _ _
       have hQ1 := Same_calls (tA0.later d16) r16
       have hQ2 := fun W (h : Below W1.heap.size W1 W) => Same_calls (r16.later h) (tA0.later (d16.trans (h.mono d16.size)))
       have hall2 := fun W (h : Below W1.heap.size W1 W) => hall W (d16.trans (h.mono d16.size))
       have hn2 := fun W (h : Below W1.heap.size W1 W) => cells3 (box_kept h hn1)
       unfold SameOk at hQ1 hQ2
       rw [dB_false (fun e => by have := (wy_inj.1 e).1; omega)] at hQ1
       rw [hW1] at hQ1 hx16
       skip)
    | (go_at_call 17; refine hQ3.mono ?_; rintro e w18 ⟨rfl, q2⟩; have q3 := q1.trans (q2.mono q1.size))
    | (go_at_call 17; refine hQ1.mono ?_; rintro e w17 ⟨rfl, q1⟩; rw [← hW1] at q1; have hx17 := hall2 w17 q1; have hn17 := hn2 w17 q1; have hQ3 := hQ2 w17 q1; rw [dB_false (fun e => by have := (wy_inj.1 e).1; omega)] at hQ3)
    | (go_at_call 19; refine (hwi _).mono ?_; rintro e w16 ⟨rfl, rfl⟩))
    all_goals
      go_ret
      exact ⟨rfl, B16.trans (q3.mono B16.size)⟩
  · obtain ⟨y, hy1, hy2⟩ := sum_namedW s ⟨#[120]⟩ (by have e1 : (⟨#[120]⟩ : ByteArray).size = 1 := rfl; omega)
    have hys : ¬ y = s := fun e => by have e1 : (⟨#[120]⟩ : ByteArray).size = 1 := rfl; rw [e] at hy1; omega
    go_wp2_with (first
    | (go_at_call 12; refine hw15.mono ?_; rintro e w15 ⟨o5, s5, a5, n5, m5, rfl, r5, d5⟩
       obtain ⟨op', s', kids', ks, kl, e1, e2, hKI⟩ := r5.row
       obtain ⟨rfl, rfl, rfl⟩ := wy_inj.1 e1
       simp only [Value.agg.injEq, Array.mk.injEq, List.cons.injEq, Value.int.injEq, Value.string.injEq, and_true, true_and] at e2
       obtain ⟨rfl, rfl, rfl⟩ := show op = o5 ∧ s = s5 ∧ ks = .slice a5 n5 m5 from ⟨e2.1.symm, e2.2.1.symm, e2.2.2.symm⟩
       have d15 := hd4.trans (d5.mono hd4.size)
       have B15 := B14.trans (d5.mono B14.size)
       obtain ⟨W1, hW1⟩ : ∃ W1, W1 = w15.alloc (.cells #[.int .i64 op, .string y, .slice a5 n5 m5] 28) := ⟨_, rfl⟩
       have hb1 : Below w15.heap.size w15 W1 := by rw [hW1]; exact (Below.refl _ _).alloc (Nat.le_refl _) _
       have d16 := d15.trans (hb1.mono d15.size)
       have B16 := B15.trans (hb1.mono B15.size)
       have hx16 := hall W1 d16
       have r16 := (r5.later hb1).head (op' := op) (s' := y)
       have hsz1 : W1.heap.size = w15.heap.size + 1 := by rw [hW1]; simp
       have hn1 : W1.heap[w15.heap.size]? = some (.cells #[.int .i64 op, .string y, .slice a5 n5 m5] 28 (0, 0)) := by rw [hW1]; exact World.alloc_heap_new _ _
       have hQ1 := Same_calls (tA0.later d16) r16
       have hQ2 := fun W (h : Below W1.heap.size W1 W) => Same_calls (r16.later h) (tA0.later (d16.trans (h.mono d16.size)))
       have hall2 := fun W (h : Below W1.heap.size W1 W) => hall W (d16.trans (h.mono d16.size))
       have hn2 := fun W (h : Below W1.heap.size W1 W) => cells3 (box_kept h hn1)
       unfold SameOk at hQ1 hQ2
       rw [dB_false (fun e => hys (wy_inj.1 e).2.1.symm)] at hQ1
       rw [hW1] at hQ1 hx16
       skip)
    | (go_at_call 17; refine hQ3.mono ?_; rintro e w18 ⟨rfl, q2⟩; have q3 := q1.trans (q2.mono q1.size))
    | (go_at_call 17; refine hQ1.mono ?_; rintro e w17 ⟨rfl, q1⟩; rw [← hW1] at q1; have hx17 := hall2 w17 q1; have hn17 := hn2 w17 q1; have hQ3 := hQ2 w17 q1; rw [dB_false (fun e => hys (wy_inj.1 e).2.1)] at hQ3)
    | (go_at_call 19; refine (hwi _).mono ?_; rintro e w16 ⟨rfl, rfl⟩))
    all_goals
      go_ret
      exact ⟨rfl, B16.trans (q3.mono B16.size)⟩
  · go_wp2_with (first
    | (go_at_call 12; refine hw15.mono ?_; rintro e w15 ⟨o5, s5, a5, n5, m5, rfl, r5, d5⟩
       obtain ⟨op', s', kids', ks, kl, e1, e2, hKI⟩ := r5.row
       obtain ⟨rfl, rfl, rfl⟩ := wy_inj.1 e1
       simp only [Value.agg.injEq, Array.mk.injEq, List.cons.injEq, Value.int.injEq, Value.string.injEq, and_true, true_and] at e2
       obtain ⟨rfl, rfl, rfl⟩ := show op = o5 ∧ s = s5 ∧ ks = .slice a5 n5 m5 from ⟨e2.1.symm, e2.2.1.symm, e2.2.2.symm⟩
       have d15 := hd4.trans (d5.mono hd4.size)
       have B15 := B14.trans (d5.mono B14.size)
       obtain ⟨W1, hW1⟩ : ∃ W1, W1 = w15.alloc (.cells #[.int .i64 op, .string s, .slice a5 n5 m5] 28) := ⟨_, rfl⟩
       have hb1 : Below w15.heap.size w15 W1 := by rw [hW1]; exact (Below.refl _ _).alloc (Nat.le_refl _) _
       have d16 := d15.trans (hb1.mono d15.size)
       have B16 := B15.trans (hb1.mono B15.size)
       have hsz1 : W1.heap.size = w15.heap.size + 1 := by rw [hW1]; simp
       have hn1 : W1.heap[w15.heap.size]? = some (.cells #[.int .i64 op, .string s, .slice a5 n5 m5] 28 (0, 0)) := by rw [hW1]; exact World.alloc_heap_new _ _)
    | (go_at_call 19; refine (hwi _).mono ?_; rintro e w16 ⟨rfl, rfl⟩))
    change Code.wp _ (Code.region 13 ops13 true) _ _ _
    rw [← hW1]
    have h15 := d15.size
    refine reg13 (by kernel_rfl) rfl (.int .i64 oB, .string sB, .slice aB nB mB) (w4.heap.size + 1) w15.heap.size op s (.slice a5 n5 m5) kl rfl rfl (box_kept d16 p8) hn1 (by omega) (hKI.src w15.heap.size (Nat.le_refl _) W1 hb1) (by rw [hKI.len]; exact hKI.small) hKI.one (by intro u hu; simp only [c3, List.mem_cons, List.not_mem_nil, or_false] at hu; rcases hu with rfl | rfl | rfl <;> rfl) ?_
    rintro v W ⟨f1, f2, f3⟩
    have fb : Below w15.heap.size W1 W := ⟨f1.os, f1.tape, f1.output, f1.size, fun k hk => f1.block k (by omega) (fun e => by have : k = w15.heap.size := Option.some.inj e; omega)⟩
    have dW : Below W0.heap.size W0 W := d16.trans (fb.mono h15)
    have BW : Below w.heap.size w W := B16.trans (fb.mono B15.size)
    have rk : Below w15.heap.size w15 W := hb1.trans fb
    have rB := tB0.later dW
    have hlk : kl.length = kids.length := hKI.len
    have rC : RepW W (.mk op s (kids ++ [TB])) (.agg #[.int .i64 op, .string s, v 6]) := by
      have e1 : (kids.zip kl ++ [(TB, ((.int .i64 oB, .string sB, .slice aB nB mB) : V3))]).map Prod.fst = kids ++ [TB] := by
        rw [List.map_append, List.map_fst_zip (by omega)]; rfl
      have e2 : (kids.zip kl ++ [(TB, ((.int .i64 oB, .string sB, .slice aB nB mB) : V3))]).map Prod.snd = kl ++ [(.int .i64 oB, .string sB, .slice aB nB mB)] := by
        rw [List.map_append, List.map_snd_zip (by omega)]; rfl
      have e3 : (kids.zip kl ++ [(TB, ((.int .i64 oB, .string sB, .slice aB nB mB) : V3))]).length = kl.length + 1 := by
        rw [List.length_append, List.length_zip, hlk]; simp
      rw [← e1]
      refine rep_own (B := W1.heap.size) op s _ (by rw [e3, hlk]; omega) (by rw [e3]; omega) ?_ ?_
      · rw [e2, e3, List.flatMap_append]
        simpa using f2
      · intro q hq
        rcases List.mem_append.1 hq with hq | hq
        · obtain ⟨j, hj⟩ := List.getElem?_of_mem hq
          rw [List.getElem?_zip_eq_some] at hj
          exact (hKI.reps j q.1 q.2 hj.1 hj.2).later rk
        · obtain rfl := List.mem_singleton.1 hq
          exact rB
    obtain ⟨a6, m6, h6⟩ := own_slice f2
    rw [h6] at f3 rC
    have hx16 := hall W dW
    have hQ1 := Same_calls (tA0.later dW) rC
    have hQ2 := fun W' (h : Below W.heap.size W W') => Same_calls (rC.later h) (tA0.later (dW.trans (h.mono dW.size)))
    have hall2 := fun W' (h : Below W.heap.size W W') => hall W' (dW.trans (h.mono dW.size))
    have hn2 := fun W' (h : Below W.heap.size W W') => cells3 (box_kept h f3)
    have hn1' := cells3 f3
    unfold SameOk at hQ1 hQ2
    have hkne : ¬ kids = kids ++ [TB] := fun e => by have := congrArg List.length e; simp at this
    rw [dB_false (fun e => hkne (wy_inj.1 e).2.2)] at hQ1
    rw [h6]
    simp only [putsL, List.foldl_cons, List.foldl_nil, Act.put, List.setIfInBounds_toArray, List.set_cons_succ, List.set_cons_zero]
    clear f1 f2 f3 fb rk rB rC hKI hlk h6 hn1 hW1 p7 p8 hwi hW12 hwa r5 d5 e2 e1 hw15
    go_wp2_with (first
    | (go_at_call 17; refine hQ3.mono ?_; rintro e w18 ⟨rfl, q2⟩; have q3 := q1.trans (q2.mono q1.size))
    | (go_at_call 17; refine hQ1.mono ?_; rintro e w17 ⟨rfl, q1⟩; have hx17 := hall2 w17 q1; have hn17 := hn2 w17 q1; have hQ3 := hQ2 w17 q1; rw [dB_false (fun e => hkne (wy_inj.1 e).2.2.symm)] at hQ3))
    go_ret
    exact ⟨rfl, BW.trans (q3.mono BW.size)⟩
end
end Go.Proofs.Ytaeiikielelicaa.Pt
