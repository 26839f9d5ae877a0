/- The reference's Set: triples, each once. -/
import Derived.Test.YtaeiikielelicaaPtLess
set_option linter.unusedVariables false
set_option linter.unusedSimpArgs false
set_option linter.unusedSectionVars false
set_option linter.deprecated false
namespace Go.Proofs.Ytaeiikielelicaa.Pt
open Go.RowKit Go.Proofs Go.Am
open Pm
set_option maxRecDepth 1000000
set_option linter.unusedVariables false
set_option linter.unusedSimpArgs false
noncomputable section
theorem cTr_len (t : T3) : (cTr t).length = 12 := rfl
theorem oneTr (t : T3) : ∀ v ∈ cTr t, v.oneCell' = true := by
  intro v h
  simp only [cTr, cT, List.cons_append, List.nil_append, List.mem_cons, List.not_mem_nil, or_false] at h
  rcases h with rfl | rfl | rfl | rfl | rfl | rfl | rfl | rfl | rfl | rfl | rfl | rfl <;> rfl
theorem und24 : Try.prog.underlying 24 = some (.slice 43) := by kernel_rfl
theorem info43 : (Try.prog.info? 43).map (fun i => (i.zero, i.size, i.bytes)) = some (some (.agg #[.int .i64 0, .string ⟨#[]⟩, .string ⟨#[]⟩, .string ⟨#[]⟩, .int .i64 0, .string ⟨#[]⟩, .string ⟨#[]⟩, .string ⟨#[]⟩, .int .i64 0, .string ⟨#[]⟩, .string ⟨#[]⟩, .string ⟨#[]⟩]), 12, 168) := by kernel_rfl
theorem flat_lenT (ys : List T3) : (ys.flatMap cTr).length = ys.length * 12 := by
  induction ys with
  | nil => rfl
  | cons p ys ih => rw [List.flatMap_cons, List.length_append, ih, cTr_len, List.length_cons]; omega
theorem flat_getT : ∀ (ys : List T3) (j : Nat), (ys.flatMap cTr)[j]? = (ys[j / 12]?).bind fun p => (cTr p)[j % 12]?
  | [], j => by simp
  | p :: ys, j => by
    rw [List.flatMap_cons]
    by_cases h : j < 12
    · rw [List.getElem?_append_left (by rw [cTr_len]; exact h), Nat.div_eq_of_lt h, Nat.mod_eq_of_lt h]; rfl
    · rw [List.getElem?_append_right (by rw [cTr_len]; omega), cTr_len, flat_getT ys]
      have e1 : j / 12 = (j - 12) / 12 + 1 := by omega
      have e2 : j % 12 = (j - 12) % 12 := by omega
      rw [e1, e2, List.getElem?_cons_succ]
theorem rowP_cellsT {w : World} {g : Nat} {cur : Array Value} {l : List T3} (hb : w.heap[g]? = some (.cells cur 43 (0, 0))) (ht : cur.toList.take (l.length * 12) = l.flatMap cTr) {j : Nat} {q : T3} (hj : l[j]? = some q) {i : Nat} {u : Value} (hi : (cTr q)[i]? = some u) : w.cell? ⟨g, j * 12 + i, none⟩ = some u := by
  have h8 : i < 12 := by have := (List.getElem?_eq_some_iff.1 hi).1; rwa [cTr_len] at this
  have hjl := (List.getElem?_eq_some_iff.1 hj).1
  have h1 : (l.flatMap cTr)[j * 12 + i]? = some u := by
    rw [flat_getT, show (j * 12 + i) / 12 = j by omega, show (j * 12 + i) % 12 = i by omega, hj]
    exact hi
  rw [← ht, List.getElem?_take_of_lt (by omega)] at h1
  simpa [World.cell?, hb] using h1
theorem row_shapeT {w : World} {base n : Nat} {v : Value} {xs : List Value} (h : w.ownsRow base 43 12 v (n + 1) xs) : ∃ g cap cur, v = .slice (some ⟨g, 0, none⟩) (n + 1) cap ∧ base ≤ g ∧ w.heap[g]? = some (.cells cur 43 (0, 0)) ∧ n + 1 ≤ cap ∧ cap ≤ maxLen ∧ cur.size = cap * 12 ∧ cur.toList.take ((n + 1) * 12) = xs := by
  rcases h.2 with ⟨_, h0⟩ | h
  · omega
  · exact h
theorem sz43 : (Try.prog.info? 43).map (·.size) = some 12 := by kernel_rfl
theorem drop_lenT {l : List T3} {i : Nat} (h : i ≤ l.length) : ((l.drop i).flatMap cTr).length = Nat.min (l.length + 1 - i) (l.length - i) * 12 := by
  rw [flat_lenT, List.length_drop]
  congr 1
  show _ = min _ _
  omega
theorem drop_oneT (l : List T3) (i : Nat) : ∀ v ∈ (l.drop i).flatMap cTr, v.oneCell' = true := fun v hv => by
  obtain ⟨p, _, hp⟩ := List.mem_flatMap.1 hv
  exact oneTr p v hp
theorem flat_dropT (l : List T3) (i : Nat) : (l.drop i).flatMap cTr = (l.flatMap cTr).drop (i * 12) := by
  apply List.ext_getElem?
  intro j
  rw [List.getElem?_drop, flat_getT, flat_getT, List.getElem?_drop, show (i * 12 + j) / 12 = i + j / 12 by omega, show (i * 12 + j) % 12 = j % 12 by omega]
theorem copy_srcT {w : World} {g : Nat} {cur : Array Value} {l : List T3} {ys : List Value} {i : Nat} (hb : w.heap[g]? = some (.cells cur 43 (0, 0))) (ht : cur.toList.take ((l.length + 1) * 12) = l.flatMap cTr ++ ys) :
    ∀ j v, ((l.drop i).flatMap cTr)[j]? = some v → w.drew.cell? ((⟨g, i * 12, none⟩ : Addr).add j) = some v := fun j v hj => by
  have e : (⟨g, i * 12, none⟩ : Addr).add j = ⟨g, i * 12 + j, none⟩ := by
    unfold Addr.add
    split <;> simp_all
  rw [e]
  rw [flat_dropT, List.getElem?_drop] at hj
  have hlt := (List.getElem?_eq_some_iff.1 hj).1
  have h1 : (l.flatMap cTr ++ ys)[i * 12 + j]? = some v := by rw [List.getElem?_append_left hlt]; exact hj
  rw [flat_lenT] at hlt
  rw [← ht, List.getElem?_take_of_lt (by omega)] at h1
  have hb' : w.drew.heap[g]? = some (.cells cur 43 (0, 0)) := hb
  simpa [World.cell?, hb'] using h1
theorem copy_fitT {cur : Array Value} {l : List T3} {i cap : Nat} (h : cur.size = cap * 12) (h2 : l.length + 1 ≤ cap) (hi : i ≤ l.length) : (i + 1) * 12 + ((l.drop i).flatMap cTr).length ≤ cur.toList.length := by
  rw [flat_lenT, List.length_drop]
  have : cur.toList.length = cap * 12 := by rw [← h]; rfl
  omega
theorem flat_takeT (l : List T3) (i : Nat) : (l.take i).flatMap cTr = (l.flatMap cTr).take (i * 12) := by
  apply List.ext_getElem?
  intro j
  rw [List.getElem?_take, flat_getT, flat_getT, List.getElem?_take]
  by_cases h : j < i * 12
  · rw [if_pos h, if_pos (by omega)]
  · rw [if_neg h, if_neg (by omega)]; rfl
theorem splice_rowT {C ys : List Value} {l : List T3} {p : T3} {i : Nat} (hi : i ≤ l.length) (hC : C.take ((l.length + 1) * 12) = l.flatMap cTr ++ ys) (hlen : (l.length + 1) * 12 ≤ C.length) :
    (splice C ((i + 1) * 12) ((l.drop i).flatMap cTr)).take (i * 12) ++ cTr p ++ (splice C ((i + 1) * 12) ((l.drop i).flatMap cTr)).drop (i * 12 + 12) = (l.take i ++ p :: l.drop i).flatMap cTr ++ C.drop ((l.length + 1) * 12) := by
  have hD : ((l.drop i).flatMap cTr).length = (l.length - i) * 12 := by rw [flat_lenT, List.length_drop]
  have hT : (C.take ((i + 1) * 12)).length = (i + 1) * 12 := by rw [List.length_take]; omega
  have e1 : (splice C ((i + 1) * 12) ((l.drop i).flatMap cTr)).take (i * 12) = (l.take i).flatMap cTr := by
    unfold splice
    rw [List.take_append_of_le_length (by rw [hT]; omega), List.take_take, show min (i * 12) ((i + 1) * 12) = i * 12 by omega, flat_takeT]
    have e : C.take (i * 12) = (C.take ((l.length + 1) * 12)).take (i * 12) := by rw [List.take_take, show min (i * 12) ((l.length + 1) * 12) = i * 12 by omega]
    rw [e, hC, List.take_append_of_le_length (by rw [flat_lenT]; omega)]
  have e2 : (splice C ((i + 1) * 12) ((l.drop i).flatMap cTr)).drop (i * 12 + 12) = (l.drop i).flatMap cTr ++ C.drop ((l.length + 1) * 12) := by
    unfold splice
    rw [show i * 12 + 12 = (C.take ((i + 1) * 12)).length by rw [hT]; omega, List.drop_left, hD]
    congr 2
    omega
  rw [e1, e2, List.flatMap_append, List.flatMap_cons]
  simp [List.append_assoc]
/-- a row of triples of the call's own. -/
def RowT (base : Nat) (w : World) (v : Value) (l : List T3) : Prop := w.ownsRow base 43 12 v l.length (l.flatMap cTr)
theorem RowT.below {b : Nat} {w w' : World} {v : Value} {l : List T3} (h : RowT b w v l) (hb : Below w.heap.size w w') : RowT b w' v l := own_keep h (fun k hk => hb.block k (own_cellsB h hk).2.1)
theorem RowT.ok {b : Nat} {w : World} {v : Value} {l : List T3} (h : RowT b w v l) : GOk w v l := by
  rcases h.2 with ⟨rfl, hz⟩ | ⟨g, cap, cur, rfl, hg, hgb, r1, r2, r3, r4⟩
  · exact .inl ⟨rfl, List.eq_nil_of_length_eq_zero hz⟩
  · exact .inr ⟨g, cap, rfl, (Array.getElem?_eq_some_iff.1 hgb).1, fun j t hj i u hi => rowP_cellsT hgb r4 hj hi⟩
theorem below_ownT {B : Nat} {w wr w' : World} {v : Value} {l : List T3} (hbw : Below B w wr) (hB : B ≤ w.heap.size) (h : RowT B wr v l) (hg : wr.grownBy w' v.ownBlock) : Below B w w' :=
  hbw.grown hg (Nat.le_trans hB hbw.size) (fun k e => (own_cellsB h e).1)
theorem set_end {w wq w2 w4 : World} {B g2 cap2 i : Nat} {v0 : Value} {cur2 : Array Value} {l : List T3} {t : T3} {ob : Obj} {ys : List Value} (hi : i ≤ l.length) (hB : B ≤ w.heap.size) (hbw : Below B w wq) (hrow : RowT B wq v0 l) (hgrow : (wq.alloc ob).grownBy w2 v0.ownBlock)
    (q0 : B ≤ g2) (q1 : w2.heap[g2]? = some (.cells cur2 43 (0, 0))) (q2 : l.length + 1 ≤ cap2) (q3 : cap2 ≤ maxLen) (q4 : cur2.size = cap2 * 12) (q5 : cur2.toList.take ((l.length + 1) * 12) = l.flatMap cTr ++ ys)
    (hw4 : Hid (w4.heap[g2]? = some (.cells (splice cur2.toList ((i + 1) * 12) ((l.drop i).flatMap cTr)).toArray 43 (0, 0)))) (hgw4 : w2.drew.grownBy w4 (some g2)) :
    RowT B (w4.setRow g2 ((splice cur2.toList ((i + 1) * 12) ((l.drop i).flatMap cTr)).take (i * 12) ++ cTr t ++ (splice cur2.toList ((i + 1) * 12) ((l.drop i).flatMap cTr)).drop (i * 12 + 12)).toArray) (.slice (some ⟨g2, 0, none⟩) (l.length + 1) cap2) (l.take i ++ t :: l.drop i) ∧
    Below B w (w4.setRow g2 ((splice cur2.toList ((i + 1) * 12) ((l.drop i).flatMap cTr)).take (i * 12) ++ cTr t ++ (splice cur2.toList ((i + 1) * 12) ((l.drop i).flatMap cTr)).drop (i * 12 + 12)).toArray) := by
  have hcl : cur2.toList.length = cap2 * 12 := by rw [← q4]; rfl
  have hlen : (l.length + 1) * 12 ≤ cur2.toList.length := by omega
  rw [splice_rowT hi q5 hlen]
  have hll : (l.take i ++ t :: l.drop i).length = l.length + 1 := by simp; omega
  refine ⟨?_, ?_⟩
  · unfold RowT
    rw [hll]
    refine ⟨by rw [flat_lenT, hll], .inr ⟨g2, cap2, _, rfl, q0, setRow_heap w4 g2 _ _ 43 _ hw4, q2, q3, ?_, ?_⟩⟩
    · simp only [List.size_toArray, List.length_append, flat_lenT, hll, List.length_drop]
      omega
    · rw [List.take_append_of_le_length (by rw [flat_lenT, hll]; exact Nat.le_refl _), List.take_of_length_le (by rw [flat_lenT, hll]; exact Nat.le_refl _)]
  · have h1 : Below B w (wq.alloc ob) := hbw.alloc (Nat.le_trans hB hbw.size) ob
    have h2 : Below B w w2 := h1.grown hgrow (Nat.le_trans hB h1.size) (fun k e => (own_cellsB hrow e).1)
    have h4 : Below B w w4 := h2.drew.grown hgw4 (Nat.le_trans hB h2.size) (fun k e => by cases e; exact q0)
    exact below_setRow h4 q0 _
theorem mem_cut {l : List T3} {t : T3} (i : Nat) (q : T3) : q ∈ l.take i ++ t :: l.drop i ↔ q = t ∨ q ∈ l := by
  conv => rhs; rw [← List.take_append_drop i l]
  simp only [List.mem_append, List.mem_cons]
  constructor
  · rintro (h | h | h)
    · exact .inr (.inl h)
    · exact .inl h
    · exact .inr (.inr h)
  · rintro (h | h | h)
    · exact .inr (.inl h)
    · exact .inl h
    · exact .inr (.inr h)
theorem part43 (x y z : Tm) (w : World) : (part 41 (match encTr (x, y, z) with | .agg a => a | _ => #[]) 0).run Try.prog w = .ok (encT x) w ∧ (part 41 (match encTr (x, y, z) with | .agg a => a | _ => #[]) 4).run Try.prog w = .ok (encT y) w ∧ (part 41 (match encTr (x, y, z) with | .agg a => a | _ => #[]) 8).run Try.prog w = .ok (encT z) w := ⟨by kernel_rfl, by kernel_rfl, by kernel_rfl⟩
theorem eqTr_run (t u : T3) (w : World) : (Op.equalIn 10000 43 (encTr t) (encTr u)).run Try.prog w = .ok (decide (t = u)) w := by
  show (Op.equalIn (9999 + 1) 43 _ _).run Try.prog w = _
  obtain ⟨a, b, c⟩ := t
  obtain ⟨d, e, f⟩ := u
  have p1 := part43 a b c w
  have p2 := part43 d e f w
  unfold encTr at p1 p2 ⊢
  dsimp only at p1 p2 ⊢
  obtain ⟨i, hi⟩ : ∃ i, Try.prog.info? 41 = some i := Option.isSome_iff_exists.1 (by kernel_rfl)
  rw [run_equalIn_array w 9999 _ _ (show Try.prog.underlying 43 = some (.array 3 41) by kernel_rfl) hi, show Try.prog.cellsOf 41 = 4 by kernel_rfl, show List.range 3 = [0, 1, 2] from rfl]
  simp only [Op.eqItems, Sem.run_bind, Nat.zero_mul, Nat.one_mul, Nat.reduceMul, p1.1, p1.2.1, p1.2.2, p2.1, p2.2.1, p2.2.2, Result.andThen, eqT_runD, eqB_eq]
  simp only [Prod.mk.injEq]
  by_cases h1 : a = d
  · subst h1
    by_cases h2 : b = e
    · subst h2
      by_cases h3 : c = f
      · subst h3; simp [p1.2.1, p1.2.2, eqT_runD, eqB_eq]
      · simp [h3, p1.2.1, p1.2.2, p2.2.1, p2.2.2, eqT_runD, eqB_eq]
    · simp [h2, p1.2.1, p2.2.1, eqT_runD, eqB_eq]
  · simp [h1]
end
end Go.Proofs.Ytaeiikielelicaa.Pt
