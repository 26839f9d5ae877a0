/- The reference's put: a pair into a row in order. -/
import Derived.Test.YtaeiikielelicaaPtSorted
import Derived.Deep.RegionLaw
import Derived.Laws.CopyOwn
set_option linter.unusedVariables false
set_option linter.unusedSimpArgs false
set_option linter.unusedSectionVars false
set_option linter.deprecated false
namespace Go.Proofs.Ytaeiikielelicaa.Pt
open Go.RowKit Go.Proofs Go.Am
open Pm
set_option maxRecDepth 1000000
set_option linter.unusedVariables false
set_option linter.unusedSimpArgs false
noncomputable section
theorem run_copy_rowK {P : Program} (k : Nat) (w : World) (dT sT ty elem : TypeId) (g o dLen dCap : Nat) (a : Addr) (sLen sCap : Nat) (cur : Array Value) (t : TypeId) (cs : List Value)
    (hu : P.underlying dT = some (.slice elem)) (hs : (P.info? elem).map (·.size) = some k)
    (hg : w.heap[g]? = some (.cells cur t (0, 0))) (hn : cs.length = Nat.min sLen dLen * k)
    (hsrc : ∀ j v, cs[j]? = some v → w.cell? (a.add j) = some v) (hfit : o + cs.length ≤ cur.size) (h1 : ∀ v ∈ cs, v.oneCell' = true) :
    (Builtin.copy_ #[dT, sT] ty #[.slice (some ⟨g, o, none⟩) dLen dCap, .slice (some a) sLen sCap]).run P w =
      .ok (goInt (Nat.min sLen dLen)) (w.setRow g (cur.toList.take o ++ cs ++ cur.toList.drop (o + cs.length)).toArray) := by
  have hl := run_loadCells_list (P := P) w a cs hsrc
  have hst := run_storeCells_at P g o t cs 0 cur w hg (by simpa using hfit) h1
  cases hq : P.info? elem with
  | none => simp [hq] at hs
  | some i =>
    have hi : i.size = k := by simpa [hq] using hs
    simp [Builtin.copy_, run_underlying hu, Builtin.lenOf, Builtin.firstCells, sizeOf, typeInfo, hq, hi, ← hn, hl, hst]
theorem wpl_storeK {P : Program} (w : World) {ops : Array Oper} {rest : List Oper} {o : Oper} {a : Act} {Q : Exit → Act → World → Prop} (hg : o.guard = none) (T : TypeId) (p x : Operand) (hop : o.op = Op.store T p x) (hd : o.dst = none) (ad : Addr) (hp : a.eval p = .pointer (some ad)) (v : Value) (hx : a.eval x = v) (n : Nat) (hsz : (P.info? T).map (·.size) = some n) (hn : v.cells.size = n) (w' : World)
    (hrun : (storeCells ad v.cells.toList 0).run P w = .ok () w') (hK : wpList P ops Q rest a w') : wpList P ops Q (o :: rest) a w := by
  refine wpList_plain hg fun K hK' => ?_
  unfold Oper.wp
  cases hq : P.info? T with
  | none => simp [hq] at hsz
  | some i =>
    have hi : i.size = n := by simpa [hq] using hsz
    simp [execOp, hop, hp, hx, Instr.storeAt, Instr.sureAddr, storeVar, sizeOf, typeInfo, hq, hi, hn, hrun, Result.andThen, hd, Act.put]
    simpa [hd, Act.put, Oper.upon] using hK' a w' hK
theorem run_copy_noneK {P : Program} (k : Nat) (w : World) (dT sT ty elem : TypeId) (d a : Option Addr) (dLen dCap sLen sCap : Nat) (hu : P.underlying dT = some (.slice elem)) (hs : (P.info? elem).map (·.size) = some k) (hn : Nat.min sLen dLen = 0) :
    (Builtin.copy_ #[dT, sT] ty #[.slice d dLen dCap, .slice a sLen sCap]).run P w = .ok (goInt 0) w := by
  cases hq : P.info? elem with
  | none => simp [hq] at hs
  | some i =>
    have hl : ∀ (x : Addr), (loadCells x 0).run P w = .ok #[] w := fun x => by simpa using run_loadCells_list (P := P) w x [] (by simp)
    cases d <;> cases a <;> simp [Builtin.copy_, run_underlying hu, Builtin.lenOf, Builtin.firstCells, sizeOf, typeInfo, hq, hn, storeCells, hl]
theorem step_copyK {P : Program} {ops : Array Oper} {o : Oper} {a : Act} {w : World} {K : Act → World → Prop} {Q : Exit → Act → World → Prop} {E : Prop} (k : Nat) (hk : 0 < k) (hgd : o.guard = none) (d s : Operand) (dT sT : TypeId)
    (ho : o.op = .call { callee := .builtin .copy, args := #[d, s], argTypes := #[dT, sT] }) (elem : TypeId) (hu : P.underlying dT = some (.slice elem)) (hsz : (P.info? elem).map (·.size) = some k)
    (dp sp : Option Addr) (dLen dCap sLen sCap : Nat) (hd : a.eval d = .slice dp dLen dCap) (hs : a.eval s = .slice sp sLen sCap)
    (g off : Nat) (cur : List Value) (t : TypeId) (hg : w.heap[g]? = some (.cells cur.toArray t (0, 0))) (cs : List Value) (hn : cs.length = Nat.min sLen dLen * k)
    (hpos : 0 < cs.length → dp = some ⟨g, off, none⟩ ∧ ∃ ad, sp = some ad ∧ ∀ j v, cs[j]? = some v → w.cell? (ad.add j) = some v)
    (hfit : off + cs.length ≤ cur.length) (h1 : ∀ v ∈ cs, v.oneCell' = true)
    (h : ∀ w', Hid (w'.heap[g]? = some (.cells (splice cur off cs).toArray t (0, 0))) → w.grownBy w' (some g) → K (a.put o.dst (goInt (Nat.min sLen dLen))) w') :
    if Region.wanted o (yielded ops a.tmps) = true then Oper.wp P o a w K Q else E := by
  have hw : Region.wanted o (yielded ops a.tmps) = true := by simp [Region.wanted, hgd]
  rw [if_pos hw]
  by_cases h0 : cs.length = 0
  · obtain rfl : cs = [] := List.eq_nil_of_length_eq_zero h0
    have hz : Nat.min sLen dLen = 0 := by
      have : Nat.min sLen dLen * k = 0 := by simpa using hn.symm
      rcases Nat.mul_eq_zero.1 this with h | h
      · exact h
      · omega
    have hrun := run_copy_noneK (P := P) k w dT sT o.type elem dp sp dLen dCap sLen sCap hu hsz hz
    unfold Oper.wp
    simp [execOp, ho, resolve, invoke, builtin, hd, hs, hrun, Result.andThen]
    have := h w (show _ = _ by simpa [splice] using hg) ⟨rfl, rfl, rfl, Nat.le_refl _, fun _ _ _ => rfl⟩
    rwa [hz] at this
  · obtain ⟨rfl, ad, rfl, hsrc⟩ := hpos (by omega)
    have hrun := run_copy_rowK (P := P) k w dT sT o.type elem g off dLen dCap ad sLen sCap cur.toArray t cs hu hsz hg hn hsrc (by simpa using hfit) h1
    unfold Oper.wp
    simp [execOp, ho, resolve, invoke, builtin, hd, hs, hrun, Result.andThen]
    exact h _ (show _ = _ by simpa [splice] using setRow_heap w g _ _ t _ hg) ⟨rfl, rfl, rfl, by simp [World.setRow], fun j hj hne => setRow_other w g j _ (fun e => hne (by rw [e]))⟩
/-- the pair stands here, or would stand. -/
structure Cut (l : List Pr) (p : Pr) (i : Nat) : Prop where
  le : i ≤ l.length
  low : ∀ j q, j < i → l[j]? = some q → cmpP q p < 0
  high : ∀ j q, i ≤ j → l[j]? = some q → ¬ cmpP q p < 0
theorem cut_in {l : List Pr} {p : Pr} {i : Nat} (h : Cut l p i) (hs : Sorted l) (hn : l[i]? ≠ some p) : Sorted (l.take i ++ p :: l.drop i) := by
  have e : l = l.take i ++ l.drop i := (List.take_append_drop i l).symm
  have hh : ∀ q ∈ l.drop i, cmpP p q < 0 := fun q hq => by
    obtain ⟨j, hj⟩ := List.getElem?_of_mem hq
    rw [List.getElem?_drop] at hj
    have h1 := h.high (i + j) q (by omega) hj
    have h2 : q ≠ p := fun e => by
      subst e
      by_cases h0 : j = 0
      · subst h0; exact hn hj
      · have hil : i < l.length := by have := (List.getElem?_eq_some_iff.1 hj).1; omega
        have h3 := h.high i l[i] (Nat.le_refl _) (List.getElem?_eq_getElem hil)
        have h4 : cmpP l[i] q < 0 := by
          have := List.pairwise_iff_getElem.1 hs i (i + j) hil (List.getElem?_eq_some_iff.1 hj).1 (by omega)
          rwa [(List.getElem?_eq_some_iff.1 hj).2] at this
        exact h3 h4
    have h3 : cmpP q p ≠ 0 := fun e => h2 (cmpP_zero.1 e)
    have := good_cmpP.sgn p q
    omega
  have hl : ∀ q ∈ l.take i, cmpP q p < 0 := fun q hq => by
    obtain ⟨j, hj⟩ := List.getElem?_of_mem hq
    rw [List.getElem?_take] at hj
    split at hj
    · exact h.low j q (by assumption) hj
    · cases hj
  unfold Sorted at hs ⊢
  rw [e, List.pairwise_append] at hs
  rw [List.pairwise_append]
  refine ⟨hs.1, List.pairwise_cons.2 ⟨hh, hs.2.1⟩, fun a ha b hb => ?_⟩
  rcases List.mem_cons.1 hb with rfl | hb
  · exact hl a ha
  · exact hs.2.2 a ha b hb
theorem cut_mem {l : List Pr} {p : Pr} (i : Nat) (q : Pr) : q ∈ l.take i ++ p :: l.drop i ↔ q = p ∨ q ∈ l := by
  conv => rhs; rw [← List.take_append_drop i l]
  simp only [List.mem_append, List.mem_cons]
  constructor
  · rintro (h | h | h)
    · exact .inr (.inl h)
    · exact .inl h
    · exact .inr (.inr h)
  · rintro (h | h | h)
    · exact .inr (.inl h)
    · exact .inl h
    · exact .inr (.inr h)
theorem rowP_cells {w : World} {g : Nat} {cur : Array Value} {l : List Pr} (hb : w.heap[g]? = some (.cells cur 48 (0, 0))) (ht : cur.toList.take (l.length * 8) = l.flatMap cP) {j : Nat} {q : Pr} (hj : l[j]? = some q) {i : Nat} {u : Value} (hi : (cP q)[i]? = some u) : w.cell? ⟨g, j * 8 + i, none⟩ = some u := by
  have h8 : i < 8 := by have := (List.getElem?_eq_some_iff.1 hi).1; rwa [cP_len] at this
  have hjl := (List.getElem?_eq_some_iff.1 hj).1
  have h1 : (l.flatMap cP)[j * 8 + i]? = some u := by
    rw [flat_get, show (j * 8 + i) / 8 = j by omega, show (j * 8 + i) % 8 = i by omega, hj]
    exact hi
  rw [← ht, List.getElem?_take_of_lt (by omega)] at h1
  simpa [World.cell?, hb] using h1
theorem rowP8 {w : World} {g : Nat} {cur : Array Value} {l : List Pr} (hb : w.heap[g]? = some (.cells cur 48 (0, 0))) (ht : cur.toList.take (l.length * 8) = l.flatMap cP) {j : Nat} {x y : Tm} (hj : l[j]? = some (x, y)) :
    w.cell? ⟨g, j * 8, none⟩ = some (.int .i64 x.kind) ∧ w.cell? ⟨g, j * 8 + 1, none⟩ = some (.string x.s) ∧ w.cell? ⟨g, j * 8 + 2, none⟩ = some (.string x.lang) ∧ w.cell? ⟨g, j * 8 + 3, none⟩ = some (.string x.ty) ∧
    w.cell? ⟨g, j * 8 + 4, none⟩ = some (.int .i64 y.kind) ∧ w.cell? ⟨g, j * 8 + 5, none⟩ = some (.string y.s) ∧ w.cell? ⟨g, j * 8 + 6, none⟩ = some (.string y.lang) ∧ w.cell? ⟨g, j * 8 + 7, none⟩ = some (.string y.ty) :=
  ⟨rowP_cells hb ht hj (i := 0) rfl, rowP_cells hb ht hj (i := 1) rfl, rowP_cells hb ht hj (i := 2) rfl, rowP_cells hb ht hj (i := 3) rfl, rowP_cells hb ht hj (i := 4) rfl, rowP_cells hb ht hj (i := 5) rfl, rowP_cells hb ht hj (i := 6) rfl, rowP_cells hb ht hj (i := 7) rfl⟩
theorem row_shape {w : World} {base n : Nat} {v : Value} {xs : List Value} (h : w.ownsRow base 48 8 v (n + 1) xs) : ∃ g cap cur, v = .slice (some ⟨g, 0, none⟩) (n + 1) cap ∧ base ≤ g ∧ w.heap[g]? = some (.cells cur 48 (0, 0)) ∧ n + 1 ≤ cap ∧ cap ≤ maxLen ∧ cur.size = cap * 8 ∧ cur.toList.take ((n + 1) * 8) = xs := by
  rcases h.2 with ⟨_, h0⟩ | h
  · omega
  · exact h
theorem sz48 : (Try.prog.info? 48).map (·.size) = some 8 := by kernel_rfl
theorem drop_len {l : List Pr} {i : Nat} (h : i ≤ l.length) : ((l.drop i).flatMap cP).length = Nat.min (l.length + 1 - i) (l.length - i) * 8 := by
  rw [flat_len, List.length_drop]
  congr 1
  show _ = min _ _
  omega
theorem drop_one (l : List Pr) (i : Nat) : ∀ v ∈ (l.drop i).flatMap cP, v.oneCell' = true := fun v hv => by
  obtain ⟨p, _, hp⟩ := List.mem_flatMap.1 hv
  exact oneCP p v hp
theorem flat_drop (l : List Pr) (i : Nat) : (l.drop i).flatMap cP = (l.flatMap cP).drop (i * 8) := by
  apply List.ext_getElem?
  intro j
  rw [List.getElem?_drop, flat_get, flat_get, List.getElem?_drop, show (i * 8 + j) / 8 = i + j / 8 by omega, show (i * 8 + j) % 8 = j % 8 by omega]
theorem copy_src {w : World} {g : Nat} {cur : Array Value} {l : List Pr} {ys : List Value} {i : Nat} (hb : w.heap[g]? = some (.cells cur 48 (0, 0))) (ht : cur.toList.take ((l.length + 1) * 8) = l.flatMap cP ++ ys) :
    ∀ j v, ((l.drop i).flatMap cP)[j]? = some v → w.drew.cell? ((⟨g, i * 8, none⟩ : Addr).add j) = some v := fun j v hj => by
  have e : (⟨g, i * 8, none⟩ : Addr).add j = ⟨g, i * 8 + j, none⟩ := by
    unfold Addr.add
    split <;> simp_all
  rw [e]
  rw [flat_drop, List.getElem?_drop] at hj
  have hlt := (List.getElem?_eq_some_iff.1 hj).1
  have h1 : (l.flatMap cP ++ ys)[i * 8 + j]? = some v := by rw [List.getElem?_append_left hlt]; exact hj
  rw [flat_len] at hlt
  rw [← ht, List.getElem?_take_of_lt (by omega)] at h1
  have hb' : w.drew.heap[g]? = some (.cells cur 48 (0, 0)) := hb
  simpa [World.cell?, hb'] using h1
theorem copy_fit {cur : Array Value} {l : List Pr} {i cap : Nat} (h : cur.size = cap * 8) (h2 : l.length + 1 ≤ cap) (hi : i ≤ l.length) : (i + 1) * 8 + ((l.drop i).flatMap cP).length ≤ cur.toList.length := by
  rw [flat_len, List.length_drop]
  have : cur.toList.length = cap * 8 := by rw [← h]; rfl
  omega
theorem flat_take (l : List Pr) (i : Nat) : (l.take i).flatMap cP = (l.flatMap cP).take (i * 8) := by
  apply List.ext_getElem?
  intro j
  rw [List.getElem?_take, flat_get, flat_get, List.getElem?_take]
  by_cases h : j < i * 8
  · rw [if_pos h, if_pos (by omega)]
  · rw [if_neg h, if_neg (by omega)]; rfl
theorem splice_row {C ys : List Value} {l : List Pr} {p : Pr} {i : Nat} (hi : i ≤ l.length) (hC : C.take ((l.length + 1) * 8) = l.flatMap cP ++ ys) (hlen : (l.length + 1) * 8 ≤ C.length) :
    (splice C ((i + 1) * 8) ((l.drop i).flatMap cP)).take (i * 8) ++ cP p ++ (splice C ((i + 1) * 8) ((l.drop i).flatMap cP)).drop (i * 8 + 8) = (l.take i ++ p :: l.drop i).flatMap cP ++ C.drop ((l.length + 1) * 8) := by
  have hD : ((l.drop i).flatMap cP).length = (l.length - i) * 8 := by rw [flat_len, List.length_drop]
  have hT : (C.take ((i + 1) * 8)).length = (i + 1) * 8 := by rw [List.length_take]; omega
  have e1 : (splice C ((i + 1) * 8) ((l.drop i).flatMap cP)).take (i * 8) = (l.take i).flatMap cP := by
    unfold splice
    rw [List.take_append_of_le_length (by rw [hT]; omega), List.take_take, show min (i * 8) ((i + 1) * 8) = i * 8 by omega, flat_take]
    have e : C.take (i * 8) = (C.take ((l.length + 1) * 8)).take (i * 8) := by rw [List.take_take, show min (i * 8) ((l.length + 1) * 8) = i * 8 by omega]
    rw [e, hC, List.take_append_of_le_length (by rw [flat_len]; omega)]
  have e2 : (splice C ((i + 1) * 8) ((l.drop i).flatMap cP)).drop (i * 8 + 8) = (l.drop i).flatMap cP ++ C.drop ((l.length + 1) * 8) := by
    unfold splice
    rw [show i * 8 + 8 = (C.take ((i + 1) * 8)).length by rw [hT]; omega, List.drop_left, hD]
    congr 2
    omega
  rw [e1, e2, List.flatMap_append, List.flatMap_cons]
  simp [List.append_assoc]
theorem put_end {w wr w2 w4 : World} {base g2 cap2 i nq : Nat} {v0 : Value} {cur2 : Array Value} {l : List Pr} {x y : Tm} {ob : Obj} {ys : List Value} (hi : i ≤ l.length) (hsort : Sorted (l.take i ++ (x, y) :: l.drop i)) (hbw : Below w.heap.size w wr) (hgrow : ((wr.drewN nq).alloc ob).grownBy w2 v0.ownBlock)
    (hat : some g2 = v0.ownBlock ∨ w.heap.size < g2) (q0 : base ≤ g2) (q1 : w2.heap[g2]? = some (.cells cur2 48 (0, 0))) (q2 : l.length + 1 ≤ cap2) (q3 : cap2 ≤ maxLen) (q4 : cur2.size = cap2 * 8) (q5 : cur2.toList.take ((l.length + 1) * 8) = l.flatMap cP ++ ys)
    (hw4 : Hid (w4.heap[g2]? = some (.cells (splice cur2.toList ((i + 1) * 8) ((l.drop i).flatMap cP)).toArray 48 (0, 0)))) (hgw4 : w2.drew.grownBy w4 (some g2)) :
    ∃ (v' : Value) (l' : List Pr), Ending.returned (.slice (some ⟨g2, 0, none⟩) (l.length + 1) cap2) = .returned v' ∧ Sorted l' ∧ (∀ q, q ∈ l' ↔ q = (x, y) ∨ q ∈ l) ∧
      RowP base (w4.setRow g2 ((splice cur2.toList ((i + 1) * 8) ((l.drop i).flatMap cP)).take (i * 8) ++ cP (x, y) ++ (splice cur2.toList ((i + 1) * 8) ((l.drop i).flatMap cP)).drop (i * 8 + 8)).toArray) v' l' ∧
      w.grownBy (w4.setRow g2 ((splice cur2.toList ((i + 1) * 8) ((l.drop i).flatMap cP)).take (i * 8) ++ cP (x, y) ++ (splice cur2.toList ((i + 1) * 8) ((l.drop i).flatMap cP)).drop (i * 8 + 8)).toArray) v0.ownBlock := by
  have hcl : cur2.toList.length = cap2 * 8 := by rw [← q4]; rfl
  have hlen : (l.length + 1) * 8 ≤ cur2.toList.length := by omega
  rw [splice_row hi q5 hlen]
  have hll : (l.take i ++ (x, y) :: l.drop i).length = l.length + 1 := by simp; omega
  refine ⟨_, l.take i ++ (x, y) :: l.drop i, rfl, hsort, fun q => cut_mem i q, ?_, ?_⟩
  · unfold RowP
    rw [hll]
    refine ⟨by rw [flat_len, hll], .inr ⟨g2, cap2, _, rfl, q0, setRow_heap w4 g2 _ _ 48 _ hw4, q2, q3, ?_, ?_⟩⟩
    · simp only [List.size_toArray, List.length_append, flat_len, hll, List.length_drop]
      omega
    · rw [List.take_append_of_le_length (by rw [flat_len, hll]; exact Nat.le_refl _), List.take_of_length_le (by rw [flat_len, hll]; exact Nat.le_refl _)]
  · have hsz2 := hgrow.size
    have hsz4 := hgw4.size
    have hb := hbw.size
    refine ⟨hgw4.os.trans (hgrow.os.trans hbw.os), hgw4.tape.trans (hgrow.tape.trans hbw.tape), hgw4.output.trans (hgrow.output.trans hbw.output), ?_, fun k hk hne => ?_⟩
    · simp only [World.size_alloc] at hsz2
      have e1 : (wr.drewN nq).heap.size = wr.heap.size := rfl
      have e2 : w2.drew.heap.size = w2.heap.size := rfl
      have e3 : (w4.setRow g2 ((l.take i ++ (x, y) :: l.drop i).flatMap cP ++ cur2.toList.drop ((l.length + 1) * 8)).toArray).heap.size = w4.heap.size := by simp [World.setRow]
      omega
    · have e1 : (wr.drewN nq).heap.size = wr.heap.size := rfl
      have h1 : k ≠ g2 := fun e => by
        rcases hat with h | h
        · exact hne (by rw [e, h])
        · omega
      simp only [World.size_alloc] at hsz2
      rw [setRow_other w4 g2 k _ (fun e => h1 e)]
      refine (hgw4.block k (by show k < w2.heap.size; omega) (fun e => h1 (Option.some.inj e))).trans ?_
      refine (hgrow.block k (by simp only [World.size_alloc]; omega) hne).trans ?_
      exact (Below.heap_alloc _ _ _ (by omega)).trans (hbw.block k hk)
def PutOk (base : Nat) (v : Value) (l : List Pr) (x y : Tm) (w : World) : Prop :=
  Calls Try.prog 32 #[v, .agg #[.int .i64 x.kind, .string x.s, .string x.lang, .string x.ty, .int .i64 y.kind, .string y.s, .string y.lang, .string y.ty]] w fun e w' => ∃ (v' : Value) (l' : List Pr), e = .returned v' ∧ Sorted l' ∧ (∀ q, q ∈ l' ↔ q = (x, y) ∨ q ∈ l) ∧ RowP base w' v' l' ∧ w.grownBy w' v.ownBlock
set_option maxHeartbeats 1000000 in
theorem put_some (base g cap : Nat) (cur : Array Value) (l : List Pr) (x y : Tm) (w : World) (hg : base ≤ g) (hgb : w.heap[g]? = some (.cells cur 48 (0, 0))) (r1 : l.length ≤ cap) (r2 : cap ≤ maxLen) (r3 : cur.size = cap * 8) (r4 : cur.toList.take (l.length * 8) = l.flatMap cP) (hb : base ≤ w.heap.size) (hs : Sorted l) (hn : l.length ≤ 1000000000) :
    PutOk base (.slice (some ⟨g, 0, none⟩) l.length cap) l x y w := by
  unfold PutOk
  have hgl : g < w.heap.size := (Array.getElem?_eq_some_iff.1 hgb).1
  have hB : Below w.heap.size w (w.alloc (.cells #[.int .i64 x.kind, .string x.s, .string x.lang, .string x.ty, .int .i64 y.kind, .string y.s, .string y.lang, .string y.ty] 48)) := (Below.refl _ w).alloc (Nat.le_refl _) _
  have hbox := World.alloc_heap_new w (.cells #[.int .i64 x.kind, .string x.s, .string x.lang, .string x.ty, .int .i64 y.kind, .string y.s, .string y.lang, .string y.ty] 48)
  go_enter Try.func32, Try.ntmps32
  go_wp2
  go_loopg [5, 6] l.length (fun gf lo hi wx => ∃ (i j : Nat), lo = .int .i64 (i : Int) ∧ hi = .int .i64 (j : Int) ∧ i ≤ j ∧ j ≤ l.length ∧ (∀ k q, k < i → l[k]? = some q → cmpP q (x, y) < 0) ∧ (∀ k q, j ≤ k → l[k]? = some q → ¬ cmpP q (x, y) < 0) ∧
    Below w.heap.size w wx ∧ wx.heap[w.heap.size]? = some (.cells #[.int .i64 x.kind, .string x.s, .string x.lang, .string x.ty, .int .i64 y.kind, .string y.s, .string y.lang, .string y.ty] 48) ∧ j - i ≤ gf)
  case atStart => exact ⟨0, l.length, rfl, rfl, Nat.zero_le _, Nat.le_refl _, fun k q h => absurd h (Nat.not_lt_zero _), fun k q h h2 => absurd (List.getElem?_eq_some_iff.1 h2).1 (by omega), hB, hbox, by omega⟩
  case round =>
    obtain ⟨i, j, rfl, rfl, hij, hjl, hlow, hhigh, hbw, hbx, hfu⟩ := hrel
    clear hB hbox
    obtain ⟨b0, b1, b2, b3, b4, b5, b6, b7⟩ := box8 hbx
    by_cases hlt : i < j
    · have hltI : (i : Int) < (j : Int) := by omega
      obtain ⟨g', rfl⟩ : ∃ g', gk = g' + 1 := ⟨gk - 1, by omega⟩
      obtain ⟨m, hm, hm1, hm2⟩ : ∃ m : Nat, ((i : Int) + (j : Int)) / 2 = (m : Int) ∧ i ≤ m ∧ m < j := ⟨(i + j) / 2, by omega, by omega, by omega⟩
      have hml : m < l.length := by omega
      have hmI : (m : Int) < (l.length : Int) := by omega
      obtain ⟨⟨u, v⟩, hq⟩ : ∃ q, l[m]? = some q := ⟨l[m], List.getElem?_eq_getElem hml⟩
      obtain ⟨k0, k1, k2, k3, k4, k5, k6, k7⟩ := rowP8 ((hbw.block g hgl).trans hgb) r4 hq
      have hle : ∀ W, Calls Try.prog 53 #[.agg #[.int .i64 u.kind, .string u.s, .string u.lang, .string u.ty, .int .i64 v.kind, .string v.s, .string v.lang, .string v.ty], .agg #[.int .i64 x.kind, .string x.s, .string x.lang, .string x.ty, .int .i64 y.kind, .string y.s, .string y.lang, .string y.ty]] W fun e w' => e = .returned (.bool (lessP (u, v) (x, y))) ∧ Below W.heap.size W w' := less_calls (u, v) (x, y)
      have hmon : ∀ k q, k < m → l[k]? = some q → cmpP q (u, v) < 0 := fun k q hk hkq => by
        have := List.pairwise_iff_getElem.1 hs k m (by omega) hml hk
        rwa [(List.getElem?_eq_some_iff.1 hkq).2, (List.getElem?_eq_some_iff.1 hq).2] at this
      have hmon2 : ∀ k q, m < k → l[k]? = some q → cmpP (u, v) q < 0 := fun k q hk hkq => by
        have hkl := (List.getElem?_eq_some_iff.1 hkq).1
        have := List.pairwise_iff_getElem.1 hs m k hml hkl hk
        rwa [(List.getElem?_eq_some_iff.1 hkq).2, (List.getElem?_eq_some_iff.1 hq).2] at this
      by_cases hc : cmpP (u, v) (x, y) < 0
      · have hlp : lessP (u, v) (x, y) = true := decide_eq_true hc
        have hlow' : ∀ k q, k < m + 1 → l[k]? = some q → cmpP q (x, y) < 0 := fun k q hk hkq => by
          by_cases e : k = m
          · subst e; rw [hq] at hkq; cases hkq; exact hc
          · exact lt_trans (hmon k q (by omega) hkq) hc
        clear hmon hmon2 hlow
        go_wp2
        go_region_with (go_at_call 53; refine (hle _).mono ?_; rw [hlp]; rintro e w1 ⟨rfl, h1⟩)
        all_goals
          have hb1 : Below w.heap.size w w1 := hbw.drew.trans (h1.mono hbw.size)
          have hbx1 := (h1.block w.heap.size (by have := hbw.size; have := (Array.getElem?_eq_some_iff.1 hbx).1; simpa using this)).trans hbx
          go_wp2
          go_roundg g'
          case measure => omega
          case rel => exact ⟨m + 1, j, congrArg (Value.int .i64) (by omega), rfl, by omega, hjl, hlow', hhigh, hb1, hbx1, by omega⟩
      · have hlp : lessP (u, v) (x, y) = false := decide_eq_false hc
        have hhigh' : ∀ k q, m ≤ k → l[k]? = some q → ¬ cmpP q (x, y) < 0 := fun k q hk hkq => by
          by_cases e : k = m
          · subst e; rw [hq] at hkq; cases hkq; exact hc
          · exact fun h => hc (lt_trans (hmon2 k q (by omega) hkq) h)
        clear hmon hmon2 hhigh
        go_wp2
        go_region_with (go_at_call 53; refine (hle _).mono ?_; rw [hlp]; rintro e w1 ⟨rfl, h1⟩)
        all_goals
          have hb1 : Below w.heap.size w w1 := hbw.drew.trans (h1.mono hbw.size)
          have hbx1 := (h1.block w.heap.size (by have := hbw.size; have := (Array.getElem?_eq_some_iff.1 hbx).1; simpa using this)).trans hbx
          go_wp2
          go_roundg g'
          case measure => omega
          case rel => exact ⟨i, m, rfl, rfl, by omega, by omega, hlow, hhigh', hb1, hbx1, by omega⟩
    · have hltI : ¬ (i : Int) < (j : Int) := by omega
      have hcut : Cut l (x, y) i := ⟨by omega, hlow, fun k q hk hq => hhigh k q (by omega) hq⟩
      clear hlow hhigh
      have hown : wr.ownsRow base 48 8 (.slice (some ⟨g, 0, none⟩) l.length cap) l.length (l.flatMap cP) := ⟨by rw [flat_len], .inr ⟨g, cap, cur, rfl, hg, (hbw.block g hgl).trans hgb, r1, r2, r3, r4⟩⟩
      obtain ⟨i0, hi, hz0, hz1, hz2⟩ := info_parts info48
      by_cases hfound : l[i]? = some (x, y)
      · have hil := (List.getElem?_eq_some_iff.1 hfound).1
        have hilI : (i : Int) < (l.length : Int) := by omega
        obtain ⟨k0, k1, k2, k3, k4, k5, k6, k7⟩ := rowP8 ((hbw.block g hgl).trans hgb) r4 hfound
        have heq := fun W => eqP_runW (x, y) (x, y) W
        dsimp only [encP] at heq
        simp only [decide_true] at heq
        clear hcut
        go_wp2
        go_quiet (fail)
        go_wp2
        go_ret
        exact ⟨_, l, rfl, hs, fun q => ⟨.inr, fun h => h.elim (fun e => by rw [e]; exact List.mem_of_getElem? hfound) id⟩, hown, ⟨hbw.os, hbw.tape, hbw.output, hbw.size, fun k hk _ => hbw.block k hk⟩⟩
      · have hsort := cut_in hcut hs hfound
        have hmem := fun q => cut_mem (l := l) (p := (x, y)) i q
        have hbk : base ≤ wr.heap.size := Nat.le_trans hb hbw.size
        have hownA : ∀ nq ob, ((wr.drewN nq).alloc ob).ownsRow base 48 8 (.slice (some ⟨g, 0, none⟩) l.length cap) l.length (l.flatMap cP) := fun nq ob => World.ownsRow.alloc (w := wr.drewN nq) hown ob
        by_cases hil : i < l.length
        · have hilI : (i : Int) < (l.length : Int) := by omega
          obtain ⟨⟨u, v⟩, hq⟩ : ∃ q, l[i]? = some q := ⟨l[i], List.getElem?_eq_getElem hil⟩
          obtain ⟨k0, k1, k2, k3, k4, k5, k6, k7⟩ := rowP8 ((hbw.block g hgl).trans hgb) r4 hq
          have heq := fun W => eqP_runW (u, v) (x, y) W
          dsimp only [encP] at heq
          have hne : ¬ (u, v) = (x, y) := fun e => hfound (by rw [hq, e])
          simp only [hne, decide_false] at heq
          clear hfound
          go_wp2
          go_quiet (fail)
          clear heq k0 k1 k2 k3 k4 k5 k6 k7
          go_wp2_with (at_builtin; refine wpList_append_own_at _ rfl (.tmp 39) (.tmp 41) 31 rfl base 48 i0 _ 8 112 und31 hi hz0 hz1 hz2 rfl (by decide) _ l.length (l.flatMap cP) rfl (hownA _ _) ⟨wr.heap.size, 0, none⟩ 1 1 [.int .i64 x.kind, .string x.s, .string x.lang, .string x.ty, .int .i64 y.kind, .string y.s, .string y.lang, .string y.ty] rfl rfl (cell_new _ _ _) (oneP x y) (by unfold maxLen; omega) (by omega) (by simp; omega) ?_; intro v' w2 hown' hgrow hnil hat; obtain ⟨g2, cap2, cur2, rfl, q0, q1, q2, q3, q4, q5⟩ := row_shape hown')
          have hil1 : i + 1 ≤ l.length + 1 := by omega
          have hil2 : i ≤ l.length + 1 := by omega
          have hcc : i + 1 < cap2 := by omega
          have hwi : IntKind.i64.wrap ((i : Int) + 1) = ((i + 1 : Nat) : Int) := by unfold IntKind.wrap; simp [IntKind.bits, IntKind.signed]; omega
          have hc1 : ((i + 1 : Nat) : Int) ≤ ((l.length + 1 : Nat) : Int) := by omega
          have hc2 : (i : Int) ≤ ((l.length + 1 : Nat) : Int) := by omega
          have hc3 : (i + 1) ≤ l.length + 1 := by omega
          have hc4 : ¬ cap2 = i + 1 := by omega
          have hc5 : ¬ cap2 = i := by omega
          have hc6 : (0 : Int) ≤ (i : Int) + 1 := by omega
          have hc7 : i ≤ l.length := by omega
          have hc8 : (i : Int) ≤ (l.length : Int) + 1 := by omega
          have hat2 : some g2 = (Value.slice (some ⟨g, 0, none⟩) l.length cap).ownBlock ∨ w.heap.size < g2 := by
            rcases hat with h | h
            · exact .inl h
            · refine .inr ?_
              have := hbw.size
              simp [Value.ownBlock] at h
              omega
          have hg2n : ¬ g2 = w.heap.size := fun e => by
            rcases hat2 with h | h
            · simp [Value.ownBlock] at h; omega
            · omega
          have hbx2 := (hgrow.block w.heap.size (by have := (Array.getElem?_eq_some_iff.1 hbx).1; simp; omega) (fun e => by have e' : w.heap.size = g := Option.some.inj e; omega)).trans ((Below.heap_alloc _ _ _ (Array.getElem?_eq_some_iff.1 hbx).1).trans hbx)
          have z1 : w2.drew.heap[g2]? = some (.cells cur2.toList.toArray 48 (0, 0)) := by rw [Array.toArray_toList]; exact q1
          have z2 := drop_len hc7
          have z3 := copy_src (i := i) q1 q5
          have z4 := copy_fit q4 q2 hc7
          have z5 := drop_one l i
          go_region_law (refine step_copyK (P := Try.prog) 8 (by decide) ?_ (.tmp 46) (.tmp 49) 31 31 ?_ 48 und31 sz48 (some ⟨g2, (i + 1) * 8, none⟩) (some ⟨g2, i * 8, none⟩) (l.length - i) (cap2 - (i + 1)) (l.length + 1 - i) (cap2 - i) ?_ ?_ g2 ((i + 1) * 8) cur2.toList 48 z1 ((l.drop i).flatMap cP) z2 (fun _ => ⟨rfl, ⟨g2, i * 8, none⟩, rfl, z3⟩) z4 z5 ?_; exact rfl; exact rfl; go_simp; go_simp; intro w4 hw4 hgw4)
          all_goals
            have hbx4 := (hgw4.block w.heap.size (show w.heap.size < w2.heap.size from (Array.getElem?_eq_some_iff.1 hbx2).1) (fun e => hg2n (Option.some.inj e).symm)).trans hbx2
            obtain ⟨b0, b1, b2, b3, b4, b5, b6, b7⟩ := box8 hbx4
            have hst := run_storeCells_at Try.prog g2 (i * 8) 48 [.int .i64 x.kind, .string x.s, .string x.lang, .string x.ty, .int .i64 y.kind, .string y.s, .string y.lang, .string y.ty] 0 _ w4 hw4.out (by rw [List.size_toArray, length_splice _ _ _ z4]; simp; omega) (oneP x y)
            have hend := put_end (x := x) (y := y) (v0 := .slice (some ⟨g, 0, none⟩) l.length cap) hc7 hsort hbw hgrow hat2 q0 q1 q2 q3 q4 q5 hw4 hgw4
            obtain ⟨W5, hW5⟩ : ∃ W5, w4.setRow g2 ((splice cur2.toList ((i + 1) * 8) ((l.drop i).flatMap cP)).take (i * 8) ++ cP (x, y) ++ (splice cur2.toList ((i + 1) * 8) ((l.drop i).flatMap cP)).drop (i * 8 + 8)).toArray = W5 := ⟨_, rfl⟩
            rw [hW5] at hend
            replace hst := hst.trans (congrArg (Result.ok ()) hW5)
            obtain ⟨v', l', e1, e2, e3, e4, e5⟩ := hend
            clear hat hat2 hgrow hnil hown' hgw4 hw4 hW5 z1 z2 z3 z4 z5
            go_wp2_with (refine wpl_storeK _ rfl 48 (.tmp 54) (.tmp 53) rfl rfl ⟨g2, i * 8, none⟩ rfl (.agg #[.int .i64 x.kind, .string x.s, .string x.lang, .string x.ty, .int .i64 y.kind, .string y.s, .string y.lang, .string y.ty]) rfl 8 sz48 rfl _ hst ?_)
            go_ret
            exact ⟨v', l', e1, e2, e3, e4, e5⟩
        · have hieq : i = l.length := by omega
          have hjeq : j = l.length := by omega
          clear hfound hlt hltI hil hij hjl
          have hself : ¬ (l.length : Int) < (l.length : Int) := by omega
          rw [hieq, hjeq]
          go_wp2
          go_quiet (fail)
          go_wp2_with (at_builtin; refine wpList_append_own_at _ rfl (.tmp 39) (.tmp 41) 31 rfl base 48 i0 _ 8 112 und31 hi hz0 hz1 hz2 rfl (by decide) _ l.length (l.flatMap cP) rfl (hownA _ _) ⟨wr.heap.size, 0, none⟩ 1 1 [.int .i64 x.kind, .string x.s, .string x.lang, .string x.ty, .int .i64 y.kind, .string y.s, .string y.lang, .string y.ty] rfl rfl (cell_new _ _ _) (oneP x y) (by unfold maxLen; omega) (by omega) (by simp; omega) ?_; intro v' w2 hown' hgrow hnil hat; obtain ⟨g2, cap2, cur2, rfl, q0, q1, q2, q3, q4, q5⟩ := row_shape hown')
          have hc7 : i ≤ l.length := by omega
          have hwi : IntKind.i64.wrap ((l.length : Int) + 1) = ((l.length + 1 : Nat) : Int) := by unfold IntKind.wrap; simp [IntKind.bits, IntKind.signed]; omega
          have hc6 : (0 : Int) ≤ (l.length : Int) + 1 := by omega
          have hc5 : ¬ cap2 = l.length := by omega
          have hc9 : ((l.length : Nat) : Int) ≤ (l.length : Int) + 1 := by omega
          have hat2 : some g2 = (Value.slice (some ⟨g, 0, none⟩) l.length cap).ownBlock ∨ w.heap.size < g2 := by
            rcases hat with h | h
            · exact .inl h
            · refine .inr ?_
              have := hbw.size
              simp [Value.ownBlock] at h
              omega
          have hg2n : ¬ g2 = w.heap.size := fun e => by
            rcases hat2 with h | h
            · simp [Value.ownBlock] at h; omega
            · omega
          have hbx2 := (hgrow.block w.heap.size (by have := (Array.getElem?_eq_some_iff.1 hbx).1; simp; omega) (fun e => by have e' : w.heap.size = g := Option.some.inj e; omega)).trans ((Below.heap_alloc _ _ _ (Array.getElem?_eq_some_iff.1 hbx).1).trans hbx)
          have z1 : w2.drew.heap[g2]? = some (.cells cur2.toList.toArray 48 (0, 0)) := by rw [Array.toArray_toList]; exact q1
          have z2 : ((l.drop i).flatMap cP).length = Nat.min 1 0 * 8 := by rw [hieq]; simp
          have z3 : ¬ 0 < ((l.drop i).flatMap cP).length := by rw [z2]; decide
          have z4 := copy_fit q4 q2 hc7
          have z5 := drop_one l i
          by_cases hcc : cap2 = l.length + 1
          · have hcc2 : cap2 - (l.length + 1) = 0 := by omega
            go_region_law (refine step_copyK (P := Try.prog) 8 (by decide) ?_ (.tmp 46) (.tmp 49) 31 31 ?_ 48 und31 sz48 (some ⟨g2, 0, none⟩) (some ⟨g2, l.length * 8, none⟩) 0 (cap2 - (l.length + 1)) 1 (cap2 - l.length) ?_ ?_ g2 ((i + 1) * 8) cur2.toList 48 z1 ((l.drop i).flatMap cP) z2 (fun h => absurd h z3) z4 z5 ?_; exact rfl; exact rfl; go_simp; go_simp; intro w4 hw4 hgw4)
            all_goals
              have hbx4 := (hgw4.block w.heap.size (show w.heap.size < w2.heap.size from (Array.getElem?_eq_some_iff.1 hbx2).1) (fun e => hg2n (Option.some.inj e).symm)).trans hbx2
              obtain ⟨b0, b1, b2, b3, b4, b5, b6, b7⟩ := box8 hbx4
              have hst := run_storeCells_at Try.prog g2 (i * 8) 48 [.int .i64 x.kind, .string x.s, .string x.lang, .string x.ty, .int .i64 y.kind, .string y.s, .string y.lang, .string y.ty] 0 _ w4 hw4.out (by rw [List.size_toArray, length_splice _ _ _ z4]; simp; omega) (oneP x y)
              have hend := put_end (x := x) (y := y) (v0 := .slice (some ⟨g, 0, none⟩) l.length cap) hc7 hsort hbw hgrow hat2 q0 q1 q2 q3 q4 q5 hw4 hgw4
              obtain ⟨W5, hW5⟩ : ∃ W5, w4.setRow g2 ((splice cur2.toList ((i + 1) * 8) ((l.drop i).flatMap cP)).take (i * 8) ++ cP (x, y) ++ (splice cur2.toList ((i + 1) * 8) ((l.drop i).flatMap cP)).drop (i * 8 + 8)).toArray = W5 := ⟨_, rfl⟩
              rw [hW5] at hend
              replace hst := hst.trans (congrArg (Result.ok ()) hW5)
              rw [hieq] at hst
              obtain ⟨v', l', e1, e2, e3, e4, e5⟩ := hend
              clear hat hat2 hgrow hnil hown' hgw4 hw4 hW5 z1 z2 z3 z4 z5
              go_wp2_with (refine wpl_storeK _ rfl 48 (.tmp 54) (.tmp 53) rfl rfl ⟨g2, l.length * 8, none⟩ rfl (.agg #[.int .i64 x.kind, .string x.s, .string x.lang, .string x.ty, .int .i64 y.kind, .string y.s, .string y.lang, .string y.ty]) rfl 8 sz48 rfl _ hst ?_)
              go_ret
              rw [hcc] at e1
              exact ⟨v', l', e1, e2, e3, e4, e5⟩
          · skip
            go_region_law (refine step_copyK (P := Try.prog) 8 (by decide) ?_ (.tmp 46) (.tmp 49) 31 31 ?_ 48 und31 sz48 (some ⟨g2, (l.length + 1) * 8, none⟩) (some ⟨g2, l.length * 8, none⟩) 0 (cap2 - (l.length + 1)) 1 (cap2 - l.length) ?_ ?_ g2 ((i + 1) * 8) cur2.toList 48 z1 ((l.drop i).flatMap cP) z2 (fun h => absurd h z3) z4 z5 ?_; exact rfl; exact rfl; go_simp; go_simp; intro w4 hw4 hgw4)
            all_goals
              have hbx4 := (hgw4.block w.heap.size (show w.heap.size < w2.heap.size from (Array.getElem?_eq_some_iff.1 hbx2).1) (fun e => hg2n (Option.some.inj e).symm)).trans hbx2
              obtain ⟨b0, b1, b2, b3, b4, b5, b6, b7⟩ := box8 hbx4
              have hst := run_storeCells_at Try.prog g2 (i * 8) 48 [.int .i64 x.kind, .string x.s, .string x.lang, .string x.ty, .int .i64 y.kind, .string y.s, .string y.lang, .string y.ty] 0 _ w4 hw4.out (by rw [List.size_toArray, length_splice _ _ _ z4]; simp; omega) (oneP x y)
              have hend := put_end (x := x) (y := y) (v0 := .slice (some ⟨g, 0, none⟩) l.length cap) hc7 hsort hbw hgrow hat2 q0 q1 q2 q3 q4 q5 hw4 hgw4
              obtain ⟨W5, hW5⟩ : ∃ W5, w4.setRow g2 ((splice cur2.toList ((i + 1) * 8) ((l.drop i).flatMap cP)).take (i * 8) ++ cP (x, y) ++ (splice cur2.toList ((i + 1) * 8) ((l.drop i).flatMap cP)).drop (i * 8 + 8)).toArray = W5 := ⟨_, rfl⟩
              rw [hW5] at hend
              replace hst := hst.trans (congrArg (Result.ok ()) hW5)
              rw [hieq] at hst
              obtain ⟨v', l', e1, e2, e3, e4, e5⟩ := hend
              clear hat hat2 hgrow hnil hown' hgw4 hw4 hW5 z1 z2 z3 z4 z5
              go_wp2_with (refine wpl_storeK _ rfl 48 (.tmp 54) (.tmp 53) rfl rfl ⟨g2, l.length * 8, none⟩ rfl (.agg #[.int .i64 x.kind, .string x.s, .string x.lang, .string x.ty, .int .i64 y.kind, .string y.s, .string y.lang, .string y.ty]) rfl 8 sz48 rfl _ hst ?_)
              go_ret
              exact ⟨v', l', e1, e2, e3, e4, e5⟩
set_option maxHeartbeats 1000000 in
theorem put_none (base : Nat) (x y : Tm) (w : World) (hb : base ≤ w.heap.size) : PutOk base (.slice none 0 0) [] x y w := by
  unfold PutOk
  have hB : Below w.heap.size w (w.alloc (.cells #[.int .i64 x.kind, .string x.s, .string x.lang, .string x.ty, .int .i64 y.kind, .string y.s, .string y.lang, .string y.ty] 48)) := (Below.refl _ w).alloc (Nat.le_refl _) _
  have hbox := World.alloc_heap_new w (.cells #[.int .i64 x.kind, .string x.s, .string x.lang, .string x.ty, .int .i64 y.kind, .string y.s, .string y.lang, .string y.ty] 48)
  go_enter Try.func32, Try.ntmps32
  go_wp2
  go_loopg [5, 6] 1 (fun gf lo hi wx => lo = .int .i64 0 ∧ hi = .int .i64 0 ∧ Below w.heap.size w wx ∧ wx.heap[w.heap.size]? = some (.cells #[.int .i64 x.kind, .string x.s, .string x.lang, .string x.ty, .int .i64 y.kind, .string y.s, .string y.lang, .string y.ty] 48) ∧ 0 < gf)
  case atStart => exact ⟨rfl, rfl, hB, hbox, by omega⟩
  case round =>
    obtain ⟨rfl, rfl, hbw, hbx, hfu⟩ := hrel
    clear hB hbox
    obtain ⟨b0, b1, b2, b3, b4, b5, b6, b7⟩ := box8 hbx
    obtain ⟨i0, hi, hz0, hz1, hz2⟩ := info_parts info48
    have hbk : base ≤ wr.heap.size := Nat.le_trans hb hbw.size
    have hownA : ∀ nq ob, ((wr.drewN nq).alloc ob).ownsRow base 48 8 (.slice none 0 0) 0 [] := fun nq ob => World.ownsRow_nil _ _ _ _
    have hsort : Sorted (([] : List Pr).take 0 ++ (x, y) :: ([] : List Pr).drop 0) := List.pairwise_singleton _ _
    go_wp2
    go_quiet (fail)
    go_wp2_with (at_builtin; refine wpList_append_own_at _ rfl (.tmp 39) (.tmp 41) 31 rfl base 48 i0 _ 8 112 und31 hi hz0 hz1 hz2 rfl (by decide) _ 0 [] rfl (hownA _ _) ⟨wr.heap.size, 0, none⟩ 1 1 [.int .i64 x.kind, .string x.s, .string x.lang, .string x.ty, .int .i64 y.kind, .string y.s, .string y.lang, .string y.ty] rfl rfl (cell_new _ _ _) (oneP x y) (by unfold maxLen; omega) (by omega) (by simp; omega) ?_; intro v' w2 hown' hgrow hnil hat; obtain ⟨g2, cap2, cur2, rfl, q0, q1, q2, q3, q4, q5⟩ := row_shape hown')
    have hwi : IntKind.i64.wrap 1 = 1 := by decide
    have hc7 : 0 ≤ ([] : List Pr).length := Nat.le_refl _
    have hc5 : ¬ cap2 = 0 := by omega
    have hat2 : some g2 = (Value.slice none 0 0).ownBlock ∨ w.heap.size < g2 := by
      rcases hat with h | h
      · exact .inl h
      · refine .inr ?_
        have := hbw.size
        simp [Value.ownBlock] at h
        omega
    have hg2n : ¬ g2 = w.heap.size := fun e => by
      rcases hat2 with h | h
      · cases h
      · omega
    have hbx2 := (hgrow.block w.heap.size (by have := (Array.getElem?_eq_some_iff.1 hbx).1; simp; omega) (fun e => by cases e)).trans ((Below.heap_alloc _ _ _ (Array.getElem?_eq_some_iff.1 hbx).1).trans hbx)
    have z1 : w2.drew.heap[g2]? = some (.cells cur2.toList.toArray 48 (0, 0)) := by rw [Array.toArray_toList]; exact q1
    have z2 : ((([] : List Pr).drop 0).flatMap cP).length = Nat.min 1 0 * 8 := rfl
    have z3 : ¬ 0 < ((([] : List Pr).drop 0).flatMap cP).length := by decide
    have z4 := copy_fit (l := []) (i := 0) q4 q2 (Nat.le_refl _)
    have z5 := drop_one [] 0
    by_cases hcc : cap2 = 1
    · have hcc2 : cap2 - 1 = 0 := by omega
      go_region_law (refine step_copyK (P := Try.prog) 8 (by decide) ?_ (.tmp 46) (.tmp 49) 31 31 ?_ 48 und31 sz48 (some ⟨g2, 0, none⟩) (some ⟨g2, 0, none⟩) 0 (cap2 - 1) 1 cap2 ?_ ?_ g2 ((0 + 1) * 8) cur2.toList 48 z1 ((([] : List Pr).drop 0).flatMap cP) z2 (fun h => absurd h z3) z4 z5 ?_; exact rfl; exact rfl; go_simp; go_simp; intro w4 hw4 hgw4)
      all_goals
        have hbx4 := (hgw4.block w.heap.size (show w.heap.size < w2.heap.size from (Array.getElem?_eq_some_iff.1 hbx2).1) (fun e => hg2n (Option.some.inj e).symm)).trans hbx2
        obtain ⟨b0, b1, b2, b3, b4, b5, b6, b7⟩ := box8 hbx4
        have hst := run_storeCells_at Try.prog g2 (0 * 8) 48 [.int .i64 x.kind, .string x.s, .string x.lang, .string x.ty, .int .i64 y.kind, .string y.s, .string y.lang, .string y.ty] 0 _ w4 hw4.out (by rw [List.size_toArray, length_splice _ _ _ z4]; simp; omega) (oneP x y)
        have hend := put_end (x := x) (y := y) (v0 := .slice none 0 0) (l := ([] : List Pr)) (i := 0) (ys := [.int .i64 x.kind, .string x.s, .string x.lang, .string x.ty, .int .i64 y.kind, .string y.s, .string y.lang, .string y.ty]) hc7 hsort hbw hgrow hat2 q0 q1 q2 q3 q4 q5 hw4 hgw4
        obtain ⟨W5, hW5⟩ : ∃ W5, w4.setRow g2 ((splice cur2.toList ((0 + 1) * 8) ((([] : List Pr).drop 0).flatMap cP)).take (0 * 8) ++ cP (x, y) ++ (splice cur2.toList ((0 + 1) * 8) ((([] : List Pr).drop 0).flatMap cP)).drop (0 * 8 + 8)).toArray = W5 := ⟨_, rfl⟩
        rw [hW5] at hend
        replace hst := hst.trans (congrArg (Result.ok ()) hW5)
        obtain ⟨v', l', e1, e2, e3, e4, e5⟩ := hend
        clear hat hat2 hgrow hnil hown' hgw4 hw4 hW5 z1 z2 z3 z4 z5
        go_wp2_with (refine wpl_storeK _ rfl 48 (.tmp 54) (.tmp 53) rfl rfl ⟨g2, 0, none⟩ rfl (.agg #[.int .i64 x.kind, .string x.s, .string x.lang, .string x.ty, .int .i64 y.kind, .string y.s, .string y.lang, .string y.ty]) rfl 8 sz48 rfl _ hst ?_)
        go_ret
        rw [hcc] at e1
        exact ⟨v', l', e1, e2, e3, e4, e5⟩
    · have hcc3 : ¬ cap2 = 1 := hcc
      go_region_law (refine step_copyK (P := Try.prog) 8 (by decide) ?_ (.tmp 46) (.tmp 49) 31 31 ?_ 48 und31 sz48 (some ⟨g2, 8, none⟩) (some ⟨g2, 0, none⟩) 0 (cap2 - 1) 1 cap2 ?_ ?_ g2 ((0 + 1) * 8) cur2.toList 48 z1 ((([] : List Pr).drop 0).flatMap cP) z2 (fun h => absurd h z3) z4 z5 ?_; exact rfl; exact rfl; go_simp; go_simp; intro w4 hw4 hgw4)
      all_goals
        have hbx4 := (hgw4.block w.heap.size (show w.heap.size < w2.heap.size from (Array.getElem?_eq_some_iff.1 hbx2).1) (fun e => hg2n (Option.some.inj e).symm)).trans hbx2
        obtain ⟨b0, b1, b2, b3, b4, b5, b6, b7⟩ := box8 hbx4
        have hst := run_storeCells_at Try.prog g2 (0 * 8) 48 [.int .i64 x.kind, .string x.s, .string x.lang, .string x.ty, .int .i64 y.kind, .string y.s, .string y.lang, .string y.ty] 0 _ w4 hw4.out (by rw [List.size_toArray, length_splice _ _ _ z4]; simp; omega) (oneP x y)
        have hend := put_end (x := x) (y := y) (v0 := .slice none 0 0) (l := ([] : List Pr)) (i := 0) (ys := [.int .i64 x.kind, .string x.s, .string x.lang, .string x.ty, .int .i64 y.kind, .string y.s, .string y.lang, .string y.ty]) hc7 hsort hbw hgrow hat2 q0 q1 q2 q3 q4 q5 hw4 hgw4
        obtain ⟨W5, hW5⟩ : ∃ W5, w4.setRow g2 ((splice cur2.toList ((0 + 1) * 8) ((([] : List Pr).drop 0).flatMap cP)).take (0 * 8) ++ cP (x, y) ++ (splice cur2.toList ((0 + 1) * 8) ((([] : List Pr).drop 0).flatMap cP)).drop (0 * 8 + 8)).toArray = W5 := ⟨_, rfl⟩
        rw [hW5] at hend
        replace hst := hst.trans (congrArg (Result.ok ()) hW5)
        obtain ⟨v', l', e1, e2, e3, e4, e5⟩ := hend
        clear hat hat2 hgrow hnil hown' hgw4 hw4 hW5 z1 z2 z3 z4 z5
        go_wp2_with (refine wpl_storeK _ rfl 48 (.tmp 54) (.tmp 53) rfl rfl ⟨g2, 0, none⟩ rfl (.agg #[.int .i64 x.kind, .string x.s, .string x.lang, .string x.ty, .int .i64 y.kind, .string y.s, .string y.lang, .string y.ty]) rfl 8 sz48 rfl _ hst ?_)
        go_ret
        exact ⟨v', l', e1, e2, e3, e4, e5⟩
end
end Go.Proofs.Ytaeiikielelicaa.Pt
