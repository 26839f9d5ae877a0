/- Whether two ways are the same: the program's Same. -/
import Derived.Test.YtaeiikielelicaaPtOf2
import Derived.Test.YtaeiikielelicaaPtOrd
set_option linter.unusedVariables false
set_option linter.unusedSimpArgs false
set_option linter.unusedSectionVars false
set_option linter.deprecated false
namespace Go.Proofs.Ytaeiikielelicaa.Pt
open Go.RowKit Go.Proofs Go.Am
open Pm
set_option maxRecDepth 1000000
set_option linter.unusedVariables false
set_option linter.unusedSimpArgs false
noncomputable section
open Classical in
def dB (p : Prop) : Bool := decide p
open Classical in
theorem dB_true {p : Prop} (h : p) : dB p = true := by unfold dB; exact decide_eq_true h
open Classical in
theorem dB_false {p : Prop} (h : ¬ p) : dB p = false := by unfold dB; exact decide_eq_false h
def SameOk (f : Nat) (pa pb : Value) (p : Prop) (w : World) : Prop := Calls Try.prog f #[pa, pb] w fun e w' => e = .returned (.bool (dB p)) ∧ Below w.heap.size w w'
/-- the ways within two ways, one beside the other. -/
def TwoOk (f : Nat) (w : World) (la lb : List Wy) (a b : Option Addr) : Prop := ∀ (j : Nat) (x y : Wy), la[j]? = some x → lb[j]? = some y → ∃ (ga gb : Nat) (oa ob : Int) (sa sb : ByteArray) (aa ab : Option Addr) (na ma nb mb : Nat), a = some ⟨ga, 0, none⟩ ∧ b = some ⟨gb, 0, none⟩ ∧
  ∀ W, Below w.heap.size w W → (W.cell? ⟨ga, j * 3, none⟩ = some (.int .i64 oa) ∧ W.cell? ⟨ga, j * 3 + 1, none⟩ = some (.string sa) ∧ W.cell? ⟨ga, j * 3 + 2, none⟩ = some (.slice aa na ma) ∧
    W.cell? ⟨gb, j * 3, none⟩ = some (.int .i64 ob) ∧ W.cell? ⟨gb, j * 3 + 1, none⟩ = some (.string sb) ∧ W.cell? ⟨gb, j * 3 + 2, none⟩ = some (.slice ab nb mb)) ∧
    SameOk f (.agg #[.int .i64 oa, .string sa, .slice aa na ma]) (.agg #[.int .i64 ob, .string sb, .slice ab nb mb]) (x = y) W
theorem take_snoc {α : Type} {l : List α} {j : Nat} {x : α} (h : l[j]? = some x) : l.take (j + 1) = l.take j ++ [x] := by
  rw [List.take_add_one, h]; rfl
theorem eq_of_take {α : Type} {la lb : List α} (h : la.length = lb.length) (ht : la.take la.length = lb.take la.length) : la = lb := by
  rw [List.take_length, h, List.take_length] at ht; exact ht
def LenEq (la lb : List Wy) : Prop := la.length = lb.length
set_option maxHeartbeats 4000000 in
theorem equal_calls (la lb : List Wy) (a b : Option Addr) (ca cb : Nat) (w : World) (hl : la.length ≤ 1000) (hl2 : lb.length ≤ 1001) (hk : TwoOk 17 w la lb a b) :
    Calls Try.prog 37 #[.slice a la.length ca, .slice b lb.length cb, .func (.func 17) #[] #[]] w fun e w' => e = .returned (.bool (dB (la = lb))) ∧ Below w.heap.size w w' := by
  obtain ⟨D, hD⟩ : ∃ D, D = dB (la = lb) := ⟨_, rfl⟩
  rw [← hD]
  by_cases hlen : la.length = lb.length
  · have hbI : ((la.length : Int) != (lb.length : Int)) = false := by rw [hlen]; simp
    have HL : LenEq la lb := hlen
    clear hlen
    go_enter Try.func37, Try.ntmps37
    go_wp2
    go_loopg [17] (la.length + 1) (fun gf i wx => ∃ (j : Nat), i = .int .i64 (j : Int) ∧ j ≤ la.length ∧ la.take j = lb.take j ∧ Below w.heap.size w wx ∧ la.length < gf + j)
    case atStart => exact ⟨0, rfl, by omega, rfl, Below.refl _ _, by omega⟩
    case round =>
      obtain ⟨j, rfl, hj, htk, hbw, hfu⟩ := hrel
      by_cases hlt : j < la.length
      · have hltI : (j : Int) < (la.length : Int) := by omega
        have hltJ : (j : Int) < (lb.length : Int) := by have h : la.length = lb.length := HL; omega
        obtain ⟨g', rfl⟩ : ∃ g', gk = g' + 1 := ⟨gk - 1, by omega⟩
        obtain ⟨x, hx⟩ : ∃ x, la[j]? = some x := ⟨la[j], List.getElem?_eq_getElem hlt⟩
        obtain ⟨y, hy⟩ : ∃ y, lb[j]? = some y := ⟨lb[j], List.getElem?_eq_getElem (by have h : la.length = lb.length := HL; omega)⟩
        obtain ⟨ga, gb, oa, ob, sa, sb, aa, ab, na, ma, nb, mb, rfl, rfl, hW⟩ := hk j x y hx hy
        have hal : ∀ o, Below w.heap.size w (wr.alloc o) := fun o => hbw.alloc hbw.size o
        have hal2 : ∀ o o', Below w.heap.size w ((wr.alloc o).alloc o') := fun o o' => (hal o).alloc (hal o).size o'
        have hc0 := (hW _ hbw).1
        have hc1 := fun o => (hW _ (hal o)).1
        have hS := fun o o' => (hW _ (hal2 o o')).2
        unfold SameOk at hS
        clear hW hk
        by_cases hxy : x = y
        · have hd := dB_true hxy
          rw [hd] at hS
          clear hd
          have htk2 : la.take (j + 1) = lb.take (j + 1) := by rw [take_snoc hx, take_snoc hy, htk, hxy]
          clear htk hx hy hxy
          go_wp2_with (go_at_call 17; refine (hS _ _).mono ?_; rintro e w1 ⟨rfl, b1⟩; have b2 := (hal2 _ _).trans (b1.mono (hal2 _ _).size))
          go_roundg g'
          case measure => omega
          case rel => exact ⟨j + 1, congrArg (Value.int .i64) (by omega), by omega, htk2, b2, by omega⟩
        · have hd := dB_false hxy
          rw [hd] at hS
          clear hd
          obtain rfl : D = false := hD.trans (dB_false (p := la = lb) (fun e => hxy (by rw [e, hy] at hx; cases hx; rfl)))
          clear htk hx hy hxy hD
          go_wp2_with (go_at_call 17; refine (hS _ _).mono ?_; rintro e w1 ⟨rfl, b1⟩; have b2 := (hal2 _ _).trans (b1.mono (hal2 _ _).size))
          go_ret
          exact ⟨rfl, b2⟩
      · have hltI : ¬ (j : Int) < (la.length : Int) := by omega
        obtain rfl : j = la.length := by omega
        obtain rfl : D = true := hD.trans (dB_true (eq_of_take HL htk))
        clear hD htk hk
        go_wp2
        go_ret
        exact ⟨rfl, hbw⟩
  · have hbI : ((la.length : Int) != (lb.length : Int)) = true := by simp; omega
    have hlI : ¬ (la.length : Int) = (lb.length : Int) := by omega
    obtain rfl : D = false := hD.trans (dB_false (p := la = lb) (fun e => hlen (by rw [e])))
    clear hD hk
    go_enter Try.func37, Try.ntmps37
    go_wp2
    go_ret
    exact ⟨rfl, Below.refl _ _⟩
theorem wy_inj {o o2 : Int} {s s2 : ByteArray} {k k2 : List Wy} : (Wy.mk o s k = Wy.mk o2 s2 k2) ↔ o = o2 ∧ s = s2 ∧ k = k2 := by simp
theorem beqI_false {a b : Int} (h : ¬ a = b) : (a == b) = false := by simpa using h
theorem beqS_false {a b : ByteArray} (h : ¬ a = b) : (a == b) = false := by rw [beq_bytes]; exact decide_eq_false h
def sameK (f : Nat) (kids kids2 : List Wy) (a b : Option Addr) (w : World) : Prop := ∀ W, Below w.heap.size w W → TwoOk f W kids kids2 a b
set_option maxHeartbeats 4000000 in
theorem same_step (op op2 : Int) (s s2 : ByteArray) (kids kids2 : List Wy) (a b : Option Addr) (c d : Nat) (w : World) (hl : kids.length ≤ 1000) (hl2 : kids2.length ≤ 1001) (hk : sameK 17 kids kids2 a b w) :
    SameOk 17 (.agg #[.int .i64 op, .string s, .slice a kids.length c]) (.agg #[.int .i64 op2, .string s2, .slice b kids2.length d]) (Wy.mk op s kids = Wy.mk op2 s2 kids2) w := by
  unfold SameOk
  have hb0 : ∀ o o', Below w.heap.size w ((w.alloc o).alloc o') := fun o o' => ((Below.refl _ w).alloc (Nat.le_refl _) _).alloc (by simp) _
  obtain ⟨D, hD⟩ : ∃ D, D = dB (Wy.mk op s kids = Wy.mk op2 s2 kids2) := ⟨_, rfl⟩
  rw [← hD]
  by_cases h1 : op = op2
  · subst h1
    by_cases h2 : s = s2
    · subst h2
      have he := fun o o' => equal_calls kids kids2 a b c d ((w.alloc o).alloc o') hl hl2 (hk _ (hb0 o o'))
      obtain rfl : D = dB (kids = kids2) := hD.trans (by congr 1; simp)
      clear hk hD hl hl2
      go_enter Try.func17, Try.ntmps17
      go_wp2_with (go_at_call 37; refine (he _ _).mono ?_; rintro e w1 ⟨rfl, b1⟩)
      go_ret
      exact ⟨rfl, (hb0 _ _).trans (b1.mono (by simp; omega))⟩
    · have hs := beqS_false h2
      have hs2 : ¬ s.toList = s2.toList := fun e => h2 (list_bytes e)
      obtain rfl : D = false := hD.trans (dB_false (fun e => h2 (wy_inj.1 e).2.1))
      clear hk hD hl hl2
      go_enter Try.func17, Try.ntmps17
      go_wp2
      go_ret
      exact ⟨rfl, hb0 _ _⟩
  · have hs := beqI_false h1
    obtain rfl : D = false := hD.trans (dB_false (fun e => h1 (wy_inj.1 e).1))
    clear hk hD hl hl2
    go_enter Try.func17, Try.ntmps17
    go_wp2
    go_ret
    exact ⟨rfl, hb0 _ _⟩
theorem RepW.shapeS {w : World} {t : Wy} {pv : Value} (h : RepW w t pv) : ∃ o s a n c, pv = .agg #[.int .i64 o, .string s, .slice a n c] := by
  cases h <;> exact ⟨_, _, _, _, _, rfl⟩
/-- a way's parts. -/
theorem RepW.parts {w : World} {t : Wy} {pv : Value} (h : RepW w t pv) : ∃ (op : Int) (s : ByteArray) (kids : List Wy) (a : Option Addr) (c : Nat), t = .mk op s kids ∧ pv = .agg #[.int .i64 op, .string s, .slice a kids.length c] ∧ kids.length ≤ 1000 ∧
    ∀ (j : Nat) (k : Wy), kids[j]? = some k → ∃ (g : Nat) (o : Int) (s : ByteArray) (x : Option Addr) (n m : Nat), a = some ⟨g, 0, none⟩ ∧ g < w.heap.size ∧ w.cell? ⟨g, j * 3, none⟩ = some (.int .i64 o) ∧ w.cell? ⟨g, j * 3 + 1, none⟩ = some (.string s) ∧ w.cell? ⟨g, j * 3 + 2, none⟩ = some (.slice x n m) ∧ RepW w k (.agg #[.int .i64 o, .string s, .slice x n m]) := by
  cases h with
  | leaf op s => exact ⟨op, s, [], none, 0, rfl, rfl, by simp, fun j k h => by simp at h⟩
  | node op s kids g cap hn hl hg c0 c1 c2 hc hk =>
    refine ⟨op, s, kids, some ⟨g, 0, none⟩, cap, rfl, rfl, hl, fun j k hj => ?_⟩
    have hjl := (List.getElem?_eq_some_iff.1 hj).1
    obtain ⟨o, s', a, n, m, e⟩ := (hk j k hj).shapeS
    simp only [Value.agg.injEq, Array.mk.injEq, List.cons.injEq, and_true] at e
    obtain ⟨q0, q1, q2⟩ := hc j hjl
    refine ⟨g, o, s', a, n, m, rfl, hg, ?_, ?_, ?_, ?_⟩
    · rw [← e.1]; exact q0
    · rw [← e.2.1]; exact q1
    · rw [← e.2.2]; exact q2
    · have := hk j k hj
      rwa [e.1, e.2.1, e.2.2] at this
/-- what is told of a function by what it is told of the ways within. -/
theorem same_all (f : Nat) (hstep : ∀ (op op2 : Int) (s s2 : ByteArray) (kids kids2 : List Wy) (a b : Option Addr) (c d : Nat) (w : World), kids.length ≤ 1000 → kids2.length ≤ 1001 → sameK f kids kids2 a b w →
    SameOk f (.agg #[.int .i64 op, .string s, .slice a kids.length c]) (.agg #[.int .i64 op2, .string s2, .slice b kids2.length d]) (Wy.mk op s kids = Wy.mk op2 s2 kids2) w)
    {w0 : World} {t : Wy} {pv : Value} (h : RepW w0 t pv) : ∀ (w : World) (t2 : Wy) (pv2 : Value), Below w0.heap.size w0 w → RepW w t2 pv2 → SameOk f pv pv2 (t = t2) w := by
  induction h with
  | leaf op s =>
    intro w t2 pv2 hb h2
    obtain ⟨op2, s2, kids2, b, d, rfl, rfl, hl2, hk2⟩ := h2.parts
    exact hstep op op2 s s2 [] kids2 none b 0 d w (by simp) (by omega) (fun W hW j x y hx => by simp at hx)
  | node op s kids g cap hn hl hg c0 c1 c2 hc hk ih =>
    intro w t2 pv2 hb h2
    obtain ⟨op2, s2, kids2, b, d, rfl, rfl, hl2, hk2⟩ := h2.parts
    refine hstep op op2 s s2 kids kids2 _ b cap d w hl (by omega) (fun W0 hW0 j x y hx hy => ?_)
    have hjl := (List.getElem?_eq_some_iff.1 hx).1
    obtain ⟨o, s', a, n, m, e⟩ := (hk j x hx).shapeS
    simp only [Value.agg.injEq, Array.mk.injEq, List.cons.injEq, and_true] at e
    obtain ⟨gb, ob, sb, ab, nb, mb, rfl, hgb, r0, r1, r2, r3⟩ := hk2 j y hy
    obtain ⟨q0, q1, q2⟩ := hc j hjl
    refine ⟨g, gb, o, ob, s', sb, a, ab, n, m, nb, mb, rfl, rfl, fun W hW => ?_⟩
    have hb2 : Below w.heap.size w W := hW0.trans (hW.mono hW0.size)
    have hb3 := hb.trans (hb2.mono hb.size)
    refine ⟨⟨?_, ?_, ?_, (hb2.cell (p := ⟨gb, j * 3, none⟩) hgb).trans r0, (hb2.cell (p := ⟨gb, j * 3 + 1, none⟩) hgb).trans r1, (hb2.cell (p := ⟨gb, j * 3 + 2, none⟩) hgb).trans r2⟩, ?_⟩
    · rw [← e.1]; exact (hb3.cell (p := ⟨g, j * 3, none⟩) hg).trans q0
    · rw [← e.2.1]; exact (hb3.cell (p := ⟨g, j * 3 + 1, none⟩) hg).trans q1
    · rw [← e.2.2]; exact (hb3.cell (p := ⟨g, j * 3 + 2, none⟩) hg).trans q2
    · have := ih j x hx W y _ hb3 (r3.later hb2)
      rwa [e.1, e.2.1, e.2.2] at this
theorem Same_calls {w : World} {t t2 : Wy} {pv pv2 : Value} (h : RepW w t pv) (h2 : RepW w t2 pv2) : SameOk 17 pv pv2 (t = t2) w := same_all 17 same_step h w t2 pv2 (Below.refl _ _) h2
end
end Go.Proofs.Ytaeiikielelicaa.Pt
