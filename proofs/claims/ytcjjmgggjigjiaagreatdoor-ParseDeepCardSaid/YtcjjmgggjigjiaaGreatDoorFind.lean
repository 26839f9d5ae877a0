/- What 'find' answers: the last prefix of that name, whatever prefixes there are; nothing, where there is none. Condition: there are at most a million. -/
import Derived.RangeFuncNested
import Derived.RangeFuncBound
import Derived.RangeFuncCalls
import Derived.RangeFuncLeaves
import Derived.RangeFuncBox
import Derived.Shelf.Abstract
import Derived.Shelf.RegionOpen
import Derived.WalkKit
import Derived.OwnWalkIn
import Derived.TacticsInMore
import Derived.LoopNIn
import Derived.LoopIn
import Derived.Test.YtcjjmgggjigjiaaGreatDoorProg
import Derived.Test.YtcjjmgggjigjiaaGreatDoorAmG
namespace Go.Proofs.YtcjjmgggjigjiaaGreatDoor.Find
open Go.RowKit Go.Shelf Go.Proofs
attribute [local go_sem] Oper.semAt_some

abbrev Pre := ByteArray × ByteArray
def upto {α : Type} (f : Nat → α) (k : Nat) : List α := (List.range k).map f
theorem upto_succ {α : Type} (f : Nat → α) (k : Nat) : upto f (k + 1) = upto f k ++ [f k] := by simp [upto, List.range_succ]
theorem upto_length {α : Type} (f : Nat → α) (k : Nat) : (upto f k).length = k := by simp [upto]
/-- the name of a prefix, what it stands for. -/
def nm (zs : List Pre) (j : Nat) : ByteArray := (zs[j]?.getD (⟨#[]⟩, ⟨#[]⟩)).1
def rf (zs : List Pre) (j : Nat) : ByteArray := (zs[j]?.getD (⟨#[]⟩, ⟨#[]⟩)).2
/-- what comes when k rounds are over: from the last one on. -/
def bk (zs : List Pre) (k : Nat) : Int × Pre := (((zs.length - 1 - k : Nat) : Int), (nm zs (zs.length - 1 - k), rf zs (zs.length - 1 - k)))

set_option maxRecDepth 100000 in
set_option maxHeartbeats 2000000 in
/-- slices.Backward's closure. -/
theorem back1_in (F : Fence) (n : Nat) (hf : F.fn 176) (hro : F.round = none) (hn : 1 ≤ n) (l Bs n₀ b off cap : Nat) (zs : List Pre) (hreach : zs.length ≤ 1000000) (hb : b < n₀) (J Jx : List (Int × Pre) → World → Prop)
    (hY : ∀ pre x W, J pre W → pre.length < zs.length → YieldAt F (n - 1) Tryz.prog l #[.int .i64 x.1, .agg #[.string x.2.1, .string x.2.2]] W fun e W' =>
      (e = .returned (.bool true) ∧ J (pre ++ [x]) W' ∧ Below n₀ W W') ∨ (e = .returned (.bool false) ∧ Jx (pre ++ [x]) W'))
    (W : World) (hBs : W.cell? ⟨Bs, 0, none⟩ = some (.slice (some ⟨b, off, none⟩) zs.length cap)) (hBs0 : Bs < n₀)
    (hc : ∀ j, j < zs.length → W.cell? ⟨b, off + j * 2, none⟩ = some (.string (nm zs j)) ∧ W.cell? ⟨b, off + j * 2 + 1, none⟩ = some (.string (rf zs j))) (h0 : J [] W) :
    CallsIn F n Tryz.prog 176 #[.func (.yield l) #[] #[], .pointer (some ⟨Bs, 0, none⟩)] W fun e W' => (∃ v, e = .returned v) ∧
      ((∃ ys, ys = upto (bk zs) zs.length ∧ J ys W') ∨ (∃ pre, (∃ k, k ≤ zs.length ∧ pre = upto (bk zs) k) ∧ Jx pre W')) := by
  refine callsIn_of_wp Tryz.func176 rfl hf ?_ hro
  simp only [Tryz.ntmps176, List.size_toArray, List.length_cons, List.length_nil, Nat.reduceAdd, Nat.reduceSub, Array.replicate_succ, Array.replicate_zero, List.push_toArray, List.append_toArray, List.nil_append, List.cons_append]
  gi_wp2
  gi_loopw [3] (fun i wr => ∃ m : Nat, m ≤ zs.length ∧ i = .int .i64 ((m : Int) - 1) ∧ J (upto (bk zs) (zs.length - m)) wr ∧ Below n₀ W wr)
    (fun i _ => (intOf i + 1).toNat)
  case atStart => exact ⟨zs.length, Nat.le_refl _, by simp, by rw [Nat.sub_self]; exact h0, Below.refl _ _⟩
  case round =>
    obtain ⟨m, hm, rfl, hJs, hnx⟩ := hrel
    have hBs' := (hnx.cell (p := ⟨Bs, 0, none⟩) hBs0).trans hBs
    cases m with
    | zero =>
      gi_wp2
      go_end0
      exact ⟨⟨_, rfl⟩, .inl ⟨_, rfl, hJs⟩⟩
    | succ m =>
      have hx := hc m (by omega)
      have c1 := (hnx.cell (p := ⟨b, off + m * 2, none⟩) hb).trans hx.1
      have c2 := (hnx.cell (p := ⟨b, off + m * 2 + 1, none⟩) hb).trans hx.2
      have e1 : (((m + 1 : Nat) : Int) - 1) = (m : Int) := by omega
      rw [e1]
      obtain ⟨fn, tmps, assign, body, hy, hR⟩ := hY _ ((m : Int), (nm zs m, rf zs m)) wr hJs (by rw [upto_length]; omega)
      dsimp only at hy
      gi_wp2
      refine hR.mono ?_
      have e2 : bk zs (zs.length - (m + 1)) = ((m : Int), (nm zs m, rf zs m)) := by unfold bk; rw [show zs.length - 1 - (zs.length - (m + 1)) = m by omega]
      have e3 : upto (bk zs) (zs.length - m) = upto (bk zs) (zs.length - (m + 1)) ++ [((m : Int), (nm zs m, rf zs m))] := by
        rw [show zs.length - m = (zs.length - (m + 1)) + 1 by omega, upto_succ, e2]
      rintro e W3 (⟨rfl, hJ3, hk3⟩ | ⟨rfl, hJx3⟩)
      · gi_wp2
        go_roundw
        case rel => exact ⟨m, by omega, rfl, by rw [e3]; exact hJ3, hnx.trans hk3⟩
        case measure => simp [intOf]
      · gi_wp2
        refine bodyPost_ret (results_none rfl _ _ _) rfl ?_
        exact ⟨⟨_, rfl⟩, .inr ⟨_, ⟨zs.length - m, by omega, e3.symm⟩, hJx3⟩⟩

set_option maxRecDepth 100000 in
set_option maxHeartbeats 1000000 in
/-- .. at the nil slice: no round. -/
theorem back1_nil_in (F : Fence) (n : Nat) (hf : F.fn 176) (hro : F.round = none) (l Bs : Nat) (J : List (Int × Pre) → World → Prop) (W : World) (hBs : W.cell? ⟨Bs, 0, none⟩ = some (.slice none 0 0)) (h0 : J [] W) :
    CallsIn F n Tryz.prog 176 #[.func (.yield l) #[] #[], .pointer (some ⟨Bs, 0, none⟩)] W fun e W' => (∃ v, e = .returned v) ∧ J [] W' := by
  refine callsIn_of_wp Tryz.func176 rfl hf ?_ hro
  simp only [Tryz.ntmps176, List.size_toArray, List.length_cons, List.length_nil, Nat.reduceAdd, Nat.reduceSub, Array.replicate_succ, Array.replicate_zero, List.push_toArray, List.append_toArray, List.nil_append, List.cons_append]
  gi_wp2
  gi_loopw [3] (fun i wr => i = .int .i64 (-1) ∧ J [] wr) (fun _ _ => 0)
  case atStart => exact ⟨rfl, h0⟩
  case round =>
    obtain ⟨rfl, hJs⟩ := hrel
    gi_wp2
    go_end0
    exact ⟨⟨_, rfl⟩, hJs⟩

set_option maxHeartbeats 1000000 in
/-- slices.Backward: the slice is boxed; the function value captures the box. -/
theorem back_in (F : Fence) (n : Nat) (hf : F.fn 171) (hro : F.round = none) (a : Option Addr) (len cap : Nat) (w : World) :
    CallsIn F n Tryz.prog 171 #[.slice a len cap] w fun e w' => e = .returned (.func (.func 176) #[] #[.pointer (some ⟨w.heap.size, 0, none⟩)]) ∧ w' = w.alloc (.cells #[.slice a len cap] 60) := by
  refine callsIn_of_wp Tryz.func171 rfl hf ?_ hro
  simp only [Tryz.ntmps171, List.size_toArray, List.length_cons, List.length_nil, Nat.reduceAdd, Nat.reduceSub, Array.replicate_succ, Array.replicate_zero, List.push_toArray, List.append_toArray, List.nil_append, List.cons_append]
  gi_wp2
  go_ret
  exact ⟨rfl, rfl⟩
/-- a slice of prefixes, below a bound. -/
def Pres (n₀ : Nat) (w : World) (sv : Value) (zs : List Pre) : Prop := (sv = .slice none 0 0 ∧ zs = []) ∨
  ∃ b off cap, sv = .slice (some ⟨b, off, none⟩) zs.length cap ∧ b < n₀ ∧ ∀ j, j < zs.length → w.cell? ⟨b, off + j * 2, none⟩ = some (.string (nm zs j)) ∧ w.cell? ⟨b, off + j * 2 + 1, none⟩ = some (.string (rf zs j))
theorem Pres.below {n₀ : Nat} {w w' : World} {sv : Value} {zs : List Pre} (h : Pres n₀ w sv zs) (hb : Below n₀ w w') : Pres n₀ w' sv zs := by
  rcases h with h | ⟨b, off, cap, h1, h2, h3⟩
  · exact .inl h
  · exact .inr ⟨b, off, cap, h1, h2, fun j hj => ⟨(hb.cell (p := ⟨b, off + j * 2, none⟩) h2).trans (h3 j hj).1, (hb.cell (p := ⟨b, off + j * 2 + 1, none⟩) h2).trans (h3 j hj).2⟩⟩
theorem back_stops (F : Fence) (n : Nat) (hf : F.fn 176) (hro : F.round = none) (hn : 1 ≤ n) (Bs n₀ : Nat) (sv : Value) (zs : List Pre) (hreach : zs.length ≤ 1000000) (w : World) (hBs : Bs < n₀) (hn₀ : n₀ ≤ w.heap.size)
    (hc : w.cell? ⟨Bs, 0, none⟩ = some sv) (hI : Pres n₀ w sv zs) :
    SeqStopsK F n Tryz.prog 176 #[.pointer (some ⟨Bs, 0, none⟩)] (fun x : Int × Pre => #[Value.int .i64 x.1, .agg #[.string x.2.1, .string x.2.2]]) (Below n₀) (fun ys => ys = upto (bk zs) zs.length)
      (fun pre => ∃ k, k ≤ zs.length ∧ pre = upto (bk zs) k) zs.length w := fun l J Jx W hW _ _ hY h0 => by
  have hc' := (hW.cell (p := ⟨Bs, 0, none⟩) (Nat.lt_of_lt_of_le hBs hn₀)).trans hc
  rcases hI.below (hW.mono hn₀) with ⟨rfl, rfl⟩ | ⟨b, off, cap, rfl, hb, hcs⟩
  · exact (back1_nil_in F n hf hro l Bs J W hc' h0).mono fun e W' ⟨he, hj⟩ => ⟨he, .inl ⟨_, rfl, hj⟩⟩
  · exact back1_in F n hf hro hn l Bs n₀ b off cap zs hreach hb J Jx hY W hc' hBs hcs h0

/-- block B holds a prefix. -/
def Box2 (W : World) (B : Nat) (p : Pre) : Prop := W.heap[B]? = some (.cells #[.string p.1, .string p.2] 74 (0, 0))
theorem Box2.cell0 {W : World} {B : Nat} {p : Pre} (h : Box2 W B p) : W.cell? ⟨B, 0, none⟩ = some (.string p.1) := by simp [World.cell?, show W.heap[B]? = _ from h]
theorem Box2.cell1 {W : World} {B : Nat} {p : Pre} (h : Box2 W B p) : W.cell? ⟨B, 1, none⟩ = some (.string p.2) := by simp [World.cell?, show W.heap[B]? = _ from h]
theorem Box2.own {β : Type} (B : Nat) (f : β → Pre) : Own (fun s W => Box2 W B (f s)) := fun s X Y row hs hg hrow =>
  (hg.block B (Array.getElem?_eq_some_iff.1 hs).1 (fun e' => by obtain ⟨o, ho, hc⟩ := hrow B e'.symm; rw [show X.heap[B]? = _ from hs] at ho; cases ho; cases hc)).trans hs
set_option maxRecDepth 100000 in
set_option maxHeartbeats 2000000 in
theorem find_in (F : Fence) (n : Nat) (hF : F.fn 160) (hB : F.fn 171) (hC : F.fn 176) (hro : F.round = none) (hn : 3 ≤ n) (R o : Nat) (name : ByteArray) (a : Option Addr) (len cap : Nat) (zs : List Pre) (hreach : zs.length ≤ 1000000) (w : World)
    (hR : w.cell? ⟨R, o + 1, none⟩ = some (.slice a len cap)) (hI : Pres w.heap.size w (.slice a len cap) zs) :
    CallsIn F n Tryz.prog 160 #[.pointer (some ⟨R, o, none⟩), .string name] w fun e W' =>
      ((e = .returned (.tuple #[.string ⟨#[]⟩, .bool false]) ∧ ∀ j, j < zs.length → nm zs j ≠ name) ∨ (∃ k : Nat, k < zs.length ∧ e = .returned (.tuple #[.string (rf zs k), .bool true]) ∧ nm zs k = name ∧ ∀ j, k < j → j < zs.length → nm zs j ≠ name)) ∧ Below w.heap.size w W' := by
  have h1 : 1 ≤ n := by omega
  refine callsIn_of_wp_marks Tryz.func160 rfl hF ?_ hro
  simp only [Tryz.ntmps160, List.size_toArray, List.length_cons, List.length_nil, Nat.reduceAdd, Nat.reduceSub, Array.replicate_succ, Array.replicate_zero, List.push_toArray, List.append_toArray, List.nil_append, List.cons_append]
  have hRlt : R < w.heap.size := (cells_of_cell hR).elim fun _ h => (Array.getElem?_eq_some_iff.1 h.1).1
  have hR3 : (((w.alloc (.cells #[.string name] 9)).alloc (.cells #[.string ⟨#[]⟩] 9)).alloc (.cells #[.bool false] 4)).cell? ⟨R, o + 1, none⟩ = some (.slice a len cap) :=
    ((((Below.refl _ w).alloc (Nat.le_refl _) _).alloc (by simp) _).alloc (by simp; omega) _).cell (p := ⟨R, o + 1, none⟩) hRlt |>.trans hR
  gi_wp2_with (gi_at_call 171; refine (back_in F (n - 1) hB hro _ _ _ _).mono ?_; rintro e w' ⟨rfl, rfl⟩)
  obtain ⟨W0, hW0⟩ : ∃ W0, (((w.alloc (.cells #[.string name] 9)).alloc (.cells #[.string ⟨#[]⟩] 9)).alloc (.cells #[.bool false] 4)).alloc (.cells #[.slice a len cap] 60) = W0 := ⟨_, rfl⟩
  have hsz : W0.heap.size = w.heap.size + 4 := by rw [← hW0]; simp
  have hB0 : Below w.heap.size w W0 := by rw [← hW0]; exact ((((Below.refl _ w).alloc (Nat.le_refl _) _).alloc (by simp) _).alloc (by simp; omega) _).alloc (by simp; omega) _
  have bN : Boxed W0 w.heap.size 9 (.string name) := by rw [← hW0]; exact (((Boxed.new w 9 (.string name)).alloc _).alloc _).alloc _
  have bS : Boxed W0 (w.heap.size + 1) 9 (.string ⟨#[]⟩) := by rw [← hW0]; have := (((Boxed.new (w.alloc (.cells #[.string name] 9)) 9 (.string ⟨#[]⟩)).alloc (.cells #[.bool false] 4)).alloc (.cells #[.slice a len cap] 60)); simpa using this
  have bB : Boxed W0 (w.heap.size + 2) 4 (.bool false) := by rw [← hW0]; have := ((Boxed.new ((w.alloc (.cells #[.string name] 9)).alloc (.cells #[.string ⟨#[]⟩] 9)) 4 (.bool false)).alloc (.cells #[.slice a len cap] 60)); simpa using this
  have bL : Boxed W0 (w.heap.size + 3) 60 (.slice a len cap) := by rw [← hW0]; have := Boxed.new (((w.alloc (.cells #[.string name] 9)).alloc (.cells #[.string ⟨#[]⟩] 9)).alloc (.cells #[.bool false] 4)) 60 (.slice a len cap); simpa using this
  have hP0 : Pres W0.heap.size W0 (.slice a len cap) zs := by
    rcases hI.below hB0 with h | ⟨b, off, cap', e1, e2, e3⟩
    · exact .inl h
    · exact .inr ⟨b, off, cap', e1, by omega, e3⟩
  rw [hW0]
  refine wpIn_rangeFunc_ownH hro h1 (gf := 176) (lb := #[.pointer (some ⟨w.heap.size + 3, 0, none⟩)]) rfl hC (enters_of Tryz.func176 (by kernel_rfl) rfl)
    (back_stops F (n - 1) hC hro (by omega) (w.heap.size + 3) W0.heap.size (.slice a len cap) zs hreach W0 (by omega) (Nat.le_refl _) bL.cell hP0) belowK_t (belowK_b (Nat.le_refl _)) (Below.refl _ _) (fun _ => rfl)
    (fun pre W => ((∀ p ∈ pre, p.2.1 ≠ name) ∧ W0.heap.size ≤ W.heap.size ∧ Boxed W w.heap.size 9 (.string name) ∧ Boxed W (w.heap.size + 1) 9 (.string ⟨#[]⟩) ∧ Boxed W (w.heap.size + 2) 4 (.bool false)) ∧ Below w.heap.size w W)
    (fun c pre W => (c = .ret ∧ ∃ ini last, pre = ini ++ [last] ∧ (∀ p ∈ ini, p.2.1 ≠ name) ∧ last.2.1 = name ∧ Boxed W (w.heap.size + 1) 9 (.string last.2.2) ∧ Boxed W (w.heap.size + 2) 4 (.bool true)) ∧ Below w.heap.size w W)
    (OwnFrom.and (Own.from (fun s A B row hs hg hr => ⟨hs.1, Nat.le_trans hs.2.1 hg.size, boxed_own (β := Unit) _ _ (fun _ => _) () A B row hs.2.2.1 hg hr, boxed_own (β := Unit) _ _ (fun _ => _) () A B row hs.2.2.2.1 hg hr, boxed_own (β := Unit) _ _ (fun _ => _) () A B row hs.2.2.2.2 hg hr⟩) _) (ownFrom_below (Nat.le_refl _) (by omega)))
    (fun c => OwnFrom.and (Own.from (fun s A B row hs hg hr => by obtain ⟨hc, ini, last, e1, e2, e3, e4, e5⟩ := hs; exact ⟨hc, ini, last, e1, e2, e3, boxed_own (β := Unit) _ _ (fun _ => _) () A B row e4 hg hr, boxed_own (β := Unit) _ _ (fun _ => _) () A B row e5 hg hr⟩) _) (ownFrom_below (Nat.le_refl _) (by omega)))
    ⟨⟨by simp, Nat.le_refl _, bN, bS, bB⟩, hB0⟩
    (fun x a' W => ∃ Bx, W0.heap.size ≤ Bx ∧ Box2 W Bx x.2 ∧ a' = { tmps := #[.pointer (some ⟨R, o, none⟩), .string name, undef, .pointer (some ⟨w.heap.size, 0, none⟩), .pointer (some ⟨w.heap.size + 1, 0, none⟩), .pointer (some ⟨w.heap.size + 1 + 1, 0, none⟩), undef, .pointer (some ⟨Bx, 0, none⟩), .pointer (some ⟨R, o, none⟩), .pointer (some ⟨R, o, none⟩), .pointer (some ⟨R, o + 1, none⟩), .slice a len cap, .func (.func 176) #[] #[.pointer (some ⟨w.heap.size + 1 + 1 + 1, 0, none⟩)], .int .i64 x.1, .agg #[.string x.2.1, .string x.2.2], undef, undef, undef, undef, undef, undef], defers := [] })
    (fun x a' => Own.from (fun s A B row hs hg hr => by obtain ⟨Bx, h1, h2, h3⟩ := hs; exact ⟨Bx, h1, Box2.own (β := Unit) _ (fun _ => _) () A B row h2 hg hr, h3⟩) _) ?assign ?body ?done ?stop
  case assign =>
    rintro l pre x W K ⟨⟨hp, hge, b1, b2, b3⟩, hB⟩ hK
    gi_wp2
    exact hK _ _ ((KeepsOthers.alloc _ _).from _) ((Below.refl _ W).alloc hge _) ⟨⟨hp, by simp; omega, b1.alloc _, b2.alloc _, b3.alloc _⟩, hB.alloc hB.size _⟩ ⟨W.heap.size, hge, World.alloc_heap_new W _, rfl⟩
  case body =>
    rintro l pre x a' W hl ⟨r, hr⟩ ⟨⟨hp, hge, b1, b2, b3⟩, hB⟩ ⟨Bx, hBx, bX, rfl⟩ hlt
    have c0 := bX.cell0
    have c1 := bX.cell1
    have d1 := b1.cell
    have d2 := b2.cell
    have d3 := b3.cell
    have f2 := b2.frozen
    have f3 := b3.frozen
    have b3' := b3.other (B' := w.heap.size + 1) (by omega) (.string x.2.2)
    have d3' := b3'.cell
    have f3' := b3'.frozen
    gi_wp2
    · rename_i hx
      have hx' : x.2.1 = name := by
        have := hx
        rw [beq_iff_eq, ByteArray.toList_eq, ByteArray.toList_eq] at this
        exact ByteArray.ext (Array.toList_inj.1 this)
      refine ⟨((KeepsOthers.setCell W _ _).trans (KeepsOthers.setCell _ _ _)).from _, ⟨rfl, pre, x, rfl, hp, hx', ?_, ?_⟩, ?_⟩
      · exact (b2.set (.string x.2.2)).other (by omega) _
      · exact b3'.set (.bool true)
      · exact (hB.setCell (p := ⟨w.heap.size + 1, 0, none⟩) (by simp) _).setCell (p := ⟨w.heap.size + 1 + 1, 0, none⟩) (by simp; omega) _
    · rename_i hx
      have hx' : x.2.1 ≠ name := fun e => by rw [e] at hx; simp at hx
      exact ⟨KeepsFrom.refl _ _, Below.refl _ _, ⟨fun p hp' => (List.mem_append.1 hp').elim (hp p) (fun e => by simp at e; subst e; exact hx'), hge, b1, b2, b3⟩, hB⟩
  case done =>
    rintro D ys W hD rfl ⟨⟨hne, hge, b1, b2, b3⟩, hB⟩ hK
    have d2 := b2.cell
    have d3 := b3.cell
    have f2 := b2.frozen
    have f3 := b3.frozen
    have b3' := b3.other (B' := w.heap.size + 1) (by omega) (.string ⟨#[]⟩)
    have d3' := b3'.cell
    have f3' := b3'.frozen
    gi_wp2
    have hK' := ((KeepsOthers.setCell W ⟨w.heap.size + 1, 0, none⟩ (.string ⟨#[]⟩)).trans (KeepsOthers.setCell _ ⟨w.heap.size + 1 + 1, 0, none⟩ (.bool false))).same D _ hK rfl
    refine ⟨by simp, .inl ⟨_, _, rfl, run_takeDeferred hK', ?_⟩⟩
    have q2 := ((b2.set (.string ⟨#[]⟩)).other (B' := w.heap.size + 1 + 1) (by omega) (.bool false)).cell
    have q3 := (b3'.set (.bool false)).cell
    have hc2 := cell_kept q2 (grownBy_putObj' _ D (.deferred none)) (fun r e => by cases e; exact ⟨_, hK', rfl⟩)
    have hc3 := cell_kept q3 (grownBy_putObj' _ D (.deferred none)) (fun r e => by cases e; exact ⟨_, hK', rfl⟩)
    refine ⟨.tuple #[.string ⟨#[]⟩, .bool false], ?_, .inl ⟨rfl, fun j hj => ?_⟩,
      ((hB.setCell (p := ⟨w.heap.size + 1, 0, none⟩) (by simp) _).setCell (p := ⟨w.heap.size + 1 + 1, 0, none⟩) (by simp; omega) _).trans (belowK_b (w := w) (Nat.le_refl _) _ D _ _ (by omega) hK' rfl rfl)⟩
    · simp [results, Tryz.f160, go_sem, hc2, hc3]
    · have := hne (bk zs (zs.length - 1 - j)) (by simp only [upto, List.mem_map, List.mem_range]; exact ⟨_, by omega, rfl⟩)
      unfold bk at this
      rwa [show zs.length - 1 - (zs.length - 1 - j) = j by omega] at this
  case stop =>
    rintro D c pre W hD ⟨k, hk, rfl⟩ ⟨⟨rfl, ini, last, e1, e2, e3, b2, b3⟩, hB⟩ hK
    gi_wp2
    refine ⟨by simp, .inl ⟨_, _, rfl, run_takeDeferred hK, ?_⟩⟩
    have hc2 := cell_kept b2.cell (grownBy_putObj' _ D (.deferred none)) (fun r e => by cases e; exact ⟨_, hK, rfl⟩)
    have hc3 := cell_kept b3.cell (grownBy_putObj' _ D (.deferred none)) (fun r e => by cases e; exact ⟨_, hK, rfl⟩)
    obtain ⟨k', rfl⟩ : ∃ k', k = k' + 1 := by
      cases k with
      | zero => simp [upto] at e1
      | succ k' => exact ⟨k', rfl⟩
    rw [upto_succ] at e1
    obtain ⟨rfl, e5⟩ := List.append_inj' e1 rfl
    obtain rfl : bk zs k' = last := by simpa using e5
    refine ⟨.tuple #[.string (rf zs (zs.length - 1 - k')), .bool true], ?_, .inr ⟨zs.length - 1 - k', by omega, rfl, e3, fun j hj hj2 => ?_⟩, hB.trans (belowK_b (w := w) (Nat.le_refl _) W D _ _ (by omega) hK rfl rfl)⟩
    · simp [results, Tryz.f160, go_sem, hc2, hc3, bk]
    · have := e2 (bk zs (zs.length - 1 - j)) (by simp only [upto, List.mem_map, List.mem_range]; exact ⟨_, by omega, rfl⟩)
      unfold bk at this
      rwa [show zs.length - 1 - (zs.length - 1 - j) = j by omega] at this
end Go.Proofs.YtcjjmgggjigjiaaGreatDoor.Find
namespace Go.Proofs.YtcjjmgggjigjiaaGreatDoor.Find
open Go.RowKit Go.Shelf Go.Proofs Go.Am
theorem nm_of {zs : List Pre} {j : Nat} {z : Pre} (h : zs[j]? = some z) : nm zs j = z.1 ∧ rf zs j = z.2 := by unfold nm rf; rw [h]; exact ⟨rfl, rfl⟩
theorem of_lt {zs : List Pre} {j : Nat} (h : j < zs.length) : ∃ z, zs[j]? = some z := ⟨_, List.getElem?_eq_getElem h⟩
/-- the function finds, at every memory. -/
theorem finds : Go.Am.Finds Tryz.prog 160 := by
  intro R o name a cap zs w hle hcell hz
  have hI : Pres w.heap.size w (.slice a zs.length cap) zs := by
    rcases hz with ⟨rfl, rfl, rfl⟩ | ⟨b, off, rfl, h1, h2⟩
    · exact .inl ⟨rfl, rfl⟩
    · refine .inr ⟨b, off, cap, rfl, h1, fun j hj => ?_⟩
      obtain ⟨z, hz⟩ := of_lt hj
      rw [(nm_of hz).1, (nm_of hz).2]
      exact h2 j z hz
  refine Calls.mono (callsIn_wide.1 (find_in Fence.wide 3 trivial trivial trivial rfl (Nat.le_refl _) R o name a zs.length cap zs hle w hcell hI)) ?_
  rintro e w' ⟨h, hb⟩
  refine ⟨?_, hb⟩
  unfold lastV
  rcases lastP_cases name zs with ⟨h1, h2⟩ | ⟨k, z, h1, h2, h3, h4⟩
  · rw [h1]
    rcases h with ⟨he, _⟩ | ⟨k, hk, he, hn, _⟩
    · exact he
    · obtain ⟨z, hz⟩ := of_lt hk
      exact absurd ((nm_of hz).1.symm.trans hn) (h2 k z hz)
  · rw [h2]
    have hk := (List.getElem?_eq_some_iff.1 h1).1
    rcases h with ⟨_, hn⟩ | ⟨k', hk', he, hn, hl⟩
    · exact absurd ((nm_of h1).1.trans h3) (hn k hk)
    · obtain ⟨z', hz'⟩ := of_lt hk'
      rcases Nat.lt_trichotomy k k' with hlt | rfl | hlt
      · exact absurd ((nm_of hz').1.symm.trans hn) (h4 k' z' hlt hz')
      · rw [he, (nm_of h1).2]; rfl
      · exact absurd ((nm_of h1).1.trans h3) (hl k hlt hk)
end Go.Proofs.YtcjjmgggjigjiaaGreatDoor.Find
