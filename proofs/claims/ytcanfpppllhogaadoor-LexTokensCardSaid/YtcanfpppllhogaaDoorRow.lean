/- What '(*scanner).row' answers: how many bytes from a place on are such ones. -/
import Derived.Shelf.Lays
import Derived.WalkKit
import Derived.Deep.LoopGhost
import Derived.Test.YtcanfpppllhogaaDoorProg
import Derived.Test.YtcanfpppllhogaaDoorAmG
namespace Go.Proofs.YtcanfpppllhogaaDoor.Row
open Go.RowKit Go.Proofs

/-- how many bytes are such ones, from the first on. -/
noncomputable def spanL (p : Nat → Bool) (l : List UInt8) : Nat → Nat :=
  List.rec (motive := fun _ => Nat → Nat) (fun k => k) (fun b _ ih k => match p b.toNat with | true => ih (Nat.succ k) | false => k) l
theorem spanL_cons (p : Nat → Bool) (b : UInt8) (l : List UInt8) (k : Nat) : spanL p (b :: l) k = if p b.toNat then spanL p l (k + 1) else k := by
  show (match p b.toNat with | true => spanL p l (k + 1) | false => k) = _
  cases p b.toNat <;> rfl
theorem drop_at (l : List UInt8) (n : Nat) (h : n < l.length) : l.drop n = l[n] :: l.drop (n + 1) := List.drop_eq_getElem_cons h

theorem w32 (c : Nat) (h : c < 256) : wrap32 (c : Int) = (c : Int) := by unfold wrap32; omega
set_option maxHeartbeats 2000000 in
set_option maxRecDepth 1000000 in
theorem row_calls (g : Nat) (eg : ∀ args w, (callFunc g args).run Tryd.prog w = .ok (.enter g args) w) (p : Nat → Bool) (x o n : Nat) (s : ByteArray) (w : World) (hn : n ≤ 10000000) (hs : s.size ≤ 10000000)
    (hp : ∀ (W : World) (c : Nat), c < 256 → Calls Tryd.prog g #[.int .i32 (c : Int)] W fun e w' => e = .returned (.bool (p c)) ∧ Below W.heap.size W w') (hc : w.cell? ⟨x, o, none⟩ = some (.string s)) :
    Calls Tryd.prog 25 #[.pointer (some ⟨x, o, none⟩), .int .i64 (n : Int), .func (.func g) #[] #[]] w fun e w' => e = .returned (.int .i64 (spanL p (s.data.toList.drop n) 0 : Nat)) ∧ Below w.heap.size w w' := by
  have hx : x < w.heap.size := by
    unfold World.cell? at hc
    split at hc
    · rename_i hb; exact (Array.getElem?_eq_some_iff.1 hb).1
    · cases hc
  go_enter Tryd.func25, Tryd.ntmps25
  go_wp2
  go_loopg [7] (s.size + 1) (fun gf i wx => ∃ m : Nat, i = .int .i64 (m : Int) ∧ n ≤ m ∧ m ≤ 20000000 ∧ Below w.heap.size w wx ∧ spanL p (s.data.toList.drop m) (m - n) = spanL p (s.data.toList.drop n) 0 ∧ s.size + 1 ≤ gf + m)
  case atStart => exact ⟨n, rfl, Nat.le_refl _, by omega, Below.refl _ _, by rw [Nat.sub_self], by omega⟩
  case round =>
    obtain ⟨m, rfl, hnm, hm2, hbw, hsp, hfu⟩ := hrel
    have hcw : wr.cell? ⟨x, o, none⟩ = some (.string s) := (hbw.cell (p := ⟨x, o, none⟩) hx).trans hc
    by_cases hlt : m < s.size
    · obtain ⟨g', rfl⟩ : ∃ g', gk = g' + 1 := ⟨gk - 1, by omega⟩
      have hltI : (m : Int) < (s.size : Int) := by omega
      have hml : m < s.data.toList.length := by rw [Array.length_toList]; exact hlt
      have hb : s.data.toList[m] = s[m] := rfl
      have hc256 : s[m].toNat < 256 := s[m].toNat_lt
      have cS := hp wr s[m].toNat hc256
      rw [drop_at _ _ hml, spanL_cons, hb] at hsp
      cases hpc : p s[m].toNat <;> rw [hpc] at cS hsp
      · go_wp2_with (go_at_fn g; (try rw [w32 _ hc256]); refine cS.mono ?_; rintro e W' ⟨rfl, hbl⟩)
        go_ret
        refine ⟨?_, hbw.trans (hbl.mono hbw.size)⟩
        have e : ((spanL p (s.data.toList.drop n) 0 : Nat) : Int) = (m : Int) - (n : Int) := by
          rw [← hsp]
          simp only [Bool.false_eq_true, if_false]
          omega
        rw [e]
        rfl
      · go_wp2_with (go_at_fn g; (try rw [w32 _ hc256]); refine cS.mono ?_; rintro e W' ⟨rfl, hbl⟩)
        go_roundg g'
        case measure => omega
        case rel => exact ⟨m + 1, by simp, by omega, by omega, hbw.trans (hbl.mono hbw.size), by simp only [if_true] at hsp; rw [show m + 1 - n = m - n + 1 by omega]; exact hsp, by omega⟩
    · go_wp2
      go_ret
      refine ⟨?_, hbw⟩
      have e : ((spanL p (s.data.toList.drop n) 0 : Nat) : Int) = (m : Int) - (n : Int) := by
        rw [← hsp, List.drop_eq_nil_of_le (by rw [Array.length_toList]; exact Nat.le_of_not_lt hlt)]
        show ((m - n : Nat) : Int) = _
        omega
      rw [e]
      rfl
end Go.Proofs.YtcanfpppllhogaaDoor.Row
namespace Go.Proofs.YtcanfpppllhogaaDoor.Row
open Go.RowKit Go.Proofs Go.Am
/-- a function value's contract at bytes. -/
def PredOk (g : Nat) (p : Nat → Bool) : Prop := (∃ fn, Tryd.prog.funcs[g]? = some fn ∧ (fn.name == "runtime.NumGoroutine") = false ∧ fn.body.isNone = false) ∧ ∀ c : Nat, c < 256 → Says Tryd.prog g #[.int .i32 (c : Int)] (.bool (p c))
theorem spans {tab : PredTab} (h : ∀ q ∈ tab, PredOk q.1 q.2) : Spans Tryd.prog 25 tab := by
  intro q hq x o n s w hn hs hc
  obtain ⟨⟨fn, h1, h2, h3⟩, hs'⟩ := h q hq
  exact row_calls q.1 (fun args w => call_enters h1 h2 h3) q.2 x o n s w hn hs (fun W c hc => hs' c hc W) hc
/-- a run for each byte. -/
theorem pred_of_runs {H : Hints} {fuel g : Nat} {fn : Func} {p : Nat → Bool} (hk : ∀ w d, KnownOk Tryd.prog w.heap.size ((orig Tryd.prog [] w).at d) H) (hf : Tryd.prog.funcs[g]? = some fn) (hn : (fn.name == "runtime.NumGoroutine") = false) (hb : fn.body.isNone = false)
    (h : ((List.range 256).all fun c => answers (.bool (p c)) (run Tryd.prog H fuel g [.int .i32 (.ofNat c)] (mem0 Tryd.prog 0))) = true) : PredOk g p :=
  ⟨⟨fn, hf, hn, hb⟩, fun c hc => says_of_run hk hf hn hb rfl rfl (List.all_eq_true.1 h c (List.mem_range.2 hc))⟩
end Go.Proofs.YtcanfpppllhogaaDoor.Row
