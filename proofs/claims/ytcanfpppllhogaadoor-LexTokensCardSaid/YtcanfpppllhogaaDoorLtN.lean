/- What lex and the reference answer, function by function (LexTokens, part N). -/
import Derived.Test.YtcanfpppllhogaaDoorLtM
import Derived.Laws.ResultCell
import Derived.Laws.Concat
namespace Go.Proofs.YtcanfpppllhogaaDoor.Lx
open Go.RowKit Go.Proofs
open Go.Am (spanL)
noncomputable section

/-! ### the reference's bytes -/
theorem says8 {H : Go.Am.Hints} {fuel g : Nat} {fn : Func} {V : Nat → Value} (hV : ∀ c, Go.Am.flat2 (V c) = true) (hk : ∀ w d, Go.Am.KnownOk Tryd.prog w.heap.size ((Go.Am.orig Tryd.prog [] w).at d) H) (hf : Tryd.prog.funcs[g]? = some fn) (hn : (fn.name == "runtime.NumGoroutine") = false) (hb : fn.body.isNone = false)
    (h : ((List.range 256).all fun c => Go.Am.answers (V c) (Go.Am.run Tryd.prog H fuel g [.int .u8 (.ofNat c)] (Go.Am.mem0 Tryd.prog 0))) = true) (c : Nat) (hc : c < 256) (w : World) :
    Calls Tryd.prog g #[.int .u8 (c : Int)] w fun e w' => e = .returned (V c) ∧ Below w.heap.size w w' :=
  Go.Am.says_of_run hk hf hn hb rfl (hV c) (List.all_eq_true.1 h c (List.mem_range.2 hc)) w
def B8 (g : Nat) (V : Nat → Value) : Prop := ∀ (c : Nat), c < 256 → ∀ w : World, Calls Tryd.prog g #[.int .u8 (c : Int)] w fun e w' => e = .returned (V c) ∧ Below w.heap.size w w'
theorem rdigit_calls : B8 44 (fun c => .bool (digitP c)) := says8 (V := fun c => .bool (digitP c)) (fun _ => rfl) (fun _ _ => plain_ok _ _) Tryd.func44 (by kernel_rfl) (by kernel_rfl) (fuel := 100) (by kernel_rfl)
theorem rletter_calls : B8 41 (fun c => .bool (letterP c)) := says8 (V := fun c => .bool (letterP c)) (fun _ => rfl) (fun _ _ => plain_ok _ _) Tryd.func41 (by kernel_rfl) (by kernel_rfl) (fuel := 100) (by kernel_rfl)
theorem rword_calls : B8 55 (fun c => .bool (nameP c)) := says8 (V := fun c => .bool (nameP c)) (fun _ => rfl) (fun _ _ => plain_ok _ _) Tryd.func55 (by kernel_rfl) (by kernel_rfl) (fuel := 100) (by kernel_rfl)
theorem rsign_calls : B8 54 (fun c => .bool (iriP c)) := says8 (V := fun c => .bool (iriP c)) (fun _ => rfl) (fun _ _ => plain_ok _ _) Tryd.func54 (by kernel_rfl) (by kernel_rfl) (fuel := 100) (by kernel_rfl)
/-- what the reference makes of a sign behind a backslash: the byte; whether there is one. -/
def backV (c : Nat) : Nat × Bool := if c = 116 then (9, true) else if c = 110 then (10, true) else if c = 114 then (13, true) else if c = 34 ∨ c = 92 then (c, true) else (0, false)
theorem rback_calls : B8 56 (fun c => .tuple #[.int .u8 ((backV c).1 : Nat), .bool (backV c).2]) := says8 (V := fun c => .tuple #[.int .u8 ((backV c).1 : Nat), .bool (backV c).2]) (fun _ => rfl) (fun _ _ => plain_ok _ _) Tryd.func56 (by kernel_rfl) (by kernel_rfl) (fuel := 100) (by kernel_rfl)

/-! ### the reference's rows of bytes -/
def dashP (d o : Bool) (c : Nat) : Bool := nameP c || ((d && Nat.beq c 45) || (o && Nat.beq c 46))
set_option maxHeartbeats 4000000 in
set_option maxRecDepth 1000000 in
theorem rwords_FF (s : ByteArray) (n : Nat) (w : World) (hn : n ≤ 5000) (hs : s.size ≤ 4000) :
    Calls Tryd.prog 40 #[.string s, .int .i64 (n : Int), .bool false, .bool false] w fun e w' => e = .returned (.int .i64 ((n + sp (dashP false false) s n : Nat) : Int)) ∧ Below w.heap.size w w' := by
  obtain ⟨P, hP⟩ : ∃ P, dashP false false = P := ⟨_, rfl⟩
  obtain ⟨S, hS⟩ : ∃ S, sp P s n = S := ⟨_, rfl⟩
  rw [hP, hS]
  go_enter Tryd.func40, Tryd.ntmps40
  go_wp2
  · go_loopg [1] (s.size + 1) (fun gf i wx => ∃ m : Nat, i = .int .i64 (m : Int) ∧ n ≤ m ∧ m ≤ 10000 ∧ Below w.heap.size w wx ∧ spanL P (s.data.toList.drop m) (m - n) = S ∧ s.size + 1 ≤ gf + m)
    case atStart => exact ⟨n, rfl, Nat.le_refl _, by omega, Below.refl _ _, by rw [Nat.sub_self]; exact hS, by omega⟩
    case round =>
      obtain ⟨m, rfl, hnm, hm2, hbw, hsp, hfu⟩ := hrel
      by_cases hlt : m < s.size
      · obtain ⟨g', rfl⟩ : ∃ g', gk = g' + 1 := ⟨gk - 1, by omega⟩
        have hltI : (m : Int) < (s.size : Int) := by omega
        have hml : m < s.data.toList.length := by rw [Array.length_toList]; exact hlt
        have hb : s.data.toList[m] = s[m] := rfl
        have hc256 : s[m].toNat < 256 := s[m].toNat_lt
        have cS := rword_calls s[m].toNat hc256 wr
        dsimp only at cS
        have hPm : P s[m].toNat = dashP false false s[m].toNat := by rw [hP]
        rw [Row.drop_at _ _ hml, spanL_cons, hb, hPm] at hsp
        have hyes : dashP false false s[m].toNat = true → spanL P (s.data.toList.drop (m + 1)) (m + 1 - n) = S := by
          intro hp
          rw [hp] at hsp
          simp only [if_true] at hsp
          rw [show m + 1 - n = m - n + 1 by omega]; exact hsp
        have hno : dashP false false s[m].toNat = false → S = m - n := by
          intro hp
          rw [hp] at hsp
          simp only [Bool.false_eq_true, if_false] at hsp
          exact hsp.symm
        cases hN : nameP s[m].toNat with
        | true =>
          have hD : dashP false false s[m].toNat = true := by unfold dashP; rw [hN]; rfl
          rw [hN] at cS
          have hfin := hyes hD
          clear hyes hno hD hPm hsp hP hb
          go_wp2_with (go_at_call 55; refine cS.mono ?_; rintro e W' ⟨rfl, hbl⟩)
          go_roundg g'
          case measure => omega
          case rel => exact ⟨m + 1, by simp, by omega, by omega, hbw.trans (hbl.mono hbw.size), hfin, by omega⟩
        | false =>
          rw [hN] at cS
          by_cases h45 : s[m].toNat = 45
          · have i45 : (s[m].toNat : Int) = 45 := by omega
            rw [h45] at cS
            have hD : dashP false false s[m].toNat = false := by unfold dashP; rw [hN, h45]; rfl
            have hS2 := hno hD
            clear hyes hno hD hPm hsp hP hb
            go_wp2_with (go_at_call 55; refine cS.mono ?_; rintro e W' ⟨rfl, hbl⟩)
            go_ret
            exact ⟨show Ending.returned (.int .i64 (m : Int)) = _ from congrArg (fun z : Int => Ending.returned (.int .i64 z)) (by omega), hbw.trans (hbl.mono hbw.size)⟩
          · have i45 : ¬ (s[m].toNat : Int) = 45 := by omega
            have b45 : ((s[m].toNat : Int) == 45) = false := beq_eq_false_iff_ne.2 i45
            by_cases h46 : s[m].toNat = 46
            · have i46 : (s[m].toNat : Int) = 46 := by omega
              rw [h46] at cS
              have hD : dashP false false s[m].toNat = false := by unfold dashP; rw [hN, h46]; rfl
              have hS2 := hno hD
              clear hyes hno hD hPm hsp hP hb
              go_wp2_with (go_at_call 55; refine cS.mono ?_; rintro e W' ⟨rfl, hbl⟩)
              go_ret
              exact ⟨show Ending.returned (.int .i64 (m : Int)) = _ from congrArg (fun z : Int => Ending.returned (.int .i64 z)) (by omega), hbw.trans (hbl.mono hbw.size)⟩
            · have i46 : ¬ (s[m].toNat : Int) = 46 := by omega
              have b46 : ((s[m].toNat : Int) == 46) = false := beq_eq_false_iff_ne.2 i46
              have hD : dashP false false s[m].toNat = false := by
                unfold dashP
                rw [hN, show Nat.beq s[m].toNat 45 = false from Bool.eq_false_iff.2 (fun e => h45 (Nat.eq_of_beq_eq_true e)), show Nat.beq s[m].toNat 46 = false from Bool.eq_false_iff.2 (fun e => h46 (Nat.eq_of_beq_eq_true e))]
                rfl
              have hS2 := hno hD
              clear hyes hno hD hPm hsp hP hb
              go_wp2_with (go_at_call 55; refine cS.mono ?_; rintro e W' ⟨rfl, hbl⟩)
              go_ret
              exact ⟨show Ending.returned (.int .i64 (m : Int)) = _ from congrArg (fun z : Int => Ending.returned (.int .i64 z)) (by omega), hbw.trans (hbl.mono hbw.size)⟩
      · have hltI : ¬ (m : Int) < (s.size : Int) := by omega
        have hS2 : S = m - n := by
          rw [← hsp, List.drop_eq_nil_of_le (by rw [Array.length_toList]; exact Nat.le_of_not_lt hlt)]
          rfl
        go_wp2
        go_ret
        exact ⟨show Ending.returned (.int .i64 (m : Int)) = _ from congrArg (fun z : Int => Ending.returned (.int .i64 z)) (by omega), hbw⟩
set_option maxHeartbeats 4000000 in
set_option maxRecDepth 1000000 in
theorem rwords_TF (s : ByteArray) (n : Nat) (w : World) (hn : n ≤ 5000) (hs : s.size ≤ 4000) :
    Calls Tryd.prog 40 #[.string s, .int .i64 (n : Int), .bool true, .bool false] w fun e w' => e = .returned (.int .i64 ((n + sp (dashP true false) s n : Nat) : Int)) ∧ Below w.heap.size w w' := by
  obtain ⟨P, hP⟩ : ∃ P, dashP true false = P := ⟨_, rfl⟩
  obtain ⟨S, hS⟩ : ∃ S, sp P s n = S := ⟨_, rfl⟩
  rw [hP, hS]
  go_enter Tryd.func40, Tryd.ntmps40
  go_wp2
  · go_loopg [1] (s.size + 1) (fun gf i wx => ∃ m : Nat, i = .int .i64 (m : Int) ∧ n ≤ m ∧ m ≤ 10000 ∧ Below w.heap.size w wx ∧ spanL P (s.data.toList.drop m) (m - n) = S ∧ s.size + 1 ≤ gf + m)
    case atStart => exact ⟨n, rfl, Nat.le_refl _, by omega, Below.refl _ _, by rw [Nat.sub_self]; exact hS, by omega⟩
    case round =>
      obtain ⟨m, rfl, hnm, hm2, hbw, hsp, hfu⟩ := hrel
      by_cases hlt : m < s.size
      · obtain ⟨g', rfl⟩ : ∃ g', gk = g' + 1 := ⟨gk - 1, by omega⟩
        have hltI : (m : Int) < (s.size : Int) := by omega
        have hml : m < s.data.toList.length := by rw [Array.length_toList]; exact hlt
        have hb : s.data.toList[m] = s[m] := rfl
        have hc256 : s[m].toNat < 256 := s[m].toNat_lt
        have cS := rword_calls s[m].toNat hc256 wr
        dsimp only at cS
        have hPm : P s[m].toNat = dashP true false s[m].toNat := by rw [hP]
        rw [Row.drop_at _ _ hml, spanL_cons, hb, hPm] at hsp
        have hyes : dashP true false s[m].toNat = true → spanL P (s.data.toList.drop (m + 1)) (m + 1 - n) = S := by
          intro hp
          rw [hp] at hsp
          simp only [if_true] at hsp
          rw [show m + 1 - n = m - n + 1 by omega]; exact hsp
        have hno : dashP true false s[m].toNat = false → S = m - n := by
          intro hp
          rw [hp] at hsp
          simp only [Bool.false_eq_true, if_false] at hsp
          exact hsp.symm
        cases hN : nameP s[m].toNat with
        | true =>
          have hD : dashP true false s[m].toNat = true := by unfold dashP; rw [hN]; rfl
          rw [hN] at cS
          have hfin := hyes hD
          clear hyes hno hD hPm hsp hP hb
          go_wp2_with (go_at_call 55; refine cS.mono ?_; rintro e W' ⟨rfl, hbl⟩)
          go_roundg g'
          case measure => omega
          case rel => exact ⟨m + 1, by simp, by omega, by omega, hbw.trans (hbl.mono hbw.size), hfin, by omega⟩
        | false =>
          rw [hN] at cS
          by_cases h45 : s[m].toNat = 45
          · have i45 : (s[m].toNat : Int) = 45 := by omega
            rw [h45] at cS
            have hD : dashP true false s[m].toNat = true := by unfold dashP; rw [hN, h45]; rfl
            have hfin := hyes hD
            clear hyes hno hD hPm hsp hP hb
            go_wp2_with (go_at_call 55; refine cS.mono ?_; rintro e W' ⟨rfl, hbl⟩)
            go_roundg g'
            case measure => omega
            case rel => exact ⟨m + 1, by simp, by omega, by omega, hbw.trans (hbl.mono hbw.size), hfin, by omega⟩
          · have i45 : ¬ (s[m].toNat : Int) = 45 := by omega
            have b45 : ((s[m].toNat : Int) == 45) = false := beq_eq_false_iff_ne.2 i45
            by_cases h46 : s[m].toNat = 46
            · have i46 : (s[m].toNat : Int) = 46 := by omega
              rw [h46] at cS
              have hD : dashP true false s[m].toNat = false := by unfold dashP; rw [hN, h46]; rfl
              have hS2 := hno hD
              clear hyes hno hD hPm hsp hP hb
              go_wp2_with (go_at_call 55; refine cS.mono ?_; rintro e W' ⟨rfl, hbl⟩)
              go_ret
              exact ⟨show Ending.returned (.int .i64 (m : Int)) = _ from congrArg (fun z : Int => Ending.returned (.int .i64 z)) (by omega), hbw.trans (hbl.mono hbw.size)⟩
            · have i46 : ¬ (s[m].toNat : Int) = 46 := by omega
              have b46 : ((s[m].toNat : Int) == 46) = false := beq_eq_false_iff_ne.2 i46
              have hD : dashP true false s[m].toNat = false := by
                unfold dashP
                rw [hN, show Nat.beq s[m].toNat 45 = false from Bool.eq_false_iff.2 (fun e => h45 (Nat.eq_of_beq_eq_true e)), show Nat.beq s[m].toNat 46 = false from Bool.eq_false_iff.2 (fun e => h46 (Nat.eq_of_beq_eq_true e))]
                rfl
              have hS2 := hno hD
              clear hyes hno hD hPm hsp hP hb
              go_wp2_with (go_at_call 55; refine cS.mono ?_; rintro e W' ⟨rfl, hbl⟩)
              go_ret
              exact ⟨show Ending.returned (.int .i64 (m : Int)) = _ from congrArg (fun z : Int => Ending.returned (.int .i64 z)) (by omega), hbw.trans (hbl.mono hbw.size)⟩
      · have hltI : ¬ (m : Int) < (s.size : Int) := by omega
        have hS2 : S = m - n := by
          rw [← hsp, List.drop_eq_nil_of_le (by rw [Array.length_toList]; exact Nat.le_of_not_lt hlt)]
          rfl
        go_wp2
        go_ret
        exact ⟨show Ending.returned (.int .i64 (m : Int)) = _ from congrArg (fun z : Int => Ending.returned (.int .i64 z)) (by omega), hbw⟩
set_option maxHeartbeats 4000000 in
set_option maxRecDepth 1000000 in
theorem rwords_TT (s : ByteArray) (n : Nat) (w : World) (hn : n ≤ 5000) (hs : s.size ≤ 4000) :
    Calls Tryd.prog 40 #[.string s, .int .i64 (n : Int), .bool true, .bool true] w fun e w' => e = .returned (.int .i64 ((n + sp (dashP true true) s n : Nat) : Int)) ∧ Below w.heap.size w w' := by
  obtain ⟨P, hP⟩ : ∃ P, dashP true true = P := ⟨_, rfl⟩
  obtain ⟨S, hS⟩ : ∃ S, sp P s n = S := ⟨_, rfl⟩
  rw [hP, hS]
  go_enter Tryd.func40, Tryd.ntmps40
  go_wp2
  · go_loopg [1] (s.size + 1) (fun gf i wx => ∃ m : Nat, i = .int .i64 (m : Int) ∧ n ≤ m ∧ m ≤ 10000 ∧ Below w.heap.size w wx ∧ spanL P (s.data.toList.drop m) (m - n) = S ∧ s.size + 1 ≤ gf + m)
    case atStart => exact ⟨n, rfl, Nat.le_refl _, by omega, Below.refl _ _, by rw [Nat.sub_self]; exact hS, by omega⟩
    case round =>
      obtain ⟨m, rfl, hnm, hm2, hbw, hsp, hfu⟩ := hrel
      by_cases hlt : m < s.size
      · obtain ⟨g', rfl⟩ : ∃ g', gk = g' + 1 := ⟨gk - 1, by omega⟩
        have hltI : (m : Int) < (s.size : Int) := by omega
        have hml : m < s.data.toList.length := by rw [Array.length_toList]; exact hlt
        have hb : s.data.toList[m] = s[m] := rfl
        have hc256 : s[m].toNat < 256 := s[m].toNat_lt
        have cS := rword_calls s[m].toNat hc256 wr
        dsimp only at cS
        have hPm : P s[m].toNat = dashP true true s[m].toNat := by rw [hP]
        rw [Row.drop_at _ _ hml, spanL_cons, hb, hPm] at hsp
        have hyes : dashP true true s[m].toNat = true → spanL P (s.data.toList.drop (m + 1)) (m + 1 - n) = S := by
          intro hp
          rw [hp] at hsp
          simp only [if_true] at hsp
          rw [show m + 1 - n = m - n + 1 by omega]; exact hsp
        have hno : dashP true true s[m].toNat = false → S = m - n := by
          intro hp
          rw [hp] at hsp
          simp only [Bool.false_eq_true, if_false] at hsp
          exact hsp.symm
        cases hN : nameP s[m].toNat with
        | true =>
          have hD : dashP true true s[m].toNat = true := by unfold dashP; rw [hN]; rfl
          rw [hN] at cS
          have hfin := hyes hD
          clear hyes hno hD hPm hsp hP hb
          go_wp2_with (go_at_call 55; refine cS.mono ?_; rintro e W' ⟨rfl, hbl⟩)
          go_roundg g'
          case measure => omega
          case rel => exact ⟨m + 1, by simp, by omega, by omega, hbw.trans (hbl.mono hbw.size), hfin, by omega⟩
        | false =>
          rw [hN] at cS
          by_cases h45 : s[m].toNat = 45
          · have i45 : (s[m].toNat : Int) = 45 := by omega
            rw [h45] at cS
            have hD : dashP true true s[m].toNat = true := by unfold dashP; rw [hN, h45]; rfl
            have hfin := hyes hD
            clear hyes hno hD hPm hsp hP hb
            go_wp2_with (go_at_call 55; refine cS.mono ?_; rintro e W' ⟨rfl, hbl⟩)
            go_roundg g'
            case measure => omega
            case rel => exact ⟨m + 1, by simp, by omega, by omega, hbw.trans (hbl.mono hbw.size), hfin, by omega⟩
          · have i45 : ¬ (s[m].toNat : Int) = 45 := by omega
            have b45 : ((s[m].toNat : Int) == 45) = false := beq_eq_false_iff_ne.2 i45
            by_cases h46 : s[m].toNat = 46
            · have i46 : (s[m].toNat : Int) = 46 := by omega
              rw [h46] at cS
              have hD : dashP true true s[m].toNat = true := by unfold dashP; rw [hN, h46]; rfl
              have hfin := hyes hD
              clear hyes hno hD hPm hsp hP hb
              go_wp2_with (go_at_call 55; refine cS.mono ?_; rintro e W' ⟨rfl, hbl⟩)
              go_roundg g'
              case measure => omega
              case rel => exact ⟨m + 1, by simp, by omega, by omega, hbw.trans (hbl.mono hbw.size), hfin, by omega⟩
            · have i46 : ¬ (s[m].toNat : Int) = 46 := by omega
              have b46 : ((s[m].toNat : Int) == 46) = false := beq_eq_false_iff_ne.2 i46
              have hD : dashP true true s[m].toNat = false := by
                unfold dashP
                rw [hN, show Nat.beq s[m].toNat 45 = false from Bool.eq_false_iff.2 (fun e => h45 (Nat.eq_of_beq_eq_true e)), show Nat.beq s[m].toNat 46 = false from Bool.eq_false_iff.2 (fun e => h46 (Nat.eq_of_beq_eq_true e))]
                rfl
              have hS2 := hno hD
              clear hyes hno hD hPm hsp hP hb
              go_wp2_with (go_at_call 55; refine cS.mono ?_; rintro e W' ⟨rfl, hbl⟩)
              go_ret
              exact ⟨show Ending.returned (.int .i64 (m : Int)) = _ from congrArg (fun z : Int => Ending.returned (.int .i64 z)) (by omega), hbw.trans (hbl.mono hbw.size)⟩
      · have hltI : ¬ (m : Int) < (s.size : Int) := by omega
        have hS2 : S = m - n := by
          rw [← hsp, List.drop_eq_nil_of_le (by rw [Array.length_toList]; exact Nat.le_of_not_lt hlt)]
          rfl
        go_wp2
        go_ret
        exact ⟨show Ending.returned (.int .i64 (m : Int)) = _ from congrArg (fun z : Int => Ending.returned (.int .i64 z)) (by omega), hbw⟩
end
end Go.Proofs.YtcanfpppllhogaaDoor.Lx
