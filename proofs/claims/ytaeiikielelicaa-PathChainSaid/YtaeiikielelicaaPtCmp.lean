/- Terms held against one another: the program's way and the reference's. -/
import Derived.Test.YtaeiikielelicaaPtAm
import Derived.Deep.LoopGhost
import Derived.Laws.ResultCell
import Derived.Laws.StructEq
import Derived.Laws.Strings
import Derived.Laws.Cover1
set_option linter.unusedVariables false
set_option linter.unusedSimpArgs false
set_option linter.unusedSectionVars false
set_option linter.deprecated false
namespace Go.Proofs.Ytaeiikielelicaa.Pt
open Go.RowKit Go.Proofs Go.Am
open Pm
noncomputable section
def ordI (a b : Int) : Int := if a < b then -1 else if a = b then 0 else 1
def ordS (a b : ByteArray) : Int := if Op.bytesLess a.toList b.toList = true then -1 else if a.toList = b.toList then 0 else 1
def rk (k : Int) : Int := if k = 2 then 0 else if k = 1 then 1 else if k = 3 then 2 else 3
def orI (a b : Int) : Int := if a = 0 then b else a
/-- the order of terms. -/
def cmpT (a b : Tm) : Int := orI (ordI (rk a.kind) (rk b.kind)) (orI (ordI a.kind b.kind) (orI (ordS a.s b.s) (orI (ordS a.lang b.lang) (ordS a.ty b.ty))))
def cmpP (a b : Pr) : Int := orI (cmpT a.1 b.1) (cmpT a.2 b.2)
theorem cmpI_calls (a b : Int) (w : World) : Calls Try.prog 50 #[.int .i64 a, .int .i64 b] w fun e w' => e = .returned (.int .i64 (ordI a b)) ∧ w' = w := by
  unfold ordI
  go_enter Try.func50, Try.ntmps50
  by_cases h1 : a < b
  · have n1 : ¬ b < a := by omega
    have n2 : ¬ a = b := by omega
    rw [if_pos h1]
    go_wp2
    go_ret
    exact ⟨rfl, rfl⟩
  · rw [if_neg h1]
    by_cases h2 : a = b
    · subst h2
      rw [if_pos rfl]
      go_wp2
      go_ret
      exact ⟨rfl, rfl⟩
    · have n1 : b < a := by omega
      rw [if_neg h2]
      go_wp2
      go_ret
      exact ⟨rfl, rfl⟩
theorem cmpS_calls (a b : ByteArray) (w : World) : Calls Try.prog 52 #[.string a, .string b] w fun e w' => e = .returned (.int .i64 (ordS a b)) ∧ w' = w := by
  unfold ordS
  go_enter Try.func52, Try.ntmps52
  by_cases h1 : Op.bytesLess a.toList b.toList = true
  · rw [if_pos h1]
    go_wp2
    go_ret
    exact ⟨rfl, rfl⟩
  · rw [if_neg h1]
    have h1 : Op.bytesLess a.toList b.toList = false := by simpa using h1
    by_cases h2 : a.toList = b.toList
    · rw [if_pos h2]
      rw [h2] at h1
      go_wp2
      go_ret
      exact ⟨rfl, rfl⟩
    · have n1 : (a.toList == b.toList) = false := beq_eq_false_iff_ne.2 h2
      rw [if_neg h2]
      go_wp2
      go_ret
      exact ⟨rfl, rfl⟩
theorem rkP_calls (k : Int) (w : World) : Calls Try.prog 51 #[.int .i64 k] w fun e w' => e = .returned (.int .i64 (rk k)) ∧ w' = w := by
  unfold rk
  go_enter Try.func51, Try.ntmps51
  by_cases h2 : k = 2
  · subst h2
    go_wp2
    go_ret
    exact ⟨rfl, rfl⟩
  · rw [if_neg h2]
    have b2 : (k == 2) = false := beq_eq_false_iff_ne.2 h2
    by_cases h1 : k = 1
    · subst h1
      go_wp2
      go_ret
      exact ⟨rfl, rfl⟩
    · rw [if_neg h1]
      have b1 : (k == 1) = false := beq_eq_false_iff_ne.2 h1
      by_cases h3 : k = 3
      · subst h3
        go_wp2
        go_ret
        exact ⟨rfl, rfl⟩
      · rw [if_neg h3]
        have b3 : (k == 3) = false := beq_eq_false_iff_ne.2 h3
        go_wp2
        go_ret
        exact ⟨rfl, rfl⟩
theorem rkR_calls (k : Int) (w : World) : Calls Try.prog 39 #[.int .i64 k] w fun e w' => e = .returned (.int .i64 (rk k)) ∧ w' = w := by
  unfold rk
  go_enter Try.func39, Try.ntmps39
  by_cases h2 : k = 2
  · subst h2
    go_wp2
    go_ret
    exact ⟨rfl, rfl⟩
  · rw [if_neg h2]
    have b2 : (k == 2) = false := beq_eq_false_iff_ne.2 h2
    by_cases h1 : k = 1
    · subst h1
      go_wp2
      go_ret
      exact ⟨rfl, rfl⟩
    · rw [if_neg h1]
      have b1 : (k == 1) = false := beq_eq_false_iff_ne.2 h1
      by_cases h3 : k = 3
      · subst h3
        go_wp2
        go_ret
        exact ⟨rfl, rfl⟩
      · rw [if_neg h3]
        have b3 : (k == 3) = false := beq_eq_false_iff_ne.2 h3
        go_wp2
        go_ret
        exact ⟨rfl, rfl⟩
theorem ints_calls (a b : Int) (w : World) : Calls Try.prog 38 #[.int .i64 a, .int .i64 b] w fun e w' => e = .returned (.int .i64 (ordI a b)) ∧ w' = w := by
  unfold ordI
  go_enter Try.func38, Try.ntmps38
  by_cases h1 : a < b
  · have n1 : ¬ b < a := by omega
    have n2 : ¬ a = b := by omega
    rw [if_pos h1]
    go_wp2
    go_ret
    exact ⟨rfl, rfl⟩
  · rw [if_neg h1]
    by_cases h2 : a = b
    · subst h2
      rw [if_pos rfl]
      go_wp2
      go_ret
      exact ⟨rfl, rfl⟩
    · have n1 : b < a := by omega
      rw [if_neg h2]
      go_wp2
      go_ret
      exact ⟨rfl, rfl⟩
theorem order_calls (a b : ByteArray) (w : World) : Calls Try.prog 40 #[.string a, .string b] w fun e w' => e = .returned (.int .i64 (ordS a b)) ∧ w' = w := by
  unfold ordS
  go_enter Try.func40, Try.ntmps40
  by_cases h1 : Op.bytesLess a.toList b.toList = true
  · rw [if_pos h1]
    go_wp2
    go_ret
    exact ⟨rfl, rfl⟩
  · rw [if_neg h1]
    have h1 : Op.bytesLess a.toList b.toList = false := by simpa using h1
    by_cases h2 : a.toList = b.toList
    · rw [if_pos h2]
      rw [h2] at h1
      go_wp2
      go_ret
      exact ⟨rfl, rfl⟩
    · have n1 : (a.toList == b.toList) = false := beq_eq_false_iff_ne.2 h2
      rw [if_neg h2]
      go_wp2
      go_ret
      exact ⟨rfl, rfl⟩
theorem orZ_cons (z : Int) (l : List Int) : orZ (z :: l) = if z = 0 then orZ l else z := by
  show ite2 (eqI z 0) (orZ l) z = _
  rw [eqI_dec]
  by_cases h : z = 0
  · rw [if_pos h, ite2_pos (decide_eq_true h)]
  · rw [if_neg h, ite2_neg (decide_eq_false h)]
theorem or_calls (zs : List Int) (g off cap : Nat) (w : World) (hc : ∀ (j : Nat) z, zs[j]? = some z → w.cell? ⟨g, off + j, none⟩ = some (.int .i64 z)) (hl : zs.length ≤ 1000) :
    Calls Try.prog 30 #[.slice (some ⟨g, off, none⟩) zs.length cap] w fun e w' => e = .returned (.int .i64 (orZ zs)) ∧ w' = w := by
  obtain ⟨R, hR⟩ : ∃ R, orZ zs = R := ⟨_, rfl⟩
  rw [hR]
  go_enter Try.func30, Try.ntmps30
  go_wp2
  go_loopg [8] (zs.length + 1) (fun gf i wx => ∃ j : Nat, i = .int .i64 (j : Int) ∧ j ≤ zs.length ∧ orZ (zs.drop j) = R ∧ wx = w ∧ zs.length < gf + j)
  case atStart => exact ⟨0, rfl, by omega, hR, rfl, by omega⟩
  case round =>
    obtain ⟨j, rfl, hj, hr, rfl, hfu⟩ := hrel
    clear hR
    by_cases hlt : j < zs.length
    · have hltI : (j : Int) < (zs.length : Int) := by omega
      obtain ⟨g', rfl⟩ : ∃ g', gk = g' + 1 := ⟨gk - 1, by omega⟩
      have c0 := hc j zs[j] (List.getElem?_eq_getElem hlt)
      rw [List.drop_eq_getElem_cons hlt, orZ_cons] at hr
      generalize zs[j] = z at c0 hr
      clear hc
      by_cases hz : z = 0
      · subst hz
        rw [if_pos rfl] at hr
        go_wp2
        go_roundg g'
        case measure => omega
        case rel => exact ⟨j + 1, congrArg (Value.int .i64) (by omega), by omega, hr, rfl, by omega⟩
      · rw [if_neg hz] at hr
        subst hr
        have hzb : (z != 0) = true := bne_iff_ne.2 hz
        go_wp2
        go_ret
        exact ⟨rfl, rfl⟩
    · have hltI : ¬ (j : Int) < (zs.length : Int) := by omega
      rw [List.drop_eq_nil_of_le (by omega)] at hr
      have hr : 0 = R := hr
      subst hr
      clear hc
      go_wp2
      go_ret
      exact ⟨rfl, rfl⟩
theorem ordI_self (a : Int) : ordI a a = 0 := by unfold ordI; rw [if_neg (Int.lt_irrefl a), if_pos rfl]
theorem bl_irrefl : ∀ l : List UInt8, Op.bytesLess l l = false := by
  intro l
  induction l with
  | nil => rfl
  | cons a l ih => rw [Op.bytesLess, ih]; simp
theorem ordS_self (a : ByteArray) : ordS a a = 0 := by unfold ordS; rw [if_neg (by rw [bl_irrefl]; decide), if_pos rfl]
theorem cmpT_self (a : Tm) : cmpT a a = 0 := by unfold cmpT; simp only [ordI_self, ordS_self]; rfl
theorem ors : Ors Try.prog 30 := fun b off cap zs w hl hc => (or_calls zs b off cap w hc hl).mono fun _ _ h => ⟨h.1, by rw [h.2]; exact Bel.refl _ _⟩
def ordIS : List Value → Option (Bool × Value) := fun l => ob (i2 l) fun p => some (true, .int .i64 (ordI p.1 p.2))
def ordSS : List Value → Option (Bool × Value) := fun l => ob (s2 l) fun p => some (true, .int .i64 (ordS p.1 p.2))
def rkS : List Value → Option (Bool × Value) := fun l => ob (i1 l) fun k => some (true, .int .i64 (rk k))
theorem holdsI {f : Nat} {fn : Func} (hf : Try.prog.funcs[f]? = some fn) (hn : (fn.name == "runtime.NumGoroutine") = false) (hb : fn.body.isNone = false) (h : ∀ a b w, Calls Try.prog f #[.int .i64 a, .int .i64 b] w fun e w' => e = .returned (.int .i64 (ordI a b)) ∧ w' = w) : Holds Try.prog (f, ordIS) :=
  ⟨fn, hf, hn, hb, fun args v hG => by
    obtain ⟨⟨a, b⟩, h1, h2⟩ := ob_some hG
    obtain rfl := (Prod.mk.inj (Option.some.inj h2)).2
    rw [i2_some h1]
    exact ⟨rfl, rfl, fun w => (h a b w).mono fun _ _ h => ⟨h.1, by rw [h.2]; exact Bel.refl _ _⟩⟩⟩
theorem holdsS {f : Nat} {fn : Func} (hf : Try.prog.funcs[f]? = some fn) (hn : (fn.name == "runtime.NumGoroutine") = false) (hb : fn.body.isNone = false) (h : ∀ a b w, Calls Try.prog f #[.string a, .string b] w fun e w' => e = .returned (.int .i64 (ordS a b)) ∧ w' = w) : Holds Try.prog (f, ordSS) :=
  ⟨fn, hf, hn, hb, fun args v hG => by
    obtain ⟨⟨a, b⟩, h1, h2⟩ := ob_some hG
    obtain rfl := (Prod.mk.inj (Option.some.inj h2)).2
    rw [s2_some h1]
    exact ⟨rfl, rfl, fun w => (h a b w).mono fun _ _ h => ⟨h.1, by rw [h.2]; exact Bel.refl _ _⟩⟩⟩
theorem holdsR {f : Nat} {fn : Func} (hf : Try.prog.funcs[f]? = some fn) (hn : (fn.name == "runtime.NumGoroutine") = false) (hb : fn.body.isNone = false) (h : ∀ k w, Calls Try.prog f #[.int .i64 k] w fun e w' => e = .returned (.int .i64 (rk k)) ∧ w' = w) : Holds Try.prog (f, rkS) :=
  ⟨fn, hf, hn, hb, fun args v hG => by
    obtain ⟨k, h1, h2⟩ := ob_some hG
    obtain rfl := (Prod.mk.inj (Option.some.inj h2)).2
    rw [i1_some h1]
    exact ⟨rfl, rfl, fun w => (h k w).mono fun _ _ h => ⟨h.1, by rw [h.2]; exact Bel.refl _ _⟩⟩⟩
abbrev sP : List KSpec := [(50, ordIS), (51, rkS), (52, ordSS)]
abbrev sR : List KSpec := [(38, ordIS), (39, rkS), (40, ordSS)]
theorem sP_h : ∀ x ∈ sP, Holds Try.prog x := fun x h => by
  simp only [sP, List.mem_cons, List.not_mem_nil, or_false] at h
  rcases h with rfl | rfl | rfl
  · exact holdsI Try.func50 (by kernel_rfl) (by kernel_rfl) cmpI_calls
  · exact holdsR Try.func51 (by kernel_rfl) (by kernel_rfl) rkP_calls
  · exact holdsS Try.func52 (by kernel_rfl) (by kernel_rfl) cmpS_calls
theorem sR_h : ∀ x ∈ sR, Holds Try.prog x := fun x h => by
  simp only [sR, List.mem_cons, List.not_mem_nil, or_false] at h
  rcases h with rfl | rfl | rfl
  · exact holdsI Try.func38 (by kernel_rfl) (by kernel_rfl) ints_calls
  · exact holdsR Try.func39 (by kernel_rfl) (by kernel_rfl) rkR_calls
  · exact holdsS Try.func40 (by kernel_rfl) (by kernel_rfl) order_calls
abbrev hO : List Hint := [(30, orG)]
theorem hO_h (base : Nat) (wo : Orig) : ∀ p ∈ hO, HintOk Try.prog base wo p.1 p.2 := fun p h => by
  rw [List.mem_singleton.1 h]
  exact or_ok Try.func30 (by kernel_rfl) (by kernel_rfl) ors
theorem K31 (k : Int) (s g t : ByteArray) (k2 : Int) (s2 g2 t2 : ByteArray) : bodyM Try.prog (fiAt fis 31) (kcallHK sP hO) (kcallH sP hO) 3 (code 31) (res 31) [.agg ⟨[.int .i64 k, .string s, .string g, .string t]⟩, .agg ⟨[.int .i64 k2, .string s2, .string g2, .string t2]⟩] (mem0 Try.prog 0) (fun v _ => some v) =
    ite2 (ite2 (eqI k k2) (ite2 (eqS s s2) (ite2 (eqS g g2) (ite2 (eqS t t2) true false) false) false) false) (some (.int .i64 0)) (ite2 (ite2 (eqI k2 k2) true false) (ite2 (neI (ordI (rk k) (rk k2)) 0) (some (.int .i64 (ordI (rk k) (rk k2)))) (ite2 (ite2 (eqS s s) true false) (ite2 (ite2 (eqS s2 s2) true false) (ite2 (ite2 (eqS g g) (ite2 (eqS g g) true false) false) (ite2 (ite2 (eqS g2 g2) (ite2 (eqS g2 g2) true false) false) (ite2 (ite2 (eqS t t) (ite2 (eqS t t) (ite2 (eqS t t) true false) false) false) (ite2 (ite2 (eqS t2 t2) (ite2 (eqS t2 t2) (ite2 (eqS t2 t2) true false) false) false) (some (.int .i64 (orZ [ordI k k2, ordS s s2, ordS g g2, ordS t t2]))) none) none) none) none) none) none)) none) := by kernel_rfl
theorem K22 (k : Int) (s g t : ByteArray) (k2 : Int) (s2 g2 t2 : ByteArray) (lp : Code → Run) (gs : Code → Nat → Run) : bodyK Try.prog (fiAt fis 22) sR lp gs (code 22) (res 22) [.agg ⟨[.int .i64 k, .string s, .string g, .string t]⟩, .agg ⟨[.int .i64 k2, .string s2, .string g2, .string t2]⟩] =
    (ite2 (ite2 (eqI k2 k2) true false) (ite2 (eqI (ordI (rk k) (rk k2)) (0 : Int)) (ite2 (eqI (ordI k k2) (0 : Int)) (ite2 (eqI (ordS s s2) (0 : Int)) (ite2 (eqI (ordS g g2) (0 : Int)) (some (Value.int .i64 (ordS t t2))) (some (Value.int .i64 (ordS g g2)))) (ite2 (eqI (ordS s s2) (0 : Int)) (some (Value.int .i64 (ordS t t2))) (some (Value.int .i64 (ordS s s2))))) (ite2 (eqI (ordI k k2) (0 : Int)) (ite2 (eqI (ordS g g2) (0 : Int)) (some (Value.int .i64 (ordS t t2))) (some (Value.int .i64 (ordS g g2)))) (ite2 (eqI (ordI k k2) (0 : Int)) (some (Value.int .i64 (ordS t t2))) (some (Value.int .i64 (ordI k k2)))))) (ite2 (eqI (ordI (rk k) (rk k2)) (0 : Int)) (ite2 (eqI (ordS s s2) (0 : Int)) (ite2 (eqI (ordS g g2) (0 : Int)) (some (Value.int .i64 (ordS t t2))) (some (Value.int .i64 (ordS g g2)))) (ite2 (eqI (ordS s s2) (0 : Int)) (some (Value.int .i64 (ordS t t2))) (some (Value.int .i64 (ordS s s2))))) (ite2 (eqI (ordI (rk k) (rk k2)) (0 : Int)) (ite2 (eqI (ordS g g2) (0 : Int)) (some (Value.int .i64 (ordS t t2))) (some (Value.int .i64 (ordS g g2)))) (ite2 (eqI (ordI (rk k) (rk k2)) (0 : Int)) (some (Value.int .i64 (ordS t t2))) (some (Value.int .i64 (ordI (rk k) (rk k2)))))))) (none)) := by kernel_rfl
theorem orI_eq (a b : Int) : orI a b = ite2 (eqI a 0) b a := by
  unfold orI
  rw [eqI_dec]
  by_cases h : a = 0
  · rw [if_pos h, ite2_pos (decide_eq_true h)]
  · rw [if_neg h, ite2_neg (decide_eq_false h)]
theorem eqI_self (a : Int) : eqI a a = true := by rw [eqI_dec]; exact decide_eq_true rfl
theorem eqS_dec (a b : ByteArray) : eqS a b = decide (a = b) := by
  show eqL (strL a) (strL b) = _
  rw [eqL_eq, Bool.eq_iff_iff, beq_iff_eq, decide_eq_true_eq]
  obtain ⟨⟨x⟩⟩ := a
  obtain ⟨⟨y⟩⟩ := b
  simp [strL]
theorem eqS_self (a : ByteArray) : eqS a a = true := by rw [eqS_dec]; exact decide_eq_true rfl
def t2 (l : List Value) : Option (Tm × Tm) := match l with | [.agg ⟨[.int .i64 k, .string s, .string g, .string t]⟩, .agg ⟨[.int .i64 k', .string s', .string g', .string t']⟩] => some (⟨k, s, g, t⟩, ⟨k', s', g', t'⟩) | _ => none
theorem t2_some {l : List Value} {p : Tm × Tm} (h : t2 l = some p) : l = [encT p.1, encT p.2] := by
  unfold t2 at h; split at h
  · obtain rfl := Option.some.inj h; rfl
  · cases h
def cmpTS : List Value → Option (Bool × Value) := fun l => ob (t2 l) fun p => some (true, .int .i64 (cmpT p.1 p.2))
theorem rcmp_h : Holds Try.prog (22, cmpTS) := holds_of_K masks (s := sR) sR_h none Try.func22 (by kernel_rfl) (c := code 22) (by kernel_rfl) (rs := res 22) (by kernel_rfl) (by kernel_rfl) fun args v hG => by
  obtain ⟨⟨a, b⟩, h1, h2⟩ := ob_some hG
  obtain rfl := (Prod.mk.inj (Option.some.inj h2)).2
  rw [t2_some h1]
  obtain ⟨k, s, g, t⟩ := a
  obtain ⟨k2, s2, g2, t2⟩ := b
  refine ⟨rfl, rfl, rfl, 0, (K22 k s g t k2 s2 g2 t2 _ _).trans ?_⟩
  unfold cmpT
  simp only [orI_eq]
  rw [eqI_self k2]
  generalize ordI (rk k) (rk k2) = o1
  generalize ordI k k2 = o2
  generalize ordS s s2 = o3
  generalize ordS g g2 = o4
  generalize ordS t t2 = o5
  cases eqI o1 0 <;> cases eqI o2 0 <;> cases eqI o3 0 <;> cases eqI o4 0 <;> rfl
theorem pcmp_h : Holds Try.prog (31, cmpTS) :=
  ⟨_, Try.func31, by kernel_rfl, by kernel_rfl, fun args v hG => by
    obtain ⟨⟨a, b⟩, h1, h2⟩ := ob_some hG
    obtain rfl := (Prod.mk.inj (Option.some.inj h2)).2
    rw [t2_some h1]
    refine ⟨rfl, rfl, fun w => ?_⟩
    obtain ⟨k, s, g, t⟩ := a
    obtain ⟨k2, s2, g2, t2⟩ := b
    refine calls_of_M masks (wo := orig Try.prog [] w) (kcallH_same sP hO) (fun d => kcallH_ok sP_h (hO_h _ _)) Try.func31 (by kernel_rfl) (c := code 31) (by kernel_rfl) (by kernel_rfl) (args := [encT ⟨k, s, g, t⟩, encT ⟨k2, s2, g2, t2⟩]) (m := mem0 Try.prog 0) (n := 3) (by kernel_rfl) rfl ((K31 k s g t k2 s2 g2 t2).trans ?_) rfl (Go.Am.start (vs := [])) (VRels.flat rfl)
    have hab : ite2 (eqI k k2) (ite2 (eqS s s2) (ite2 (eqS g g2) (ite2 (eqS t t2) true false) false) false) false = eqB ⟨k, s, g, t⟩ ⟨k2, s2, g2, t2⟩ := by
      unfold eqB
      simp only [eqI_dec, eqS_dec, beq_bytes]
      by_cases h1 : k = k2 <;> by_cases h2 : s = s2 <;> by_cases h3 : g = g2 <;> by_cases h4 : t = t2 <;> simp [h1, h2, h3, h4, ite2]
    rw [hab, eqB_eq]
    have e : (⟨k, s, g, t⟩ : Tm) = ⟨k2, s2, g2, t2⟩ → cmpT ⟨k, s, g, t⟩ ⟨k2, s2, g2, t2⟩ = 0 := fun e => by rw [e]; exact cmpT_self _
    by_cases hc : (⟨k, s, g, t⟩ : Tm) = ⟨k2, s2, g2, t2⟩
    · rw [ite2_pos (decide_eq_true hc), e hc]
    · rw [ite2_neg (decide_eq_false hc)]
      clear e hc hab
      unfold cmpT
      simp only [orI_eq, eqI_self, eqS_self, orZ_cons, neI, eqI_dec]
      generalize ordI (rk k) (rk k2) = o1
      generalize ordI k k2 = o2
      generalize ordS s s2 = o3
      generalize ordS g g2 = o4
      generalize ordS t t2 = o5
      by_cases h1 : o1 = 0 <;> by_cases h2 : o2 = 0 <;> by_cases h3 : o3 = 0 <;> by_cases h4 : o4 = 0 <;> by_cases h5 : o5 = 0 <;> simp [h1, h2, h3, h4, h5, ite2, orZ]⟩
theorem rcmp_callsB (a b : Tm) (w : World) : Calls Try.prog 22 #[encT a, encT b] w fun e w' => e = .returned (.int .i64 (cmpT a b)) ∧ Bel w.heap.size w w' := by
  obtain ⟨fn, _, _, _, h⟩ := rcmp_h
  exact (h [encT a, encT b] _ rfl).2.2 w
theorem rcmp_calls (a b : Tm) (w : World) : Calls Try.prog 22 #[encT a, encT b] w fun e w' => e = .returned (.int .i64 (cmpT a b)) ∧ Below w.heap.size w w' := (rcmp_callsB a b w).mono fun _ _ h => ⟨h.1, h.2.toBelow⟩
theorem pcmp_callsB (a b : Tm) (w : World) : Calls Try.prog 31 #[encT a, encT b] w fun e w' => e = .returned (.int .i64 (cmpT a b)) ∧ Bel w.heap.size w w' := by
  obtain ⟨fn, _, _, _, h⟩ := pcmp_h
  exact (h [encT a, encT b] _ rfl).2.2 w
theorem pcmp_calls (a b : Tm) (w : World) : Calls Try.prog 31 #[encT a, encT b] w fun e w' => e = .returned (.int .i64 (cmpT a b)) ∧ Below w.heap.size w w' := (pcmp_callsB a b w).mono fun _ _ h => ⟨h.1, h.2.toBelow⟩
end
end Go.Proofs.Ytaeiikielelicaa.Pt
