/- What the decimals' functions do, told by the machine; the first contracts. -/
import Derived.Test.YtoieohcleepmmaaDoorAmF
import Derived.Test.YtoieohcleepmmaaDoorProg
namespace Go.Proofs.YtoieohcleepmmaaDoor
open Go.RowKit Go.Am
set_option maxRecDepth 1000000
set_option linter.unusedSimpArgs false
set_option linter.unusedVariables false
noncomputable section
def fis : List FI := [⟨0, [], false⟩, ⟨0, [], false⟩, ⟨0, [], true⟩, ⟨371, [], true⟩, ⟨520255, [(4, [0, 0, 3, 0, 0, 31, 0, 0, 255, 511, 1023, 2047])], true⟩, ⟨51, [], true⟩, ⟨3662607, [(10, [0, 0, 3, 7, 15, 0, 0, 96, 224, 480, 1023, 2047, 4095, 4095, 0, 24575, 65535]), (11, [0, 0, 3, 7, 15, 0, 0, 96, 224, 480, 1023, 2047, 4095, 4095, 0, 24575, 65535]), (12, [0, 0, 3, 7, 15, 0, 0, 96, 224, 480, 1023, 2047, 4095, 4095, 0, 24575, 65535])], true⟩, ⟨73487, [(7, [0, 0, 3, 7, 15, 15, 63, 127, 255, 511, 511, 2047, 4095, 8191, 16383, 16383, 65535, 131071, 262143, 524287, 1048575, 524287, 4194303, 8388607, 16777215]), (11, [0, 0, 2, 7, 15, 31, 31, 0, 191, 511]), (12, [0, 1, 3, 3, 15, 31, 63, 127, 127, 511, 127, 127, 4095, 8191, 16383, 32767])], true⟩, ⟨52167, [(8, [0, 0, 0, 6, 14, 31, 63, 127, 127, 0, 767, 2047]), (9, [0, 0, 0, 6, 14, 31, 63, 127, 127, 0, 767, 2047]), (20, [0, 0, 2, 7, 15, 31, 31, 0, 191, 511]), (25, [0, 0, 3, 7, 15])], true⟩, ⟨1, [], true⟩, ⟨29, [], true⟩, ⟨2305843009213695213, [], true⟩, ⟨1021, [(3, [0, 1, 3, 0, 8, 7, 63])], true⟩, ⟨19, [], true⟩, ⟨127, [(1, [0, 1, 0, 4, 12, 31, 0, 64, 0, 256, 796, 2012, 1855, 8191]), (3, [0, 1, 0, 4, 12, 31, 0, 64, 192, 476, 1023, 0, 2048, 0, 8192, 25564, 64476, 0, 131072, 393216, 975836, 2096092, 2025471, 8388607])], true⟩, ⟨243, [], true⟩, ⟨119, [(9, [0, 0, 2, 0, 14, 31, 63, 0, 0, 256, 0, 1792, 3968, 8191, 16383])], true⟩, ⟨55, [], true⟩, ⟨402653439, [(3, [0, 1, 3, 0, 8, 31, 63, 127, 255, 255, 511, 2047])], true⟩, ⟨262143, [(1, [0, 1, 0, 4, 3, 31]), (21, [0, 1, 0, 4, 12, 28, 0, 64, 192, 448, 1020, 2047, 4095])], true⟩, ⟨63, [(3, [0, 1, 3, 0, 11, 27, 63]), (6, [0, 1, 3, 0, 8, 24, 56, 127]), (9, [0, 1, 0, 4, 0, 16, 63, 127, 127, 511, 1023])], true⟩, ⟨1011, [], true⟩, ⟨5, [], true⟩, ⟨5, [], true⟩, ⟨19, [], true⟩, ⟨55, [(3, [0, 1, 3, 0, 8, 24, 63, 127, 255, 511, 1023, 1023, 2047, 8191]), (4, [0, 0, 2, 7, 0, 0, 32, 112, 15, 511])], true⟩, ⟨20407, [(3, [0, 1, 0, 4, 12, 3, 63]), (6, [0, 0, 3, 0, 0, 24, 7, 127])], true⟩, ⟨51, [], true⟩, ⟨19, [], true⟩, ⟨115, [], true⟩, ⟨19, [(4, [0, 0, 2, 7, 0, 16, 63, 127])], true⟩, ⟨19, [], true⟩, ⟨19, [], true⟩, ⟨783, [], true⟩, ⟨115, [], true⟩, ⟨13, [], true⟩, ⟨51, [], true⟩, ⟨205, [], true⟩, ⟨15, [(1, [0, 1, 0, 4, 12, 3, 63])], true⟩, ⟨31, [], true⟩, ⟨5, [], true⟩, ⟨5, [], true⟩, ⟨51, [], true⟩, ⟨7, [], true⟩, ⟨755, [], true⟩, ⟨55, [], true⟩, ⟨119, [], true⟩, ⟨5, [], true⟩, ⟨520135, [(6, [0, 0, 3, 0, 0, 24, 7, 127])], true⟩, ⟨499, [], true⟩, ⟨51, [], true⟩, ⟨19, [], true⟩, ⟨115, [(3, [0, 0, 3, 0, 0, 0, 32, 112, 248, 7, 1023, 2047])], true⟩, ⟨19, [], true⟩, ⟨19, [], true⟩, ⟨29, [], true⟩, ⟨19, [], true⟩, ⟨19, [], true⟩, ⟨19, [], true⟩, ⟨83, [], true⟩, ⟨19, [], true⟩, ⟨29, [], true⟩, ⟨5, [], true⟩, ⟨19, [], true⟩, ⟨2035, [], true⟩, ⟨19, [], true⟩, ⟨13, [], true⟩, ⟨19, [], true⟩, ⟨125, [], true⟩, ⟨5, [], true⟩, ⟨19, [], true⟩, ⟨3, [], false⟩, ⟨5, [], true⟩, ⟨2035, [], true⟩, ⟨7549, [], true⟩, ⟨47890485652059026823698344598447161988085597568358291, [(6, [0, 0, 3, 0, 0, 24, 63]), (7, [0, 0, 2, 7, 0, 0, 48, 127, 255]), (14, [0, 0, 0, 6, 15, 0, 0, 0, 192, 480, 1023]), (31, [0, 0, 0, 6, 15, 0, 0, 0, 192, 480, 1023])], true⟩, ⟨5, [], true⟩, ⟨3, [], false⟩, ⟨509, [], true⟩, ⟨19, [], true⟩, ⟨5, [], true⟩, ⟨1, [], false⟩, ⟨1, [], false⟩, ⟨1, [], false⟩, ⟨1, [], false⟩, ⟨1, [], false⟩, ⟨1, [], false⟩, ⟨1, [], false⟩, ⟨1, [], false⟩, ⟨1, [], false⟩, ⟨1, [], false⟩, ⟨1, [], false⟩, ⟨1, [], false⟩, ⟨1, [], false⟩, ⟨1, [], false⟩, ⟨1, [], false⟩, ⟨1, [], false⟩, ⟨1, [], false⟩, ⟨0, [], false⟩, ⟨0, [], false⟩, ⟨0, [], false⟩, ⟨0, [], false⟩, ⟨0, [], true⟩]
def code (f : Nat) : Code := Option.rec Code.skip (fun fn => Option.rec Code.skip (fun c => c) fn.body) (func? Tryd.prog f)
def res (f : Nat) : List ResultVar := Option.rec [] (fun fn => fn.results.toList) (func? Tryd.prog f)
def decV (m s : Int) : Value := .agg ⟨[.int .i64 m, .int .i64 s]⟩
def restAt (b : Code) (l : Nat) : Code := op2 (findLabel b l) Code.skip fun c => c
def i1 (l : List Value) : Option Int := match l with | [.int .i64 a] => some a | _ => none
def i2 (l : List Value) : Option (Int × Int) := match l with | [.int .i64 a, .int .i64 b] => some (a, b) | _ => none
def withinS : List Value → Option (Bool × Value) := fun l => ob (i2 l) fun p => some (ltI 0 p.2 && ltI p.2 1000000, .int .i64 (Int.emod p.1 p.2))
namespace Sp
/-- noughts taken away behind the point. -/
def gd : Nat → Int → Int → Int × Int
  | 0, m, s => (m, s)
  | n + 1, m, s => if 0 < s ∧ m.tmod 10 = 0 then gd n (m.tdiv 10) (s - 1) else (m, s)
def gM (a b : Int) : Int := (gd 7 (a.tmod 1000000000000000) (b % 7)).1
def gS (a b : Int) : Int := (gd 7 (a.tmod 1000000000000000) (b % 7)).2
def ok (m s : Int) : Bool := decide (-1000000000000000 < m ∧ m < 1000000000000000 ∧ 0 ≤ s ∧ s ≤ 6)
def in6 (n : Int) : Bool := decide (0 ≤ n ∧ n ≤ 6)
def in15 (n : Int) : Bool := decide (0 ≤ n ∧ n < 1000000000000000)
def in9 (n : Int) : Bool := decide (0 ≤ n ∧ n ≤ 1000000000)
def p10 (n : Int) : Int := 10 ^ n.toNat
def cmp (x y : Int) : Int := if x < y then -1 else if x = y then 0 else 1
def val (m s : Int) : Int := m * p10 (6 - s)
def absv (m s : Int) : Int := (if m < 0 then -m else m) * p10 (6 - s)
def wide (a b : Int) : Int := a * 1000000000 + b
def wid (a b : Int) : Bool := decide (0 ≤ a ∧ a < 1000000000000000 ∧ 0 ≤ b ∧ b < 1000000000)
end Sp
def d1 (l : List Value) : Option (Int × Int) := match l with | [.agg ⟨[.int .i64 a, .int .i64 b]⟩] => some (a, b) | _ => none
def d2 (l : List Value) : Option ((Int × Int) × (Int × Int)) := match l with | [.agg ⟨[.int .i64 a, .int .i64 b]⟩, .agg ⟨[.int .i64 c, .int .i64 d]⟩] => some ((a, b), (c, d)) | _ => none
def i0 (l : List Value) : Option Unit := match l with | [] => some () | _ => none
def knownS : List Value → Option (Bool × Value) := fun l => ob (i0 l) fun _ => some (true, .bool true)
def goodS : List Value → Option (Bool × Value) := fun l => ob (i2 l) fun p => some (true, decV (Sp.gM p.1 p.2) (Sp.gS p.1 p.2))
def tenS : List Value → Option (Bool × Value) := fun l => ob (i1 l) fun n => some (Sp.in6 n, .int .i64 (Sp.p10 n))
def cmpS : List Value → Option (Bool × Value) := fun l => ob (d2 l) fun q => some (Sp.ok q.1.1 q.1.2 && Sp.ok q.2.1 q.2.2, .int .i64 (Sp.cmp (Sp.val q.1.1 q.1.2) (Sp.val q.2.1 q.2.2)))
def timesS : List Value → Option (Bool × Value) := fun l => ob (i2 l) fun p => some (Sp.in15 p.1 && Sp.in9 p.2, decV (Int.tdiv (Int.mul p.1 p.2) 1000000000) (Int.tmod (Int.mul p.1 p.2) 1000000000))
def w2 (l : List Value) : Option ((Int × Int) × (Int × Int)) := d2 l
def sizedS : List Value → Option (Bool × Value) := fun l => ob (d1 l) fun p => some (Sp.ok p.1 p.2, .tuple ⟨[decV (Int.tdiv (Sp.absv p.1 p.2) 1000000000) (Int.tmod (Sp.absv p.1 p.2) 1000000000), .bool (ltI p.1 0)]⟩)
def aboveS : List Value → Option (Bool × Value) := fun l => ob (d2 l) fun q => some (Sp.wid q.1.1 q.1.2 && Sp.wid q.2.1 q.2.2, .int .i64 (Sp.cmp (Sp.wide q.1.1 q.1.2) (Sp.wide q.2.1 q.2.2)))
theorem mod_cases (n k : Int) (h1 : 0 < k) : (n.tmod k < 0 → n % k = n.tmod k + k) ∧ (0 ≤ n.tmod k → n % k = n.tmod k) ∧ -k < n.tmod k ∧ n.tmod k < k := by
  have h := Int.tmod_eq_emod (a := n) (b := k)
  have a := Int.emod_nonneg n (show k ≠ 0 by omega)
  have b := Int.emod_lt_of_pos n h1
  have c := Int.tmod_lt_of_pos n h1
  split at h
  · exact ⟨by omega, by omega, by omega, c⟩
  · rename_i hn
    have hp : n % k ≠ 0 := fun e => hn (.inr (Int.dvd_of_emod_eq_zero e))
    exact ⟨by omega, by omega, by omega, c⟩
theorem K24 (a b : Int) (lp : Code → Run) (gs : Code → Nat → Run) : bodyK Tryd.prog (fiAt fis 24) [] lp gs (code 24) (res 24) [.int .i64 a, .int .i64 b] = (ite2 (ite2 (eqI b (0 : Int)) false true) (ite2 (ltI (Int.tmod a b) (0 : Int)) (some (Value.int IntKind.i64 (wrapA IntKind.i64 (Int.add (Int.tmod a b) b)))) (some (Value.int IntKind.i64 (Int.tmod a b)))) (none)) := by kernel_rfl
def st13_3_0 (x0 : Int) (x1 : Int) (x2 : Int) (x3 : Int) : St := (St.mk (Tr.nd (some (Value.int IntKind.i64 x0)) (Tr.nd (some (Value.int IntKind.i64 x1)) Tr.e Tr.e) (Tr.nd none (Tr.nd (some (Value.pointer (some (Addr.mk 6 0 none)))) Tr.e Tr.e) Tr.e)) [] (Mem.mk (Tr.nd none Tr.e (Tr.nd none Tr.e (Tr.nd (some (Blk.cells 2 (Tr.nd (some (Value.int IntKind.i64 x2)) (Tr.nd (some (Value.int IntKind.i64 x3)) Tr.e Tr.e) Tr.e) 0 Bool.true none)) Tr.e Tr.e))) 7))
def ex13_0 (x0 : Int) (x1 : Int) (x3 : Int) (x4 : Int) (tp : Go.Am.Al) : St := (St.mk (Tr.nd (some (Value.int IntKind.i64 x0)) (Tr.nd (some (Value.int IntKind.i64 x1)) Tr.e Tr.e) (Tr.nd none (Tr.nd (some (Value.pointer (some (Addr.mk 6 0 none)))) Tr.e Tr.e) Tr.e)) tp (Mem.mk (Tr.nd none Tr.e (Tr.nd none Tr.e (Tr.nd (some (Blk.cells 2 (Tr.nd (some (Value.int IntKind.i64 x3)) (Tr.nd (some (Value.int IntKind.i64 x4)) Tr.e Tr.e) Tr.e) 0 Bool.true none)) Tr.e Tr.e))) 7))
theorem K13 (a b : Int) (lp : Code → Run) (gs : Code → Nat → Run) : bodyK Tryd.prog (fiAt fis 13) [(24, withinS)] lp gs (code 13) (res 13) [.int .i64 a, .int .i64 b] = (ob (lp (codeAt (code 13) [1, 1, 1, 0, 0, 0]) (st13_3_0 (Int.tmod a (1000000000000000 : Int)) (Int.emod b (7 : Int)) (0 : Int) (0 : Int))) fun r => (contAt Tryd.prog (fiAt fis 13) (kcallK [(24, withinS)]) (kcall [(24, withinS)]) lp gs (code 13) [1, 1, 1, 0, 0] (retK Tryd.prog (fiAt fis 13) (res 13))) r.1 r.2) := by kernel_rfl
theorem R13_3_0 (x0 : Int) (x1 : Int) (x2 : Int) (x3 : Int) (lp : Code → Run) (gs : Code → Nat → Run) : bt (gcPre none (st13_3_0 x0 x1 x2 x3)) (exK Tryd.prog (fiAt fis 13) (kcallK [(24, withinS)]) (kcall [(24, withinS)]) lp gs (codeAt (code 13) [1, 1, 1, 0, 0, 0]) (st13_3_0 x0 x1 x2 x3) (fun e st => ob (goOn (fun st => ob (gcO none st) (lp (codeAt (code 13) [1, 1, 1, 0, 0, 0]))) e st) some)) = (ite2 (gtI x1 (0 : Int)) (ite2 (eqI (Int.tmod x0 (10 : Int)) (0 : Int)) (ob (lp (codeAt (code 13) [1, 1, 1, 0, 0, 0]) (st13_3_0 (wrapA IntKind.i64 (Int.tdiv x0 (10 : Int))) (wrapA IntKind.i64 (Int.sub x1 (1 : Int))) x2 x3)) some) (some (Prod.mk (Ex.exit 0) (ex13_0 x0 x1 x2 x3 [(Prod.mk 15 (Value.bool false)), (Prod.mk 14 (Value.bool (eqI (Int.tmod x0 (10 : Int)) (0 : Int)))), (Prod.mk 13 (Value.int IntKind.i64 (Int.tmod x0 (10 : Int)))), (Prod.mk 12 (Value.int IntKind.i64 x0)), (Prod.mk 11 (Value.bool true)), (Prod.mk 10 (Value.bool (gtI x1 (0 : Int)))), (Prod.mk 9 (Value.int IntKind.i64 x1))])))) (some (Prod.mk (Ex.exit 0) (ex13_0 x0 x1 x2 x3 [(Prod.mk 15 (Value.bool false)), (Prod.mk 14 (Value.tuple (Array.mk []))), (Prod.mk 13 (Value.tuple (Array.mk []))), (Prod.mk 12 (Value.tuple (Array.mk []))), (Prod.mk 11 (Value.bool false)), (Prod.mk 10 (Value.bool (gtI x1 (0 : Int)))), (Prod.mk 9 (Value.int IntKind.i64 x1))])))) := by kernel_rfl
theorem C13_0_0 (x0 : Int) (x1 : Int) (x3 : Int) (x4 : Int) (tp : Go.Am.Al) (lp : Code → Run) (gs : Code → Nat → Run) : (contAt Tryd.prog (fiAt fis 13) (kcallK [(24, withinS)]) (kcall [(24, withinS)]) lp gs (code 13) [1, 1, 1, 0, 0] (retK Tryd.prog (fiAt fis 13) (res 13))) (Go.Am.Ex.exit 0) (ex13_0 x0 x1 x3 x4 tp) = (some (Value.agg (Array.mk [(Value.int IntKind.i64 x0), (Value.int IntKind.i64 x1)]))) := by kernel_rfl
theorem K60 (m p : Int) (lp : Code → Run) (gs : Code → Nat → Run) : bodyK Tryd.prog (fiAt fis 60) [] lp gs (code 60) (res 60) [.int .i64 m, .int .i64 p] = (some (Value.agg (Array.mk [(Value.int IntKind.i64 (wrapA IntKind.i64 (Int.add (wrapA IntKind.i64 (Int.mul (wrapA IntKind.i64 (Int.tdiv m (1000000000 : Int))) p)) (wrapA IntKind.i64 (Int.tdiv (wrapA IntKind.i64 (Int.mul (Int.tmod m (1000000000 : Int)) p)) (1000000000 : Int)))))), (Value.int IntKind.i64 (Int.tmod (wrapA IntKind.i64 (Int.mul (Int.tmod m (1000000000 : Int)) p)) (1000000000 : Int)))]))) := by kernel_rfl
theorem K38 (m s : Int) (lp : Code → Run) (gs : Code → Nat → Run) : bodyK Tryd.prog (fiAt fis 38) [(61, tenS), (60, timesS)] lp gs (code 38) (res 38) [decV m s] = (ite2 (ltI m (0 : Int)) (ite2 (Sp.in6 (wrapA IntKind.i64 (Int.sub (6 : Int) s))) (ite2 (ite2 (Sp.in15 (wrapA IntKind.i64 (Int.sub (0 : Int) m))) (Sp.in9 (Sp.p10 (wrapA IntKind.i64 (Int.sub (6 : Int) s)))) false) (some (Value.tuple (Array.mk [(Value.agg (Array.mk [(Value.int IntKind.i64 (Int.tdiv (Int.mul (wrapA IntKind.i64 (Int.sub (0 : Int) m)) (Sp.p10 (wrapA IntKind.i64 (Int.sub (6 : Int) s)))) (1000000000 : Int))), (Value.int IntKind.i64 (Int.tmod (Int.mul (wrapA IntKind.i64 (Int.sub (0 : Int) m)) (Sp.p10 (wrapA IntKind.i64 (Int.sub (6 : Int) s)))) (1000000000 : Int)))])), (Value.bool (ltI m (0 : Int)))]))) (none)) (none)) (ite2 (Sp.in6 (wrapA IntKind.i64 (Int.sub (6 : Int) s))) (ite2 (ite2 (Sp.in15 m) (Sp.in9 (Sp.p10 (wrapA IntKind.i64 (Int.sub (6 : Int) s)))) false) (some (Value.tuple (Array.mk [(Value.agg (Array.mk [(Value.int IntKind.i64 (Int.tdiv (Int.mul m (Sp.p10 (wrapA IntKind.i64 (Int.sub (6 : Int) s)))) (1000000000 : Int))), (Value.int IntKind.i64 (Int.tmod (Int.mul m (Sp.p10 (wrapA IntKind.i64 (Int.sub (6 : Int) s)))) (1000000000 : Int)))])), (Value.bool (ltI m (0 : Int)))]))) (none)) (none))) := by kernel_rfl
theorem K39 (a b c d : Int) (lp : Code → Run) (gs : Code → Nat → Run) : bodyK Tryd.prog (fiAt fis 39) [] lp gs (code 39) (res 39) [decV a b, decV c d] = (ite2 (ltI a c) (some (Value.int IntKind.i64 (Int.negSucc 0))) (ite2 (eqI a c) (ite2 (ltI b d) (some (Value.int IntKind.i64 (Int.negSucc 0))) (ite2 (ite2 (eqI a c) (ite2 (eqI b d) true false) false) (some (Value.int IntKind.i64 (0 : Int))) (some (Value.int IntKind.i64 (1 : Int))))) (ite2 (ite2 (eqI a c) (ite2 (eqI b d) true false) false) (some (Value.int IntKind.i64 (0 : Int))) (some (Value.int IntKind.i64 (1 : Int)))))) := by kernel_rfl
theorem K15 (m s n t : Int) (lp : Code → Run) (gs : Code → Nat → Run) : bodyK Tryd.prog (fiAt fis 15) [(38, sizedS), (39, aboveS)] lp gs (code 15) (res 15) [decV m s, decV n t] = (ite2 (Sp.ok m s) (ite2 (Sp.ok n t) (ite2 (ltI m (0 : Int)) (ite2 (ite2 (ltI n (0 : Int)) false true) (some (Value.int IntKind.i64 (Int.negSucc 0))) (ite2 (ltI n (0 : Int)) (ite2 (ite2 (ltI m (0 : Int)) false true) (some (Value.int IntKind.i64 (1 : Int))) (ite2 (ltI m (0 : Int)) (ite2 (ite2 (Sp.wid (Int.tdiv (Sp.absv n t) (1000000000 : Int)) (Int.tmod (Sp.absv n t) (1000000000 : Int))) (Sp.wid (Int.tdiv (Sp.absv m s) (1000000000 : Int)) (Int.tmod (Sp.absv m s) (1000000000 : Int))) false) (some (Value.int IntKind.i64 (Sp.cmp (Sp.wide (Int.tdiv (Sp.absv n t) (1000000000 : Int)) (Int.tmod (Sp.absv n t) (1000000000 : Int))) (Sp.wide (Int.tdiv (Sp.absv m s) (1000000000 : Int)) (Int.tmod (Sp.absv m s) (1000000000 : Int)))))) (none)) (ite2 (ite2 (Sp.wid (Int.tdiv (Sp.absv m s) (1000000000 : Int)) (Int.tmod (Sp.absv m s) (1000000000 : Int))) (Sp.wid (Int.tdiv (Sp.absv n t) (1000000000 : Int)) (Int.tmod (Sp.absv n t) (1000000000 : Int))) false) (some (Value.int IntKind.i64 (Sp.cmp (Sp.wide (Int.tdiv (Sp.absv m s) (1000000000 : Int)) (Int.tmod (Sp.absv m s) (1000000000 : Int))) (Sp.wide (Int.tdiv (Sp.absv n t) (1000000000 : Int)) (Int.tmod (Sp.absv n t) (1000000000 : Int)))))) (none)))) (ite2 (ltI m (0 : Int)) (ite2 (ite2 (Sp.wid (Int.tdiv (Sp.absv n t) (1000000000 : Int)) (Int.tmod (Sp.absv n t) (1000000000 : Int))) (Sp.wid (Int.tdiv (Sp.absv m s) (1000000000 : Int)) (Int.tmod (Sp.absv m s) (1000000000 : Int))) false) (some (Value.int IntKind.i64 (Sp.cmp (Sp.wide (Int.tdiv (Sp.absv n t) (1000000000 : Int)) (Int.tmod (Sp.absv n t) (1000000000 : Int))) (Sp.wide (Int.tdiv (Sp.absv m s) (1000000000 : Int)) (Int.tmod (Sp.absv m s) (1000000000 : Int)))))) (none)) (ite2 (ite2 (Sp.wid (Int.tdiv (Sp.absv m s) (1000000000 : Int)) (Int.tmod (Sp.absv m s) (1000000000 : Int))) (Sp.wid (Int.tdiv (Sp.absv n t) (1000000000 : Int)) (Int.tmod (Sp.absv n t) (1000000000 : Int))) false) (some (Value.int IntKind.i64 (Sp.cmp (Sp.wide (Int.tdiv (Sp.absv m s) (1000000000 : Int)) (Int.tmod (Sp.absv m s) (1000000000 : Int))) (Sp.wide (Int.tdiv (Sp.absv n t) (1000000000 : Int)) (Int.tmod (Sp.absv n t) (1000000000 : Int)))))) (none))))) (ite2 (ltI n (0 : Int)) (ite2 (ite2 (ltI m (0 : Int)) false true) (some (Value.int IntKind.i64 (1 : Int))) (ite2 (ltI m (0 : Int)) (ite2 (ite2 (Sp.wid (Int.tdiv (Sp.absv n t) (1000000000 : Int)) (Int.tmod (Sp.absv n t) (1000000000 : Int))) (Sp.wid (Int.tdiv (Sp.absv m s) (1000000000 : Int)) (Int.tmod (Sp.absv m s) (1000000000 : Int))) false) (some (Value.int IntKind.i64 (Sp.cmp (Sp.wide (Int.tdiv (Sp.absv n t) (1000000000 : Int)) (Int.tmod (Sp.absv n t) (1000000000 : Int))) (Sp.wide (Int.tdiv (Sp.absv m s) (1000000000 : Int)) (Int.tmod (Sp.absv m s) (1000000000 : Int)))))) (none)) (ite2 (ite2 (Sp.wid (Int.tdiv (Sp.absv m s) (1000000000 : Int)) (Int.tmod (Sp.absv m s) (1000000000 : Int))) (Sp.wid (Int.tdiv (Sp.absv n t) (1000000000 : Int)) (Int.tmod (Sp.absv n t) (1000000000 : Int))) false) (some (Value.int IntKind.i64 (Sp.cmp (Sp.wide (Int.tdiv (Sp.absv m s) (1000000000 : Int)) (Int.tmod (Sp.absv m s) (1000000000 : Int))) (Sp.wide (Int.tdiv (Sp.absv n t) (1000000000 : Int)) (Int.tmod (Sp.absv n t) (1000000000 : Int)))))) (none)))) (ite2 (ltI m (0 : Int)) (ite2 (ite2 (Sp.wid (Int.tdiv (Sp.absv n t) (1000000000 : Int)) (Int.tmod (Sp.absv n t) (1000000000 : Int))) (Sp.wid (Int.tdiv (Sp.absv m s) (1000000000 : Int)) (Int.tmod (Sp.absv m s) (1000000000 : Int))) false) (some (Value.int IntKind.i64 (Sp.cmp (Sp.wide (Int.tdiv (Sp.absv n t) (1000000000 : Int)) (Int.tmod (Sp.absv n t) (1000000000 : Int))) (Sp.wide (Int.tdiv (Sp.absv m s) (1000000000 : Int)) (Int.tmod (Sp.absv m s) (1000000000 : Int)))))) (none)) (ite2 (ite2 (Sp.wid (Int.tdiv (Sp.absv m s) (1000000000 : Int)) (Int.tmod (Sp.absv m s) (1000000000 : Int))) (Sp.wid (Int.tdiv (Sp.absv n t) (1000000000 : Int)) (Int.tmod (Sp.absv n t) (1000000000 : Int))) false) (some (Value.int IntKind.i64 (Sp.cmp (Sp.wide (Int.tdiv (Sp.absv m s) (1000000000 : Int)) (Int.tmod (Sp.absv m s) (1000000000 : Int))) (Sp.wide (Int.tdiv (Sp.absv n t) (1000000000 : Int)) (Int.tmod (Sp.absv n t) (1000000000 : Int)))))) (none))))) (none)) (none)) := by kernel_rfl
theorem K14 (m s n t : Int) (lp : Code → Run) (gs : Code → Nat → Run) : bodyK Tryd.prog (fiAt fis 14) [(37, tenS)] lp gs (code 14) (res 14) [decV m s, decV n t] = (ite2 (Sp.in6 s) (ite2 (ite2 (ite2 (eqI m m) true false) true false) (ite2 (ite2 (eqI (Sp.p10 s) (0 : Int)) false true) (ite2 (ite2 (eqI n n) true false) (ite2 (ite2 (eqI t t) true false) (ite2 (Sp.in6 t) (ite2 (ite2 (ite2 (eqI n n) (ite2 (eqI m m) true false) false) true false) (ite2 (ite2 (eqI (Sp.p10 t) (0 : Int)) false true) (ite2 (eqI (wrapA IntKind.i64 (Int.tdiv m (Sp.p10 s))) (wrapA IntKind.i64 (Int.tdiv n (Sp.p10 t)))) (ite2 (Sp.in6 s) (ite2 (ite2 (ite2 (eqI m m) true false) true false) (ite2 (ite2 (eqI (Sp.p10 s) (0 : Int)) false true) (ite2 (ite2 (eqI s s) true false) (ite2 (Sp.in6 (wrapA IntKind.i64 (Int.sub (6 : Int) s))) (ite2 (ite2 (ite2 (eqI m m) true false) true false) (ite2 (ite2 (eqI n n) (ite2 (eqI n n) true false) false) (ite2 (ite2 (eqI t t) (ite2 (eqI t t) true false) false) (ite2 (Sp.in6 t) (ite2 (ite2 (ite2 (eqI n n) (ite2 (eqI m m) true false) false) true false) (ite2 (ite2 (eqI (Sp.p10 t) (0 : Int)) false true) (ite2 (ite2 (eqI t t) (ite2 (eqI t t) (ite2 (eqI t t) true false) false) false) (ite2 (Sp.in6 (wrapA IntKind.i64 (Int.sub (6 : Int) t))) (ite2 (ite2 (ite2 (eqI n n) (ite2 (eqI m m) true false) false) true false) (ite2 (ltI (wrapA IntKind.i64 (Int.mul (Int.tmod m (Sp.p10 s)) (Sp.p10 (wrapA IntKind.i64 (Int.sub (6 : Int) s))))) (wrapA IntKind.i64 (Int.mul (Int.tmod n (Sp.p10 t)) (Sp.p10 (wrapA IntKind.i64 (Int.sub (6 : Int) t)))))) (some (Value.int IntKind.i64 (Int.negSucc 0))) (ite2 (gtI (wrapA IntKind.i64 (Int.mul (Int.tmod m (Sp.p10 s)) (Sp.p10 (wrapA IntKind.i64 (Int.sub (6 : Int) s))))) (wrapA IntKind.i64 (Int.mul (Int.tmod n (Sp.p10 t)) (Sp.p10 (wrapA IntKind.i64 (Int.sub (6 : Int) t)))))) (some (Value.int IntKind.i64 (1 : Int))) (some (Value.int IntKind.i64 (0 : Int))))) (none)) (none)) (none)) (none)) (none)) (none)) (none)) (none)) (none)) (none)) (none)) (none)) (none)) (none)) (ite2 (ltI (wrapA IntKind.i64 (Int.tdiv m (Sp.p10 s))) (wrapA IntKind.i64 (Int.tdiv n (Sp.p10 t)))) (some (Value.int IntKind.i64 (Int.negSucc 0))) (ite2 (gtI (wrapA IntKind.i64 (Int.tdiv m (Sp.p10 s))) (wrapA IntKind.i64 (Int.tdiv n (Sp.p10 t)))) (some (Value.int IntKind.i64 (1 : Int))) (some (Value.int IntKind.i64 (0 : Int)))))) (none)) (none)) (none)) (none)) (none)) (none)) (none)) (none)) := by kernel_rfl
theorem K4 (m p n q k r : Int) (lp : Code → Run) (gs : Code → Nat → Run) : bodyK Tryd.prog (fiAt fis 4) [(9, knownS), (13, goodS), (14, cmpS), (15, cmpS)] lp gs (code 4) (res 4) [.int .i64 m, .int .i64 p, .int .i64 n, .int .i64 q, .int .i64 k, .int .i64 r] = (ite2 (ite2 (Sp.ok (Sp.gM m p) (Sp.gS m p)) (Sp.ok (Sp.gM n q) (Sp.gS n q)) false) (ite2 (ite2 (ite2 (eqI (Sp.gM n q) (Sp.gM n q)) (ite2 (eqI (Sp.gS n q) (Sp.gS n q)) true false) false) true false) (ite2 (ite2 (ite2 (eqI (Sp.gM k r) (Sp.gM k r)) (ite2 (eqI (Sp.gS k r) (Sp.gS k r)) true false) false) true false) (ite2 (ite2 (Sp.ok (Sp.gM n q) (Sp.gS n q)) (Sp.ok (Sp.gM k r) (Sp.gS k r)) false) (ite2 (ite2 (ite2 (eqI (Sp.gM m p) (Sp.gM m p)) (ite2 (eqI (Sp.gS m p) (Sp.gS m p)) true false) false) (ite2 (ite2 (eqI (Sp.gM m p) (Sp.gM m p)) (ite2 (eqI (Sp.gS m p) (Sp.gS m p)) true false) false) true false) false) (ite2 (ite2 (ite2 (eqI (Sp.gM k r) (Sp.gM k r)) (ite2 (eqI (Sp.gS k r) (Sp.gS k r)) true false) false) (ite2 (ite2 (eqI (Sp.gM k r) (Sp.gM k r)) (ite2 (eqI (Sp.gS k r) (Sp.gS k r)) true false) false) true false) false) (ite2 (ite2 (Sp.ok (Sp.gM m p) (Sp.gS m p)) (Sp.ok (Sp.gM k r) (Sp.gS k r)) false) (ite2 (ite2 (Sp.ok (Sp.gM m p) (Sp.gS m p)) (Sp.ok (Sp.gM n q) (Sp.gS n q)) false) (ite2 (eqI (Sp.cmp (Sp.val (Sp.gM m p) (Sp.gS m p)) (Sp.val (Sp.gM n q) (Sp.gS n q))) (Sp.cmp (Sp.val (Sp.gM m p) (Sp.gS m p)) (Sp.val (Sp.gM n q) (Sp.gS n q)))) (ite2 (ite2 (Sp.ok (Sp.gM n q) (Sp.gS n q)) (Sp.ok (Sp.gM k r) (Sp.gS k r)) false) (ite2 (eqI (Sp.cmp (Sp.val (Sp.gM n q) (Sp.gS n q)) (Sp.val (Sp.gM k r) (Sp.gS k r))) (Sp.cmp (Sp.val (Sp.gM n q) (Sp.gS n q)) (Sp.val (Sp.gM k r) (Sp.gS k r)))) (ite2 (ite2 (Sp.ok (Sp.gM n q) (Sp.gS n q)) (Sp.ok (Sp.gM m p) (Sp.gS m p)) false) (ite2 (eqI (Sp.cmp (Sp.val (Sp.gM n q) (Sp.gS n q)) (Sp.val (Sp.gM m p) (Sp.gS m p))) (wrapA IntKind.i64 (Int.sub (0 : Int) (Sp.cmp (Sp.val (Sp.gM m p) (Sp.gS m p)) (Sp.val (Sp.gM n q) (Sp.gS n q)))))) (ite2 (ite2 (eqI (Sp.cmp (Sp.val (Sp.gM m p) (Sp.gS m p)) (Sp.val (Sp.gM n q) (Sp.gS n q))) (0 : Int)) (ite2 (eqI (Sp.gM m p) (Sp.gM n q)) (ite2 (eqI (Sp.gS m p) (Sp.gS n q)) true false) false) (ite2 (ite2 (eqI (Sp.gM m p) (Sp.gM n q)) (ite2 (eqI (Sp.gS m p) (Sp.gS n q)) true false) false) false true)) (ite2 (gtI (Sp.cmp (Sp.val (Sp.gM m p) (Sp.gS m p)) (Sp.val (Sp.gM n q) (Sp.gS n q))) (0 : Int)) (some (Value.bool true)) (ite2 (gtI (Sp.cmp (Sp.val (Sp.gM n q) (Sp.gS n q)) (Sp.val (Sp.gM k r) (Sp.gS k r))) (0 : Int)) (some (Value.bool true)) (some (Value.bool (leI (Sp.cmp (Sp.val (Sp.gM m p) (Sp.gS m p)) (Sp.val (Sp.gM k r) (Sp.gS k r))) (0 : Int)))))) (some (Value.bool false))) (some (Value.bool false))) (none)) (some (Value.bool false))) (none)) (some (Value.bool false))) (none)) (none)) (none)) (none)) (none)) (none)) (none)) (none)) := by kernel_rfl
theorem fis_ok : fisOk Tryd.prog fis = true := by kernel_rfl
def masks : Masks Tryd.prog := ⟨fis, fis_ok⟩
theorem i1_some {l : List Value} {a : Int} (h : i1 l = some a) : l = [.int .i64 a] := by
  unfold i1 at h; split at h
  · obtain rfl := Option.some.inj h; rfl
  · cases h
theorem i2_some {l : List Value} {p : Int × Int} (h : i2 l = some p) : l = [.int .i64 p.1, .int .i64 p.2] := by
  unfold i2 at h; split at h
  · obtain rfl := Option.some.inj h; rfl
  · cases h
theorem d1_some {l : List Value} {p : Int × Int} (h : d1 l = some p) : l = [decV p.1 p.2] := by
  unfold d1 at h; split at h
  · obtain rfl := Option.some.inj h; rfl
  · cases h
theorem d2_some {l : List Value} {q : (Int × Int) × (Int × Int)} (h : d2 l = some q) : l = [decV q.1.1 q.1.2, decV q.2.1 q.2.2] := by
  unfold d2 at h; split at h
  · obtain rfl := Option.some.inj h; rfl
  · cases h
theorem i0_some {l : List Value} (h : i0 l = some ()) : l = [] := by
  unfold i0 at h; split at h
  · rfl
  · cases h
noncomputable def plain : Hints := hints masks []
theorem plain_ok (base : Nat) (wo : Orig) : KnownOk Tryd.prog base wo plain := hints_ok fun _ h => by cases h
theorem known_is : Says Tryd.prog 9 #[] (.bool true) :=
  says_of_run (fun _ _ => plain_ok _ _) Tryd.func9 (by kernel_rfl) (by kernel_rfl) rfl rfl (fuel := 1000) (by kernel_rfl)
theorem known_h : Holds Tryd.prog (9, knownS) := holds_of_says Tryd.func9 (by kernel_rfl) (by kernel_rfl) fun args v hG => by
  obtain ⟨_, h1, h⟩ := ob_some hG
  obtain ⟨_, rfl⟩ := Prod.mk.inj (Option.some.inj h)
  rw [i0_some h1]
  exact ⟨rfl, rfl, known_is⟩
/-- the numbers from 0 to 6, one by one. -/
theorem six {p : Int → Prop} (h : ∀ i : Fin 7, p (i.val : Int)) (n : Int) (hn : Sp.in6 n = true) : p n := by
  have hn' : 0 ≤ n ∧ n ≤ 6 := by simpa [Sp.in6] using hn
  obtain ⟨k, rfl⟩ := Int.eq_ofNat_of_zero_le hn'.1
  exact h ⟨k, by omega⟩
theorem ten_h : Holds Tryd.prog (37, tenS) := holds_of_says Tryd.func37 (by kernel_rfl) (by kernel_rfl) fun args v hG => by
  obtain ⟨n, h1, h⟩ := ob_some hG
  obtain ⟨hp, rfl⟩ := Prod.mk.inj (Option.some.inj h)
  rw [i1_some h1]
  refine ⟨rfl, rfl, six (p := fun n => Says Tryd.prog 37 ⟨[.int .i64 n]⟩ (.int .i64 (Sp.p10 n))) (fun i => ?_) n hp⟩
  match i with
  | 0 => exact says_of_run (fun _ _ => plain_ok _ _) Tryd.func37 (by kernel_rfl) (by kernel_rfl) rfl rfl (fuel := 100) (by kernel_rfl)
  | 1 => exact says_of_run (fun _ _ => plain_ok _ _) Tryd.func37 (by kernel_rfl) (by kernel_rfl) rfl rfl (fuel := 100) (by kernel_rfl)
  | 2 => exact says_of_run (fun _ _ => plain_ok _ _) Tryd.func37 (by kernel_rfl) (by kernel_rfl) rfl rfl (fuel := 100) (by kernel_rfl)
  | 3 => exact says_of_run (fun _ _ => plain_ok _ _) Tryd.func37 (by kernel_rfl) (by kernel_rfl) rfl rfl (fuel := 100) (by kernel_rfl)
  | 4 => exact says_of_run (fun _ _ => plain_ok _ _) Tryd.func37 (by kernel_rfl) (by kernel_rfl) rfl rfl (fuel := 100) (by kernel_rfl)
  | 5 => exact says_of_run (fun _ _ => plain_ok _ _) Tryd.func37 (by kernel_rfl) (by kernel_rfl) rfl rfl (fuel := 100) (by kernel_rfl)
  | 6 => exact says_of_run (fun _ _ => plain_ok _ _) Tryd.func37 (by kernel_rfl) (by kernel_rfl) rfl rfl (fuel := 100) (by kernel_rfl)
theorem power_h : Holds Tryd.prog (61, tenS) := holds_of_says Tryd.func61 (by kernel_rfl) (by kernel_rfl) fun args v hG => by
  obtain ⟨n, h1, h⟩ := ob_some hG
  obtain ⟨hp, rfl⟩ := Prod.mk.inj (Option.some.inj h)
  rw [i1_some h1]
  refine ⟨rfl, rfl, six (p := fun n => Says Tryd.prog 61 ⟨[.int .i64 n]⟩ (.int .i64 (Sp.p10 n))) (fun i => ?_) n hp⟩
  match i with
  | 0 => exact says_of_run (fun _ _ => plain_ok _ _) Tryd.func61 (by kernel_rfl) (by kernel_rfl) rfl rfl (fuel := 100) (by kernel_rfl)
  | 1 => exact says_of_run (fun _ _ => plain_ok _ _) Tryd.func61 (by kernel_rfl) (by kernel_rfl) rfl rfl (fuel := 100) (by kernel_rfl)
  | 2 => exact says_of_run (fun _ _ => plain_ok _ _) Tryd.func61 (by kernel_rfl) (by kernel_rfl) rfl rfl (fuel := 100) (by kernel_rfl)
  | 3 => exact says_of_run (fun _ _ => plain_ok _ _) Tryd.func61 (by kernel_rfl) (by kernel_rfl) rfl rfl (fuel := 100) (by kernel_rfl)
  | 4 => exact says_of_run (fun _ _ => plain_ok _ _) Tryd.func61 (by kernel_rfl) (by kernel_rfl) rfl rfl (fuel := 100) (by kernel_rfl)
  | 5 => exact says_of_run (fun _ _ => plain_ok _ _) Tryd.func61 (by kernel_rfl) (by kernel_rfl) rfl rfl (fuel := 100) (by kernel_rfl)
  | 6 => exact says_of_run (fun _ _ => plain_ok _ _) Tryd.func61 (by kernel_rfl) (by kernel_rfl) rfl rfl (fuel := 100) (by kernel_rfl)
theorem within_h : Holds Tryd.prog (24, withinS) := holds_of_K masks (s := []) (fun _ h => by cases h) none Tryd.func24 (by kernel_rfl) (c := code 24) (by kernel_rfl) (rs := res 24) (by kernel_rfl) (by kernel_rfl) fun args v hG => by
  obtain ⟨⟨a, b⟩, h1, h⟩ := ob_some hG
  obtain ⟨hp, rfl⟩ := Prod.mk.inj (Option.some.inj h)
  rw [i2_some h1]
  refine ⟨rfl, rfl, rfl, 0, ?_⟩
  simp only [ltI_eq, Bool.and_eq_true, decide_eq_true_eq] at hp
  obtain ⟨hA, hB, hlo, hhi⟩ := mod_cases a b hp.1
  refine (K24 a b _ _).trans ?_
  simp only [eqI_dec, ltI_eq, ite2_if, decide_eq_true_eq]
  rw [if_pos (show (if b = 0 then false else true) = true by rw [if_neg (by omega)])]
  by_cases hn : a.tmod b < 0
  · rw [if_pos hn, wrapA_i64 (by have := hA hn; show _ ≤ a.tmod b + b; omega) (by show a.tmod b + b < _; omega), show Int.add (a.tmod b) b = a.tmod b + b from rfl, ← hA hn]; rfl
  · rw [if_neg hn, ← hB (by omega)]; rfl

end
end Go.Proofs.YtoieohcleepmmaaDoor
