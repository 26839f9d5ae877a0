/- What the functions of decimals do, told by the machine; contracts. -/
import Derived.Test.YtnoppcnfdnkhbaaDoorAmF
import Derived.Lib.SlTrimSet
import Derived.Lib.Strings
import Derived.Lib.Bytealg
import Derived.Lib.BitFns
import Derived.Test.YtnoppcnfdnkhbaaDoorProg
namespace Go.Proofs.YtnoppcnfdnkhbaaDoor
open Go.RowKit Go.Am
set_option maxRecDepth 1000000
set_option linter.unusedSimpArgs false
set_option linter.unusedVariables false
noncomputable section
def fis : List FI := [⟨0, [], false⟩, ⟨0, [], false⟩, ⟨0, [], true⟩, ⟨34361311039, [(5, [0, 1, 0, 7, 15, 0, 47, 0, 239, 495, 0, 1519, 0, 7663, 15855, 0, 48623, 0, 245231, 507375, 1048575, 2097151]), (9, [0, 0, 3, 7, 15, 0, 0, 96, 224, 480, 0, 0, 3103, 8191])], true⟩, ⟨1, [], true⟩, ⟨5, [], true⟩, ⟨137438953487, [], true⟩, ⟨16373, [], true⟩, ⟨15, [(8, [0, 1, 3, 7, 15, 31, 63, 0, 135, 511, 1023])], true⟩, ⟨15, [], true⟩, ⟨11263, [], true⟩, ⟨63, [(7, [0, 0, 3, 0, 0, 24, 7, 127])], true⟩, ⟨16383, [], true⟩, ⟨63, [], true⟩, ⟨19, [], true⟩, ⟨19, [], true⟩, ⟨115, [], true⟩, ⟨19, [], true⟩, ⟨15, [], true⟩, ⟨31, [], true⟩, ⟨5, [], true⟩, ⟨15, [], true⟩, ⟨31, [], true⟩, ⟨5, [], true⟩, ⟨127, [(1, [0, 1, 0, 4, 12, 31, 0, 64, 0, 256, 796, 2012, 1855, 8191]), (3, [0, 1, 0, 4, 12, 31, 0, 64, 192, 476, 1023, 0, 2048, 0, 8192, 25564, 64476, 0, 131072, 393216, 975836, 2096092, 2025471, 8388607])], true⟩, ⟨243, [], true⟩, ⟨31, [], true⟩, ⟨19, [], true⟩, ⟨2305843009213695213, [], true⟩, ⟨1021, [(3, [0, 1, 3, 0, 8, 7, 63])], true⟩, ⟨205, [], true⟩, ⟨15, [(1, [0, 1, 0, 4, 12, 3, 63])], true⟩, ⟨31, [], true⟩, ⟨19, [], true⟩, ⟨51, [], true⟩, ⟨19, [], true⟩, ⟨115, [], true⟩, ⟨19, [(4, [0, 0, 2, 7, 0, 16, 63, 127])], true⟩, ⟨19, [], true⟩, ⟨19, [], true⟩, ⟨783, [], true⟩, ⟨115, [], true⟩, ⟨13, [], true⟩, ⟨51, [], true⟩, ⟨19, [], true⟩, ⟨29, [], true⟩, ⟨2035, [], true⟩, ⟨51, [], true⟩, ⟨19, [], true⟩, ⟨115, [(3, [0, 0, 3, 0, 0, 0, 32, 112, 248, 7, 1023, 2047])], true⟩, ⟨19, [], true⟩, ⟨19, [], true⟩, ⟨29, [], true⟩, ⟨19, [], true⟩, ⟨19, [], true⟩, ⟨19, [], true⟩, ⟨83, [], true⟩, ⟨520135, [(6, [0, 0, 3, 0, 0, 24, 7, 127])], true⟩, ⟨5, [], true⟩, ⟨5, [], true⟩, ⟨19, [], true⟩, ⟨3, [], false⟩, ⟨5, [], true⟩, ⟨2035, [], true⟩, ⟨19, [], true⟩, ⟨19, [], true⟩, ⟨13, [], true⟩, ⟨19, [], true⟩, ⟨125, [], true⟩, ⟨5, [], true⟩, ⟨3, [], false⟩, ⟨509, [], true⟩, ⟨7549, [], true⟩, ⟨47890485652059026823698344598447161988085597568358291, [(6, [0, 0, 3, 0, 0, 24, 63]), (7, [0, 0, 2, 7, 0, 0, 48, 127, 255]), (14, [0, 0, 0, 6, 15, 0, 0, 0, 192, 480, 1023]), (31, [0, 0, 0, 6, 15, 0, 0, 0, 192, 480, 1023])], true⟩, ⟨5, [], true⟩, ⟨5, [], true⟩, ⟨19, [], true⟩, ⟨5, [], true⟩, ⟨1, [], false⟩, ⟨1, [], false⟩, ⟨1, [], false⟩, ⟨1, [], false⟩, ⟨1, [], false⟩, ⟨1, [], false⟩, ⟨1, [], false⟩, ⟨1, [], false⟩, ⟨1, [], false⟩, ⟨1, [], false⟩, ⟨1, [], false⟩, ⟨1, [], false⟩, ⟨1, [], false⟩, ⟨1, [], false⟩, ⟨1, [], false⟩, ⟨1, [], false⟩, ⟨1, [], false⟩, ⟨0, [], false⟩, ⟨0, [], false⟩, ⟨0, [], false⟩, ⟨0, [], false⟩, ⟨0, [], true⟩]
def code (f : Nat) : Code := Option.rec Code.skip (fun fn => Option.rec Code.skip (fun c => c) fn.body) (func? Tryd.prog f)
def res (f : Nat) : List ResultVar := Option.rec [] (fun fn => fn.results.toList) (func? Tryd.prog f)
def decV (m s : Int) : Value := .agg ⟨[.int .i64 m, .int .i64 s]⟩
def restAt (b : Code) (l : Nat) : Code := op2 (findLabel b l) Code.skip fun c => c
def i1 (l : List Value) : Option Int := match l with | [.int .i64 a] => some a | _ => none
def i2 (l : List Value) : Option (Int × Int) := match l with | [.int .i64 a, .int .i64 b] => some (a, b) | _ => none
def withinS : List Value → Option (Bool × Value) := fun l => ob (i2 l) fun p => some (ltI 0 p.2 && ltI p.2 1000000, .int .i64 (Int.emod p.1 p.2))
namespace Sp
/-- noughts taken away behind the point. -/
def gd : Nat → Int → Int → Int × Int
  | 0, m, s => (m, s)
  | n + 1, m, s => if 0 < s ∧ m.tmod 10 = 0 then gd n (m.tdiv 10) (s - 1) else (m, s)
def ok (m s : Int) : Bool := decide (-1000000000000000 < m ∧ m < 1000000000000000 ∧ 0 ≤ s ∧ s ≤ 6)
def in6 (n : Int) : Bool := decide (0 ≤ n ∧ n ≤ 6)
def in15 (n : Int) : Bool := decide (0 ≤ n ∧ n < 1000000000000000)
def in9 (n : Int) : Bool := decide (0 ≤ n ∧ n ≤ 1000000000)
def p10 (n : Int) : Int := 10 ^ n.toNat
def cmp (x y : Int) : Int := if x < y then -1 else if x = y then 0 else 1
def val (m s : Int) : Int := m * p10 (6 - s)
def absv (m s : Int) : Int := (if m < 0 then -m else m) * p10 (6 - s)
def wide (a b : Int) : Int := a * 1000000000 + b
def wid (a b : Int) : Bool := decide (0 ≤ a ∧ a < 1000000000000000 ∧ 0 ≤ b ∧ b < 1000000000)
def d8 (n : Int) : UInt8 := UInt8.ofNat (48 + n).toNat
/-- a number's digits, so many at least, ahead of what is there. -/
def dg : Nat → Int → Int → List UInt8 → List UInt8
  | 0, _, _, s => s
  | k + 1, n, w, s => if 0 < n ∨ (s.length : Int) < w then dg k (n.tdiv 10) w (d8 (n.tmod 10) :: s) else s
def digits (n w : Int) : ByteArray := strOf (dg 40 n w [])
def fl (n : Int) : Nat := FloatKind.nearest .f64 n
def fok (a : Nat) : Bool := (floatToIntVal .f64 a .i64).isSome
def fi (a : Nat) : Int := (floatToIntVal .f64 a .i64).getD 0
def in62 (n : Int) : Bool := decide (-4611686018427387904 < n ∧ n < 4611686018427387904)
def u64 (n : Int) : Bool := decide (0 ≤ n ∧ n < 18446744073709551616)
def dvOk (hi lo y : Int) : Bool := decide (hi = 0 ∧ 0 ≤ lo ∧ lo < 18446744073709551616 ∧ 0 < y ∧ y < 9223372036854775808)
def dvQ (hi lo y : Int) : Int := (hi * 18446744073709551616 + lo) / y
def dvR (hi lo y : Int) : Int := (hi * 18446744073709551616 + lo) % y
def in12 (n : Int) : Bool := decide (0 ≤ n ∧ n ≤ 12)
def sg (b : Bool) (n : Int) : Int := if b = true then -n else n
/-- a number with so many digits behind the point, as a decimal, if it is one. -/
def rOk (n s : Int) : Bool := decide ((gd 13 n s).2 ≤ 6 ∧ -1000000000000000 < (gd 13 n s).1 ∧ (gd 13 n s).1 < 1000000000000000)
def rM (n s : Int) : Int := if rOk n s = true then (gd 13 n s).1 else 0
def rS (n s : Int) : Int := if rOk n s = true then (gd 13 n s).2 else 0
end Sp
def d1 (l : List Value) : Option (Int × Int) := match l with | [.agg ⟨[.int .i64 a, .int .i64 b]⟩] => some (a, b) | _ => none
def d2 (l : List Value) : Option ((Int × Int) × (Int × Int)) := match l with | [.agg ⟨[.int .i64 a, .int .i64 b]⟩, .agg ⟨[.int .i64 c, .int .i64 d]⟩] => some ((a, b), (c, d)) | _ => none
def tenS : List Value → Option (Bool × Value) := fun l => ob (i1 l) fun n => some (Sp.in6 n, .int .i64 (Sp.p10 n))
def cmpS : List Value → Option (Bool × Value) := fun l => ob (d2 l) fun q => some (Sp.ok q.1.1 q.1.2 && Sp.ok q.2.1 q.2.2, .int .i64 (Sp.cmp (Sp.val q.1.1 q.1.2) (Sp.val q.2.1 q.2.2)))
def timesS : List Value → Option (Bool × Value) := fun l => ob (i2 l) fun p => some (Sp.in15 p.1 && Sp.in9 p.2, decV (Int.tdiv (Int.mul p.1 p.2) 1000000000) (Int.tmod (Int.mul p.1 p.2) 1000000000))
def w2 (l : List Value) : Option ((Int × Int) × (Int × Int)) := d2 l
def sizedS : List Value → Option (Bool × Value) := fun l => ob (d1 l) fun p => some (Sp.ok p.1 p.2, .tuple ⟨[decV (Int.tdiv (Sp.absv p.1 p.2) 1000000000) (Int.tmod (Sp.absv p.1 p.2) 1000000000), .bool (ltI p.1 0)]⟩)
def aboveS : List Value → Option (Bool × Value) := fun l => ob (d2 l) fun q => some (Sp.wid q.1.1 q.1.2 && Sp.wid q.2.1 q.2.2, .int .i64 (Sp.cmp (Sp.wide q.1.1 q.1.2) (Sp.wide q.2.1 q.2.2)))
def c1 (l : List Value) : Option (Nat × Nat) := match l with | [.complex .f64 a b] => some (a, b) | _ => none
def u3 (l : List Value) : Option (Int × Int × Int) := match l with | [.int .u64 a, .int .u64 b, .int .u64 c] => some (a, b, c) | _ => none
def pointS : List Value → Option (Bool × Value) := fun l => ob (d1 l) fun p => some (true, .complex .f64 (Sp.fl p.1) (Sp.fl p.2))
def ofS : List Value → Option (Bool × Value) := fun l => ob (c1 l) fun p => some (Sp.fok p.1 && Sp.fok p.2, decV (Sp.fi p.1) (Sp.fi p.2))
def div64S : List Value → Option (Bool × Value) := fun l => ob (u3 l) fun q => some (Sp.dvOk q.1 q.2.1 q.2.2, .tuple ⟨[.int .u64 (Sp.dvQ q.1 q.2.1 q.2.2), .int .u64 (Sp.dvR q.1 q.2.1 q.2.2)]⟩)
def decRes (n s : Int) : Value := .tuple ⟨[decV (Sp.rM n s) (Sp.rS n s), .bool (Sp.rOk n s)]⟩
def w4 (l : List Value) : Option ((Int × Int) × (Int × Bool)) := match l with | [.int .u64 a, .int .u64 b, .int .i64 c, .bool d] => some ((a, b), (c, d)) | _ => none
def normS : List Value → Option (Bool × Value) := fun l => ob (i2 l) fun p => some (Sp.in62 p.1 && Sp.in12 p.2, decRes p.1 p.2)
def wholeS : List Value → Option (Bool × Value) := fun l => ob (w4 l) fun q => some (eqI q.1.1 0 && (Sp.in62 q.1.2 && (leI 0 q.1.2 && Sp.in12 q.2.1)), decRes (Sp.sg q.2.2 q.1.2) q.2.1)
def s1 (l : List Value) : Option ByteArray := match l with | [.string a] => some a | _ => none
def s2 (l : List Value) : Option (ByteArray × ByteArray) := match l with | [.string a, .string b] => some (a, b) | _ => none
namespace Sp
def short (s : ByteArray) : Bool := decide ((strL s).length < 4000000000)
def asc (p : ByteArray) : Bool := (strL p).all (fun b => Nat.blt b.toNat 128) && Nat.ble (strL p).length 1000
def hasP (s p : ByteArray) : Bool := Lib.hasPrefix (strL s) (strL p)
def cutP (s p : ByteArray) : ByteArray := strOf (Lib.trimPrefix (strL s) (strL p))
def dot (p : ByteArray) : Bool := decide (strL p = [46])
/-- where a byte stands first; -1: nowhere. -/
def ixb (s : ByteArray) (c : Int) : Int := Lib.indexByte (strL s) c.toNat.toUInt8
/-- ahead of the first point, behind it. -/
def front (s : ByteArray) : ByteArray := strOf ((strL s).takeWhile fun b => !decide (b = 46))
def behind (s : ByteArray) : ByteArray := strOf ((strL s).drop (((strL s).takeWhile fun b => !decide (b = 46)).length + 1))
def has (s : ByteArray) : Bool := (strL s).any fun b => decide (b = 46)
def trimL (s p : ByteArray) : ByteArray := strOf (Lib.trimLeftS (strL s) (strL p))
def trimR (s p : ByteArray) : ByteArray := strOf (Lib.trimRightS (strL s) (strL p))
def trim (s p : ByteArray) : ByteArray := strOf (Lib.trimS (strL s) (strL p))
end Sp
def cutPrefixS : List Value → Option (Bool × Value) := fun l => ob (s2 l) fun p => some (true, .tuple ⟨[.string (Sp.cutP p.1 p.2), .bool (Sp.hasP p.1 p.2)]⟩)
def trimPrefixS : List Value → Option (Bool × Value) := fun l => ob (s2 l) fun p => some (true, .string (Sp.cutP p.1 p.2))
def cutS : List Value → Option (Bool × Value) := fun l => ob (s2 l) fun p => some (Sp.dot p.2 && Sp.short p.1, .tuple ⟨[.string (Sp.front p.1), .string (Sp.behind p.1), .bool (Sp.has p.1)]⟩)
def trimLS : List Value → Option (Bool × Value) := fun l => ob (s2 l) fun p => some (Sp.asc p.2 && Sp.short p.1, .string (Sp.trimL p.1 p.2))
def trimRS : List Value → Option (Bool × Value) := fun l => ob (s2 l) fun p => some (Sp.asc p.2 && Sp.short p.1, .string (Sp.trimR p.1 p.2))
def trimAS : List Value → Option (Bool × Value) := fun l => ob (s2 l) fun p => some (Sp.asc p.2 && Sp.short p.1, .string (Sp.trim p.1 p.2))
def sb (l : List Value) : Option (ByteArray × Int) := match l with | [.string a, .int .u8 c] => some (a, c) | _ => none
def ixbS : List Value → Option (Bool × Value) := fun l => ob (sb l) fun p => some (leI 0 p.2 && ltI p.2 256, .int .i64 (Sp.ixb p.1 p.2))
def ixS : List Value → Option (Bool × Value) := fun l => ob (s2 l) fun p => some (Sp.dot p.2, .int .i64 (Sp.ixb p.1 46))
namespace Sp
def dig (b : UInt8) : Bool := decide (48 ≤ b.toNat ∧ b.toNat ≤ 57)
/-- a row of digits as a number, behind what is there. -/
def num (n : Int) (l : List UInt8) : Int := l.foldl (fun a b => 10 * a + ((b.toNat : Int) - 48)) n
/-- a text's sign, what is behind it. -/
def neg (s : ByteArray) : Bool := hasP s ⟨⟨[45]⟩⟩
def body (s : ByteArray) : ByteArray := if neg s = true then cutP s ⟨⟨[45]⟩⟩ else cutP s ⟨⟨[43]⟩⟩
def part (s : ByteArray) : List UInt8 := Lib.trimRightS (strL (behind (body s))) [48]
def lead (s : ByteArray) : List UInt8 := Lib.trimLeftS (strL (front (body s)) ++ part s) [48]
/-- is a text a number of few enough digits? -/
def pOk (s : ByteArray) : Bool := !((strL (front (body s))).isEmpty) && !(has (body s) && (strL (behind (body s))).isEmpty) && (strL (front (body s)) ++ strL (behind (body s))).all dig && decide ((lead s).length ≤ 15 ∧ (part s).length ≤ 6)
def pN (s : ByteArray) : Int := sg (neg s) (num 0 (lead s))
def pM (s : ByteArray) : Int := if pOk s = true then rM (pN s) ((part s).length : Int) else 0
def pS (s : ByteArray) : Int := if pOk s = true then rS (pN s) ((part s).length : Int) else 0
def pB (s : ByteArray) : Bool := pOk s && rOk (pN s) ((part s).length : Int)
def short2 (s : ByteArray) : Bool := decide ((strL s).length < 2000000000)
end Sp
def parseS : List Value → Option (Bool × Value) := fun l => ob (s1 l) fun s => some (Sp.short2 s, .tuple ⟨[decV (Sp.pM s) (Sp.pS s), .bool (Sp.pB s)]⟩)
namespace Sp
end Sp
namespace Sp
end Sp
namespace Sp
end Sp
namespace Sp
end Sp
theorem mod_cases (n k : Int) (h1 : 0 < k) : (n.tmod k < 0 → n % k = n.tmod k + k) ∧ (0 ≤ n.tmod k → n % k = n.tmod k) ∧ -k < n.tmod k ∧ n.tmod k < k := by
  have h := Int.tmod_eq_emod (a := n) (b := k)
  have a := Int.emod_nonneg n (show k ≠ 0 by omega)
  have b := Int.emod_lt_of_pos n h1
  have c := Int.tmod_lt_of_pos n h1
  split at h
  · exact ⟨by omega, by omega, by omega, c⟩
  · rename_i hn
    have hp : n % k ≠ 0 := fun e => hn (.inr (Int.dvd_of_emod_eq_zero e))
    exact ⟨by omega, by omega, by omega, c⟩

theorem K60 (m p : Int) (lp : Code → Run) (gs : Code → Nat → Run) : bodyK Tryd.prog (fiAt fis 44) [] lp gs (code 44) (res 44) [.int .i64 m, .int .i64 p] = (some (Value.agg (Array.mk [(Value.int IntKind.i64 (wrapA IntKind.i64 (Int.add (wrapA IntKind.i64 (Int.mul (wrapA IntKind.i64 (Int.tdiv m (1000000000 : Int))) p)) (wrapA IntKind.i64 (Int.tdiv (wrapA IntKind.i64 (Int.mul (Int.tmod m (1000000000 : Int)) p)) (1000000000 : Int)))))), (Value.int IntKind.i64 (Int.tmod (wrapA IntKind.i64 (Int.mul (Int.tmod m (1000000000 : Int)) p)) (1000000000 : Int)))]))) := by kernel_rfl
theorem K38 (m s : Int) (lp : Code → Run) (gs : Code → Nat → Run) : bodyK Tryd.prog (fiAt fis 31) [(45, tenS), (44, timesS)] lp gs (code 31) (res 31) [decV m s] = (ite2 (ltI m (0 : Int)) (ite2 (Sp.in6 (wrapA IntKind.i64 (Int.sub (6 : Int) s))) (ite2 (ite2 (Sp.in15 (wrapA IntKind.i64 (Int.sub (0 : Int) m))) (Sp.in9 (Sp.p10 (wrapA IntKind.i64 (Int.sub (6 : Int) s)))) false) (some (Value.tuple (Array.mk [(Value.agg (Array.mk [(Value.int IntKind.i64 (Int.tdiv (Int.mul (wrapA IntKind.i64 (Int.sub (0 : Int) m)) (Sp.p10 (wrapA IntKind.i64 (Int.sub (6 : Int) s)))) (1000000000 : Int))), (Value.int IntKind.i64 (Int.tmod (Int.mul (wrapA IntKind.i64 (Int.sub (0 : Int) m)) (Sp.p10 (wrapA IntKind.i64 (Int.sub (6 : Int) s)))) (1000000000 : Int)))])), (Value.bool (ltI m (0 : Int)))]))) (none)) (none)) (ite2 (Sp.in6 (wrapA IntKind.i64 (Int.sub (6 : Int) s))) (ite2 (ite2 (Sp.in15 m) (Sp.in9 (Sp.p10 (wrapA IntKind.i64 (Int.sub (6 : Int) s)))) false) (some (Value.tuple (Array.mk [(Value.agg (Array.mk [(Value.int IntKind.i64 (Int.tdiv (Int.mul m (Sp.p10 (wrapA IntKind.i64 (Int.sub (6 : Int) s)))) (1000000000 : Int))), (Value.int IntKind.i64 (Int.tmod (Int.mul m (Sp.p10 (wrapA IntKind.i64 (Int.sub (6 : Int) s)))) (1000000000 : Int)))])), (Value.bool (ltI m (0 : Int)))]))) (none)) (none))) := by kernel_rfl
theorem K39 (a b c d : Int) (lp : Code → Run) (gs : Code → Nat → Run) : bodyK Tryd.prog (fiAt fis 32) [] lp gs (code 32) (res 32) [decV a b, decV c d] = (ite2 (ltI a c) (some (Value.int IntKind.i64 (Int.negSucc 0))) (ite2 (eqI a c) (ite2 (ltI b d) (some (Value.int IntKind.i64 (Int.negSucc 0))) (ite2 (ite2 (eqI a c) (ite2 (eqI b d) true false) false) (some (Value.int IntKind.i64 (0 : Int))) (some (Value.int IntKind.i64 (1 : Int))))) (ite2 (ite2 (eqI a c) (ite2 (eqI b d) true false) false) (some (Value.int IntKind.i64 (0 : Int))) (some (Value.int IntKind.i64 (1 : Int)))))) := by kernel_rfl
theorem K15 (m s n t : Int) (lp : Code → Run) (gs : Code → Nat → Run) : bodyK Tryd.prog (fiAt fis 25) [(31, sizedS), (32, aboveS)] lp gs (code 25) (res 25) [decV m s, decV n t] = (ite2 (Sp.ok m s) (ite2 (Sp.ok n t) (ite2 (ltI m (0 : Int)) (ite2 (ite2 (ltI n (0 : Int)) false true) (some (Value.int IntKind.i64 (Int.negSucc 0))) (ite2 (ltI n (0 : Int)) (ite2 (ite2 (ltI m (0 : Int)) false true) (some (Value.int IntKind.i64 (1 : Int))) (ite2 (ltI m (0 : Int)) (ite2 (ite2 (Sp.wid (Int.tdiv (Sp.absv n t) (1000000000 : Int)) (Int.tmod (Sp.absv n t) (1000000000 : Int))) (Sp.wid (Int.tdiv (Sp.absv m s) (1000000000 : Int)) (Int.tmod (Sp.absv m s) (1000000000 : Int))) false) (some (Value.int IntKind.i64 (Sp.cmp (Sp.wide (Int.tdiv (Sp.absv n t) (1000000000 : Int)) (Int.tmod (Sp.absv n t) (1000000000 : Int))) (Sp.wide (Int.tdiv (Sp.absv m s) (1000000000 : Int)) (Int.tmod (Sp.absv m s) (1000000000 : Int)))))) (none)) (ite2 (ite2 (Sp.wid (Int.tdiv (Sp.absv m s) (1000000000 : Int)) (Int.tmod (Sp.absv m s) (1000000000 : Int))) (Sp.wid (Int.tdiv (Sp.absv n t) (1000000000 : Int)) (Int.tmod (Sp.absv n t) (1000000000 : Int))) false) (some (Value.int IntKind.i64 (Sp.cmp (Sp.wide (Int.tdiv (Sp.absv m s) (1000000000 : Int)) (Int.tmod (Sp.absv m s) (1000000000 : Int))) (Sp.wide (Int.tdiv (Sp.absv n t) (1000000000 : Int)) (Int.tmod (Sp.absv n t) (1000000000 : Int)))))) (none)))) (ite2 (ltI m (0 : Int)) (ite2 (ite2 (Sp.wid (Int.tdiv (Sp.absv n t) (1000000000 : Int)) (Int.tmod (Sp.absv n t) (1000000000 : Int))) (Sp.wid (Int.tdiv (Sp.absv m s) (1000000000 : Int)) (Int.tmod (Sp.absv m s) (1000000000 : Int))) false) (some (Value.int IntKind.i64 (Sp.cmp (Sp.wide (Int.tdiv (Sp.absv n t) (1000000000 : Int)) (Int.tmod (Sp.absv n t) (1000000000 : Int))) (Sp.wide (Int.tdiv (Sp.absv m s) (1000000000 : Int)) (Int.tmod (Sp.absv m s) (1000000000 : Int)))))) (none)) (ite2 (ite2 (Sp.wid (Int.tdiv (Sp.absv m s) (1000000000 : Int)) (Int.tmod (Sp.absv m s) (1000000000 : Int))) (Sp.wid (Int.tdiv (Sp.absv n t) (1000000000 : Int)) (Int.tmod (Sp.absv n t) (1000000000 : Int))) false) (some (Value.int IntKind.i64 (Sp.cmp (Sp.wide (Int.tdiv (Sp.absv m s) (1000000000 : Int)) (Int.tmod (Sp.absv m s) (1000000000 : Int))) (Sp.wide (Int.tdiv (Sp.absv n t) (1000000000 : Int)) (Int.tmod (Sp.absv n t) (1000000000 : Int)))))) (none))))) (ite2 (ltI n (0 : Int)) (ite2 (ite2 (ltI m (0 : Int)) false true) (some (Value.int IntKind.i64 (1 : Int))) (ite2 (ltI m (0 : Int)) (ite2 (ite2 (Sp.wid (Int.tdiv (Sp.absv n t) (1000000000 : Int)) (Int.tmod (Sp.absv n t) (1000000000 : Int))) (Sp.wid (Int.tdiv (Sp.absv m s) (1000000000 : Int)) (Int.tmod (Sp.absv m s) (1000000000 : Int))) false) (some (Value.int IntKind.i64 (Sp.cmp (Sp.wide (Int.tdiv (Sp.absv n t) (1000000000 : Int)) (Int.tmod (Sp.absv n t) (1000000000 : Int))) (Sp.wide (Int.tdiv (Sp.absv m s) (1000000000 : Int)) (Int.tmod (Sp.absv m s) (1000000000 : Int)))))) (none)) (ite2 (ite2 (Sp.wid (Int.tdiv (Sp.absv m s) (1000000000 : Int)) (Int.tmod (Sp.absv m s) (1000000000 : Int))) (Sp.wid (Int.tdiv (Sp.absv n t) (1000000000 : Int)) (Int.tmod (Sp.absv n t) (1000000000 : Int))) false) (some (Value.int IntKind.i64 (Sp.cmp (Sp.wide (Int.tdiv (Sp.absv m s) (1000000000 : Int)) (Int.tmod (Sp.absv m s) (1000000000 : Int))) (Sp.wide (Int.tdiv (Sp.absv n t) (1000000000 : Int)) (Int.tmod (Sp.absv n t) (1000000000 : Int)))))) (none)))) (ite2 (ltI m (0 : Int)) (ite2 (ite2 (Sp.wid (Int.tdiv (Sp.absv n t) (1000000000 : Int)) (Int.tmod (Sp.absv n t) (1000000000 : Int))) (Sp.wid (Int.tdiv (Sp.absv m s) (1000000000 : Int)) (Int.tmod (Sp.absv m s) (1000000000 : Int))) false) (some (Value.int IntKind.i64 (Sp.cmp (Sp.wide (Int.tdiv (Sp.absv n t) (1000000000 : Int)) (Int.tmod (Sp.absv n t) (1000000000 : Int))) (Sp.wide (Int.tdiv (Sp.absv m s) (1000000000 : Int)) (Int.tmod (Sp.absv m s) (1000000000 : Int)))))) (none)) (ite2 (ite2 (Sp.wid (Int.tdiv (Sp.absv m s) (1000000000 : Int)) (Int.tmod (Sp.absv m s) (1000000000 : Int))) (Sp.wid (Int.tdiv (Sp.absv n t) (1000000000 : Int)) (Int.tmod (Sp.absv n t) (1000000000 : Int))) false) (some (Value.int IntKind.i64 (Sp.cmp (Sp.wide (Int.tdiv (Sp.absv m s) (1000000000 : Int)) (Int.tmod (Sp.absv m s) (1000000000 : Int))) (Sp.wide (Int.tdiv (Sp.absv n t) (1000000000 : Int)) (Int.tmod (Sp.absv n t) (1000000000 : Int)))))) (none))))) (none)) (none)) := by kernel_rfl
theorem K14 (m s n t : Int) (lp : Code → Run) (gs : Code → Nat → Run) : bodyK Tryd.prog (fiAt fis 24) [(30, tenS)] lp gs (code 24) (res 24) [decV m s, decV n t] = (ite2 (Sp.in6 s) (ite2 (ite2 (ite2 (eqI m m) true false) true false) (ite2 (ite2 (eqI (Sp.p10 s) (0 : Int)) false true) (ite2 (ite2 (eqI n n) true false) (ite2 (ite2 (eqI t t) true false) (ite2 (Sp.in6 t) (ite2 (ite2 (ite2 (eqI n n) (ite2 (eqI m m) true false) false) true false) (ite2 (ite2 (eqI (Sp.p10 t) (0 : Int)) false true) (ite2 (eqI (wrapA IntKind.i64 (Int.tdiv m (Sp.p10 s))) (wrapA IntKind.i64 (Int.tdiv n (Sp.p10 t)))) (ite2 (Sp.in6 s) (ite2 (ite2 (ite2 (eqI m m) true false) true false) (ite2 (ite2 (eqI (Sp.p10 s) (0 : Int)) false true) (ite2 (ite2 (eqI s s) true false) (ite2 (Sp.in6 (wrapA IntKind.i64 (Int.sub (6 : Int) s))) (ite2 (ite2 (ite2 (eqI m m) true false) true false) (ite2 (ite2 (eqI n n) (ite2 (eqI n n) true false) false) (ite2 (ite2 (eqI t t) (ite2 (eqI t t) true false) false) (ite2 (Sp.in6 t) (ite2 (ite2 (ite2 (eqI n n) (ite2 (eqI m m) true false) false) true false) (ite2 (ite2 (eqI (Sp.p10 t) (0 : Int)) false true) (ite2 (ite2 (eqI t t) (ite2 (eqI t t) (ite2 (eqI t t) true false) false) false) (ite2 (Sp.in6 (wrapA IntKind.i64 (Int.sub (6 : Int) t))) (ite2 (ite2 (ite2 (eqI n n) (ite2 (eqI m m) true false) false) true false) (ite2 (ltI (wrapA IntKind.i64 (Int.mul (Int.tmod m (Sp.p10 s)) (Sp.p10 (wrapA IntKind.i64 (Int.sub (6 : Int) s))))) (wrapA IntKind.i64 (Int.mul (Int.tmod n (Sp.p10 t)) (Sp.p10 (wrapA IntKind.i64 (Int.sub (6 : Int) t)))))) (some (Value.int IntKind.i64 (Int.negSucc 0))) (ite2 (gtI (wrapA IntKind.i64 (Int.mul (Int.tmod m (Sp.p10 s)) (Sp.p10 (wrapA IntKind.i64 (Int.sub (6 : Int) s))))) (wrapA IntKind.i64 (Int.mul (Int.tmod n (Sp.p10 t)) (Sp.p10 (wrapA IntKind.i64 (Int.sub (6 : Int) t)))))) (some (Value.int IntKind.i64 (1 : Int))) (some (Value.int IntKind.i64 (0 : Int))))) (none)) (none)) (none)) (none)) (none)) (none)) (none)) (none)) (none)) (none)) (none)) (none)) (none)) (none)) (ite2 (ltI (wrapA IntKind.i64 (Int.tdiv m (Sp.p10 s))) (wrapA IntKind.i64 (Int.tdiv n (Sp.p10 t)))) (some (Value.int IntKind.i64 (Int.negSucc 0))) (ite2 (gtI (wrapA IntKind.i64 (Int.tdiv m (Sp.p10 s))) (wrapA IntKind.i64 (Int.tdiv n (Sp.p10 t)))) (some (Value.int IntKind.i64 (1 : Int))) (some (Value.int IntKind.i64 (0 : Int)))))) (none)) (none)) (none)) (none)) (none)) (none)) (none)) (none)) := by kernel_rfl
theorem K40 (m s : Int) (lp : Code → Run) (gs : Code → Nat → Run) : bodyK Tryd.prog (fiAt fis 59) [] lp gs (code 59) (res 59) [decV m s] = (some (Value.complex FloatKind.f64 (FloatKind.nearest FloatKind.f64 m) (FloatKind.nearest FloatKind.f64 s))) := by kernel_rfl
theorem K47 (a b : Nat) (lp : Code → Run) (gs : Code → Nat → Run) : bodyK Tryd.prog (fiAt fis 58) [] lp gs (code 58) (res 58) [.complex .f64 a b] = (ob (Go.floatToIntVal FloatKind.f64 a IntKind.i64) fun y0 => (ob (Go.floatToIntVal FloatKind.f64 b IntKind.i64) fun y1 => (some (Value.agg (Array.mk [(Value.int IntKind.i64 y0), (Value.int IntKind.i64 y1)]))))) := by kernel_rfl
def st36_1_0 (x0 : Int) (x1 : Int) (x2 : Bool) (x3 : Int) (x4 : Int) : St := (St.mk (Tr.nd (some (Value.int IntKind.i64 x0)) (Tr.nd (some (Value.int IntKind.i64 x1)) Tr.e (Tr.nd (some (Value.bool x2)) Tr.e Tr.e)) (Tr.nd none (Tr.nd (some (Value.pointer (some (Addr.mk 6 0 none)))) Tr.e Tr.e) Tr.e)) [] (Mem.mk (Tr.nd none Tr.e (Tr.nd none Tr.e (Tr.nd (some (Blk.cells 2 (Tr.nd (some (Value.int IntKind.i64 x3)) (Tr.nd (some (Value.int IntKind.i64 x4)) Tr.e Tr.e) Tr.e) 0 Bool.true none)) Tr.e Tr.e))) 7))
def ex36_0 (x0 : Int) (x1 : Int) (x2 : Bool) (x4 : Int) (x5 : Int) (tp : Go.Am.Al) : St := (St.mk (Tr.nd (some (Value.int IntKind.i64 x0)) (Tr.nd (some (Value.int IntKind.i64 x1)) Tr.e (Tr.nd (some (Value.bool x2)) Tr.e Tr.e)) (Tr.nd none (Tr.nd (some (Value.pointer (some (Addr.mk 6 0 none)))) Tr.e Tr.e) Tr.e)) tp (Mem.mk (Tr.nd none Tr.e (Tr.nd none Tr.e (Tr.nd (some (Blk.cells 2 (Tr.nd (some (Value.int IntKind.i64 x4)) (Tr.nd (some (Value.int IntKind.i64 x5)) Tr.e Tr.e) Tr.e) 0 Bool.true none)) Tr.e Tr.e))) 7))
theorem K36 (m s : Int) (lp : Code → Run) (gs : Code → Nat → Run) : bodyK Tryd.prog (fiAt fis 43) [] lp gs (code 43) (res 43) [.int .i64 m, .int .i64 s] = (ob (lp (codeAt (code 43) [1, 0, 0, 0]) (st36_1_0 m s false (0 : Int) (0 : Int))) fun r => (contAt Tryd.prog (fiAt fis 43) (kcallK []) (kcall []) lp gs (code 43) [1, 0, 0] (retK Tryd.prog (fiAt fis 43) (res 43))) r.1 r.2) := by kernel_rfl
theorem R36_1_0 (x0 : Int) (x1 : Int) (x2 : Bool) (x3 : Int) (x4 : Int) (lp : Code → Run) (gs : Code → Nat → Run) : bt (gcPre none (st36_1_0 x0 x1 x2 x3 x4)) (exK Tryd.prog (fiAt fis 43) (kcallK []) (kcall []) lp gs (codeAt (code 43) [1, 0, 0, 0]) (st36_1_0 x0 x1 x2 x3 x4) (fun e st => ob (goOn (fun st => ob (gcO none st) (lp (codeAt (code 43) [1, 0, 0, 0]))) e st) some)) = (ite2 (gtI x1 (0 : Int)) (ite2 (eqI (Int.tmod x0 (10 : Int)) (0 : Int)) (ob (lp (codeAt (code 43) [1, 0, 0, 0]) (st36_1_0 (wrapA IntKind.i64 (Int.tdiv x0 (10 : Int))) (wrapA IntKind.i64 (Int.sub x1 (1 : Int))) x2 x3 x4)) some) (some (Prod.mk (Ex.exit 0) (ex36_0 x0 x1 x2 x3 x4 [(Prod.mk 12 (Value.bool false)), (Prod.mk 11 (Value.bool (eqI (Int.tmod x0 (10 : Int)) (0 : Int)))), (Prod.mk 10 (Value.int IntKind.i64 (Int.tmod x0 (10 : Int)))), (Prod.mk 9 (Value.int IntKind.i64 x0)), (Prod.mk 8 (Value.bool true)), (Prod.mk 7 (Value.bool (gtI x1 (0 : Int)))), (Prod.mk 6 (Value.int IntKind.i64 x1))])))) (some (Prod.mk (Ex.exit 0) (ex36_0 x0 x1 x2 x3 x4 [(Prod.mk 12 (Value.bool false)), (Prod.mk 11 (Value.tuple (Array.mk []))), (Prod.mk 10 (Value.tuple (Array.mk []))), (Prod.mk 9 (Value.tuple (Array.mk []))), (Prod.mk 8 (Value.bool false)), (Prod.mk 7 (Value.bool (gtI x1 (0 : Int)))), (Prod.mk 6 (Value.int IntKind.i64 x1))])))) := by kernel_rfl
theorem C36_0_0 (x0 : Int) (x1 : Int) (x2 : Bool) (x4 : Int) (x5 : Int) (tp : Go.Am.Al) (lp : Code → Run) (gs : Code → Nat → Run) : (contAt Tryd.prog (fiAt fis 43) (kcallK []) (kcall []) lp gs (code 43) [1, 0, 0] (retK Tryd.prog (fiAt fis 43) (res 43))) (Go.Am.Ex.exit 0) (ex36_0 x0 x1 x2 x4 x5 tp) = (ite2 (gtI x1 (6 : Int)) (some (Value.tuple (Array.mk [(Value.agg (Array.mk [(Value.int IntKind.i64 (0 : Int)), (Value.int IntKind.i64 (0 : Int))])), (Value.bool false)]))) (ite2 (geI x0 (1000000000000000 : Int)) (some (Value.tuple (Array.mk [(Value.agg (Array.mk [(Value.int IntKind.i64 (0 : Int)), (Value.int IntKind.i64 (0 : Int))])), (Value.bool false)]))) (ite2 (leI x0 (Int.negSucc 999999999999999)) (some (Value.tuple (Array.mk [(Value.agg (Array.mk [(Value.int IntKind.i64 (0 : Int)), (Value.int IntKind.i64 (0 : Int))])), (Value.bool false)]))) (some (Value.tuple (Array.mk [(Value.agg (Array.mk [(Value.int IntKind.i64 x0), (Value.int IntKind.i64 x1)])), (Value.bool true)])))))) := by kernel_rfl
def st33_100001_0 (x0 : Int) (x1 : Int) (x2 : Bool) (x3 : Bool) (x4 : Int) (x5 : Int) (x6 : Int) : St := (St.mk (Tr.nd (some (Value.int IntKind.u64 x0)) (Tr.nd (some (Value.int IntKind.u64 x1)) (Tr.nd (some (Value.bool x2)) Tr.e Tr.e) (Tr.nd none (Tr.nd (some (Value.bool x3)) Tr.e Tr.e) Tr.e)) (Tr.nd (some (Value.int IntKind.i64 x4)) (Tr.nd none (Tr.nd (some (Value.pointer (some (Addr.mk 6 0 none)))) Tr.e Tr.e) Tr.e) Tr.e)) [] (Mem.mk (Tr.nd none Tr.e (Tr.nd none Tr.e (Tr.nd (some (Blk.cells 2 (Tr.nd (some (Value.int IntKind.i64 x5)) (Tr.nd (some (Value.int IntKind.i64 x6)) Tr.e Tr.e) Tr.e) 0 Bool.true none)) Tr.e Tr.e))) 7))
def ex33_0 (x0 : Int) (x1 : Int) (x2 : Bool) (x3 : Bool) (x4 : Int) (x6 : Int) (x7 : Int) (tp : Go.Am.Al) : St := (St.mk (Tr.nd (some (Value.int IntKind.u64 x0)) (Tr.nd (some (Value.int IntKind.u64 x1)) (Tr.nd (some (Value.bool x2)) Tr.e Tr.e) (Tr.nd none (Tr.nd (some (Value.bool x3)) Tr.e Tr.e) Tr.e)) (Tr.nd (some (Value.int IntKind.i64 x4)) (Tr.nd none (Tr.nd (some (Value.pointer (some (Addr.mk 6 0 none)))) Tr.e Tr.e) Tr.e) Tr.e)) tp (Mem.mk (Tr.nd none Tr.e (Tr.nd none Tr.e (Tr.nd (some (Blk.cells 2 (Tr.nd (some (Value.int IntKind.i64 x6)) (Tr.nd (some (Value.int IntKind.i64 x7)) Tr.e Tr.e) Tr.e) 0 Bool.true none)) Tr.e Tr.e))) 7))
theorem K33 (hi lo scale : Int) (below : Bool) (lp : Code → Run) (gs : Code → Nat → Run) : bodyK Tryd.prog (fiAt fis 40) [(57, div64S), (59, pointS), (58, ofS)] lp gs (code 40) (res 40) [.int .u64 hi, .int .u64 lo, .int .i64 scale, .bool below] = (ite2 (gtI scale (0 : Int)) (ite2 (Sp.dvOk (Int.tmod hi (10 : Int)) lo (10 : Int)) (ite2 (eqI (Sp.dvR (Int.tmod hi (10 : Int)) lo (10 : Int)) (0 : Int)) (ob (gs (codeAt (code 40) [1, 0]) 0 (st33_100001_0 (wrapA IntKind.u64 (Int.tdiv hi (10 : Int))) (Sp.dvQ (Int.tmod hi (10 : Int)) lo (10 : Int)) below false (wrapA IntKind.i64 (Int.sub scale (1 : Int))) (0 : Int) (0 : Int))) fun r => (contAt Tryd.prog (fiAt fis 40) (kcallK [(57, div64S), (59, pointS), (58, ofS)]) (kcall [(57, div64S), (59, pointS), (58, ofS)]) lp gs (code 40) [1] (retK Tryd.prog (fiAt fis 40) (res 40))) r.1 r.2) (ite2 (gtI hi (0 : Int)) (some (Value.tuple (Array.mk [(Value.agg (Array.mk [(Value.int IntKind.i64 (0 : Int)), (Value.int IntKind.i64 (0 : Int))])), (Value.bool false)]))) (ite2 (geI lo (1000000000000000 : Int)) (some (Value.tuple (Array.mk [(Value.agg (Array.mk [(Value.int IntKind.i64 (0 : Int)), (Value.int IntKind.i64 (0 : Int))])), (Value.bool false)]))) (ite2 (gtI scale (6 : Int)) (some (Value.tuple (Array.mk [(Value.agg (Array.mk [(Value.int IntKind.i64 (0 : Int)), (Value.int IntKind.i64 (0 : Int))])), (Value.bool false)]))) (ite2 below (ite2 (ite2 (Sp.fok (Sp.fl (IntKind.wrap IntKind.i64 (Int.sub (0 : Int) (wrapA IntKind.i64 lo))))) (Sp.fok (Sp.fl scale)) false) (some (Value.tuple (Array.mk [(Value.agg (Array.mk [(Value.int IntKind.i64 (Sp.fi (Sp.fl (IntKind.wrap IntKind.i64 (Int.sub (0 : Int) (wrapA IntKind.i64 lo)))))), (Value.int IntKind.i64 (Sp.fi (Sp.fl scale)))])), (Value.bool true)]))) (none)) (ite2 (ite2 (Sp.fok (Sp.fl (wrapA IntKind.i64 lo))) (Sp.fok (Sp.fl scale)) false) (some (Value.tuple (Array.mk [(Value.agg (Array.mk [(Value.int IntKind.i64 (Sp.fi (Sp.fl (wrapA IntKind.i64 lo)))), (Value.int IntKind.i64 (Sp.fi (Sp.fl scale)))])), (Value.bool true)]))) (none))))))) (none)) (ite2 (gtI hi (0 : Int)) (some (Value.tuple (Array.mk [(Value.agg (Array.mk [(Value.int IntKind.i64 (0 : Int)), (Value.int IntKind.i64 (0 : Int))])), (Value.bool false)]))) (ite2 (geI lo (1000000000000000 : Int)) (some (Value.tuple (Array.mk [(Value.agg (Array.mk [(Value.int IntKind.i64 (0 : Int)), (Value.int IntKind.i64 (0 : Int))])), (Value.bool false)]))) (ite2 (gtI scale (6 : Int)) (some (Value.tuple (Array.mk [(Value.agg (Array.mk [(Value.int IntKind.i64 (0 : Int)), (Value.int IntKind.i64 (0 : Int))])), (Value.bool false)]))) (ite2 below (ite2 (ite2 (Sp.fok (Sp.fl (IntKind.wrap IntKind.i64 (Int.sub (0 : Int) (wrapA IntKind.i64 lo))))) (Sp.fok (Sp.fl scale)) false) (some (Value.tuple (Array.mk [(Value.agg (Array.mk [(Value.int IntKind.i64 (Sp.fi (Sp.fl (IntKind.wrap IntKind.i64 (Int.sub (0 : Int) (wrapA IntKind.i64 lo)))))), (Value.int IntKind.i64 (Sp.fi (Sp.fl scale)))])), (Value.bool true)]))) (none)) (ite2 (ite2 (Sp.fok (Sp.fl (wrapA IntKind.i64 lo))) (Sp.fok (Sp.fl scale)) false) (some (Value.tuple (Array.mk [(Value.agg (Array.mk [(Value.int IntKind.i64 (Sp.fi (Sp.fl (wrapA IntKind.i64 lo)))), (Value.int IntKind.i64 (Sp.fi (Sp.fl scale)))])), (Value.bool true)]))) (none))))))) := by kernel_rfl
theorem R33_100001_0 (x0 : Int) (x1 : Int) (x2 : Bool) (x3 : Bool) (x4 : Int) (x5 : Int) (x6 : Int) (lp : Code → Run) (gs : Code → Nat → Run) : bt (gcPre none (st33_100001_0 x0 x1 x2 x3 x4 x5 x6)) (exK Tryd.prog (fiAt fis 40) (kcallK [(57, div64S), (59, pointS), (58, ofS)]) (kcall [(57, div64S), (59, pointS), (58, ofS)]) lp gs (restAt (codeAt (code 40) [1, 0]) 0) (st33_100001_0 x0 x1 x2 x3 x4 x5 x6) (fun e st => ob (gotoA (codeAt (code 40) [1, 0]) (fun l st => ob (gcO none st) (gs (codeAt (code 40) [1, 0]) l)) e st) some)) = (ite2 (gtI x4 (0 : Int)) (ite2 (Sp.dvOk (Int.tmod x0 (10 : Int)) x1 (10 : Int)) (ite2 (eqI (Sp.dvR (Int.tmod x0 (10 : Int)) x1 (10 : Int)) (0 : Int)) (ob (gs (codeAt (code 40) [1, 0]) 0 (st33_100001_0 (wrapA IntKind.u64 (Int.tdiv x0 (10 : Int))) (Sp.dvQ (Int.tmod x0 (10 : Int)) x1 (10 : Int)) x2 x3 (wrapA IntKind.i64 (Int.sub x4 (1 : Int))) x5 x6)) some) (ite2 (gtI x0 (0 : Int)) (some (Prod.mk Ex.ret (ex33_0 x0 x1 x2 false x4 (0 : Int) (0 : Int) [(Prod.mk 43 (Value.agg (Array.mk [(Value.int IntKind.i64 (0 : Int)), (Value.int IntKind.i64 (0 : Int))]))), (Prod.mk 42 (Value.bool true)), (Prod.mk 41 (Value.tuple (Array.mk []))), (Prod.mk 40 (Value.tuple (Array.mk []))), (Prod.mk 39 (Value.bool true)), (Prod.mk 38 (Value.bool true)), (Prod.mk 37 (Value.tuple (Array.mk []))), (Prod.mk 36 (Value.tuple (Array.mk []))), (Prod.mk 35 (Value.bool true)), (Prod.mk 34 (Value.bool (gtI x0 (0 : Int)))), (Prod.mk 33 (Value.int IntKind.u64 x0)), (Prod.mk 28 (Value.bool false)), (Prod.mk 27 (Value.int IntKind.u64 (Sp.dvR (Int.tmod x0 (10 : Int)) x1 (10 : Int)))), (Prod.mk 13 (Value.int IntKind.u64 (Sp.dvR (Int.tmod x0 (10 : Int)) x1 (10 : Int)))), (Prod.mk 12 (Value.int IntKind.u64 (Sp.dvQ (Int.tmod x0 (10 : Int)) x1 (10 : Int)))), (Prod.mk 26 (Value.int IntKind.u64 (Sp.dvR (Int.tmod x0 (10 : Int)) x1 (10 : Int)))), (Prod.mk 25 (Value.int IntKind.u64 (Sp.dvQ (Int.tmod x0 (10 : Int)) x1 (10 : Int)))), (Prod.mk 21 (Value.tuple (Array.mk [(Value.int IntKind.u64 (Sp.dvQ (Int.tmod x0 (10 : Int)) x1 (10 : Int))), (Value.int IntKind.u64 (Sp.dvR (Int.tmod x0 (10 : Int)) x1 (10 : Int)))]))), (Prod.mk 24 (Value.tuple (Array.mk [(Value.int IntKind.u64 (Sp.dvQ (Int.tmod x0 (10 : Int)) x1 (10 : Int))), (Value.int IntKind.u64 (Sp.dvR (Int.tmod x0 (10 : Int)) x1 (10 : Int)))]))), (Prod.mk 23 (Value.int IntKind.u64 x1)), (Prod.mk 22 (Value.int IntKind.u64 (Int.tmod x0 (10 : Int)))), (Prod.mk 11 (Value.int IntKind.u64 (Int.tmod x0 (10 : Int)))), (Prod.mk 10 (Value.int IntKind.u64 (wrapA IntKind.u64 (Int.tdiv x0 (10 : Int))))), (Prod.mk 20 (Value.int IntKind.u64 (Int.tmod x0 (10 : Int)))), (Prod.mk 19 (Value.int IntKind.u64 x0)), (Prod.mk 18 (Value.int IntKind.u64 (wrapA IntKind.u64 (Int.tdiv x0 (10 : Int))))), (Prod.mk 17 (Value.int IntKind.u64 x0)), (Prod.mk 16 (Value.bool true)), (Prod.mk 15 (Value.int IntKind.i64 x4))]))) (ite2 (geI x1 (1000000000000000 : Int)) (some (Prod.mk Ex.ret (ex33_0 x0 x1 x2 false x4 (0 : Int) (0 : Int) [(Prod.mk 43 (Value.agg (Array.mk [(Value.int IntKind.i64 (0 : Int)), (Value.int IntKind.i64 (0 : Int))]))), (Prod.mk 42 (Value.bool true)), (Prod.mk 41 (Value.tuple (Array.mk []))), (Prod.mk 40 (Value.tuple (Array.mk []))), (Prod.mk 39 (Value.bool true)), (Prod.mk 38 (Value.bool (geI x1 (1000000000000000 : Int)))), (Prod.mk 37 (Value.bool (geI x1 (1000000000000000 : Int)))), (Prod.mk 36 (Value.int IntKind.u64 x1)), (Prod.mk 35 (Value.bool false)), (Prod.mk 34 (Value.bool (gtI x0 (0 : Int)))), (Prod.mk 33 (Value.int IntKind.u64 x0)), (Prod.mk 28 (Value.bool false)), (Prod.mk 27 (Value.int IntKind.u64 (Sp.dvR (Int.tmod x0 (10 : Int)) x1 (10 : Int)))), (Prod.mk 13 (Value.int IntKind.u64 (Sp.dvR (Int.tmod x0 (10 : Int)) x1 (10 : Int)))), (Prod.mk 12 (Value.int IntKind.u64 (Sp.dvQ (Int.tmod x0 (10 : Int)) x1 (10 : Int)))), (Prod.mk 26 (Value.int IntKind.u64 (Sp.dvR (Int.tmod x0 (10 : Int)) x1 (10 : Int)))), (Prod.mk 25 (Value.int IntKind.u64 (Sp.dvQ (Int.tmod x0 (10 : Int)) x1 (10 : Int)))), (Prod.mk 21 (Value.tuple (Array.mk [(Value.int IntKind.u64 (Sp.dvQ (Int.tmod x0 (10 : Int)) x1 (10 : Int))), (Value.int IntKind.u64 (Sp.dvR (Int.tmod x0 (10 : Int)) x1 (10 : Int)))]))), (Prod.mk 24 (Value.tuple (Array.mk [(Value.int IntKind.u64 (Sp.dvQ (Int.tmod x0 (10 : Int)) x1 (10 : Int))), (Value.int IntKind.u64 (Sp.dvR (Int.tmod x0 (10 : Int)) x1 (10 : Int)))]))), (Prod.mk 23 (Value.int IntKind.u64 x1)), (Prod.mk 22 (Value.int IntKind.u64 (Int.tmod x0 (10 : Int)))), (Prod.mk 11 (Value.int IntKind.u64 (Int.tmod x0 (10 : Int)))), (Prod.mk 10 (Value.int IntKind.u64 (wrapA IntKind.u64 (Int.tdiv x0 (10 : Int))))), (Prod.mk 20 (Value.int IntKind.u64 (Int.tmod x0 (10 : Int)))), (Prod.mk 19 (Value.int IntKind.u64 x0)), (Prod.mk 18 (Value.int IntKind.u64 (wrapA IntKind.u64 (Int.tdiv x0 (10 : Int))))), (Prod.mk 17 (Value.int IntKind.u64 x0)), (Prod.mk 16 (Value.bool true)), (Prod.mk 15 (Value.int IntKind.i64 x4))]))) (ite2 (gtI x4 (6 : Int)) (some (Prod.mk Ex.ret (ex33_0 x0 x1 x2 false x4 (0 : Int) (0 : Int) [(Prod.mk 43 (Value.agg (Array.mk [(Value.int IntKind.i64 (0 : Int)), (Value.int IntKind.i64 (0 : Int))]))), (Prod.mk 42 (Value.bool true)), (Prod.mk 41 (Value.bool (gtI x4 (6 : Int)))), (Prod.mk 40 (Value.int IntKind.i64 x4)), (Prod.mk 39 (Value.bool false)), (Prod.mk 38 (Value.bool (geI x1 (1000000000000000 : Int)))), (Prod.mk 37 (Value.bool (geI x1 (1000000000000000 : Int)))), (Prod.mk 36 (Value.int IntKind.u64 x1)), (Prod.mk 35 (Value.bool false)), (Prod.mk 34 (Value.bool (gtI x0 (0 : Int)))), (Prod.mk 33 (Value.int IntKind.u64 x0)), (Prod.mk 28 (Value.bool false)), (Prod.mk 27 (Value.int IntKind.u64 (Sp.dvR (Int.tmod x0 (10 : Int)) x1 (10 : Int)))), (Prod.mk 13 (Value.int IntKind.u64 (Sp.dvR (Int.tmod x0 (10 : Int)) x1 (10 : Int)))), (Prod.mk 12 (Value.int IntKind.u64 (Sp.dvQ (Int.tmod x0 (10 : Int)) x1 (10 : Int)))), (Prod.mk 26 (Value.int IntKind.u64 (Sp.dvR (Int.tmod x0 (10 : Int)) x1 (10 : Int)))), (Prod.mk 25 (Value.int IntKind.u64 (Sp.dvQ (Int.tmod x0 (10 : Int)) x1 (10 : Int)))), (Prod.mk 21 (Value.tuple (Array.mk [(Value.int IntKind.u64 (Sp.dvQ (Int.tmod x0 (10 : Int)) x1 (10 : Int))), (Value.int IntKind.u64 (Sp.dvR (Int.tmod x0 (10 : Int)) x1 (10 : Int)))]))), (Prod.mk 24 (Value.tuple (Array.mk [(Value.int IntKind.u64 (Sp.dvQ (Int.tmod x0 (10 : Int)) x1 (10 : Int))), (Value.int IntKind.u64 (Sp.dvR (Int.tmod x0 (10 : Int)) x1 (10 : Int)))]))), (Prod.mk 23 (Value.int IntKind.u64 x1)), (Prod.mk 22 (Value.int IntKind.u64 (Int.tmod x0 (10 : Int)))), (Prod.mk 11 (Value.int IntKind.u64 (Int.tmod x0 (10 : Int)))), (Prod.mk 10 (Value.int IntKind.u64 (wrapA IntKind.u64 (Int.tdiv x0 (10 : Int))))), (Prod.mk 20 (Value.int IntKind.u64 (Int.tmod x0 (10 : Int)))), (Prod.mk 19 (Value.int IntKind.u64 x0)), (Prod.mk 18 (Value.int IntKind.u64 (wrapA IntKind.u64 (Int.tdiv x0 (10 : Int))))), (Prod.mk 17 (Value.int IntKind.u64 x0)), (Prod.mk 16 (Value.bool true)), (Prod.mk 15 (Value.int IntKind.i64 x4))]))) (ite2 x2 (ite2 (ite2 (Sp.fok (Sp.fl (IntKind.wrap IntKind.i64 (Int.sub (0 : Int) (wrapA IntKind.i64 x1))))) (Sp.fok (Sp.fl x4)) false) (some (Prod.mk Ex.ret (ex33_0 x0 x1 x2 true x4 (Sp.fi (Sp.fl (IntKind.wrap IntKind.i64 (Int.sub (0 : Int) (wrapA IntKind.i64 x1))))) (Sp.fi (Sp.fl x4)) [(Prod.mk 53 (Value.agg (Array.mk [(Value.int IntKind.i64 (Sp.fi (Sp.fl (IntKind.wrap IntKind.i64 (Int.sub (0 : Int) (wrapA IntKind.i64 x1)))))), (Value.int IntKind.i64 (Sp.fi (Sp.fl x4)))]))), (Prod.mk 52 (Value.complex FloatKind.f64 (Sp.fl (IntKind.wrap IntKind.i64 (Int.sub (0 : Int) (wrapA IntKind.i64 x1)))) (Sp.fl x4))), (Prod.mk 51 (Value.agg (Array.mk [(Value.int IntKind.i64 (IntKind.wrap IntKind.i64 (Int.sub (0 : Int) (wrapA IntKind.i64 x1)))), (Value.int IntKind.i64 x4)]))), (Prod.mk 50 (Value.int IntKind.i64 x4)), (Prod.mk 49 (Value.int IntKind.i64 (IntKind.wrap IntKind.i64 (Int.sub (0 : Int) (wrapA IntKind.i64 x1))))), (Prod.mk 14 (Value.int IntKind.i64 (IntKind.wrap IntKind.i64 (Int.sub (0 : Int) (wrapA IntKind.i64 x1))))), (Prod.mk 48 (Value.int IntKind.i64 (IntKind.wrap IntKind.i64 (Int.sub (0 : Int) (wrapA IntKind.i64 x1))))), (Prod.mk 47 (Value.int IntKind.i64 (wrapA IntKind.i64 x1))), (Prod.mk 46 (Value.bool true)), (Prod.mk 14 (Value.int IntKind.i64 (wrapA IntKind.i64 x1))), (Prod.mk 45 (Value.int IntKind.i64 (wrapA IntKind.i64 x1))), (Prod.mk 44 (Value.int IntKind.u64 x1)), (Prod.mk 42 (Value.bool false)), (Prod.mk 41 (Value.bool (gtI x4 (6 : Int)))), (Prod.mk 40 (Value.int IntKind.i64 x4)), (Prod.mk 39 (Value.bool false)), (Prod.mk 38 (Value.bool (geI x1 (1000000000000000 : Int)))), (Prod.mk 37 (Value.bool (geI x1 (1000000000000000 : Int)))), (Prod.mk 36 (Value.int IntKind.u64 x1)), (Prod.mk 35 (Value.bool false)), (Prod.mk 34 (Value.bool (gtI x0 (0 : Int)))), (Prod.mk 33 (Value.int IntKind.u64 x0)), (Prod.mk 28 (Value.bool false)), (Prod.mk 27 (Value.int IntKind.u64 (Sp.dvR (Int.tmod x0 (10 : Int)) x1 (10 : Int)))), (Prod.mk 13 (Value.int IntKind.u64 (Sp.dvR (Int.tmod x0 (10 : Int)) x1 (10 : Int)))), (Prod.mk 12 (Value.int IntKind.u64 (Sp.dvQ (Int.tmod x0 (10 : Int)) x1 (10 : Int)))), (Prod.mk 26 (Value.int IntKind.u64 (Sp.dvR (Int.tmod x0 (10 : Int)) x1 (10 : Int)))), (Prod.mk 25 (Value.int IntKind.u64 (Sp.dvQ (Int.tmod x0 (10 : Int)) x1 (10 : Int)))), (Prod.mk 21 (Value.tuple (Array.mk [(Value.int IntKind.u64 (Sp.dvQ (Int.tmod x0 (10 : Int)) x1 (10 : Int))), (Value.int IntKind.u64 (Sp.dvR (Int.tmod x0 (10 : Int)) x1 (10 : Int)))]))), (Prod.mk 24 (Value.tuple (Array.mk [(Value.int IntKind.u64 (Sp.dvQ (Int.tmod x0 (10 : Int)) x1 (10 : Int))), (Value.int IntKind.u64 (Sp.dvR (Int.tmod x0 (10 : Int)) x1 (10 : Int)))]))), (Prod.mk 23 (Value.int IntKind.u64 x1)), (Prod.mk 22 (Value.int IntKind.u64 (Int.tmod x0 (10 : Int)))), (Prod.mk 11 (Value.int IntKind.u64 (Int.tmod x0 (10 : Int)))), (Prod.mk 10 (Value.int IntKind.u64 (wrapA IntKind.u64 (Int.tdiv x0 (10 : Int))))), (Prod.mk 20 (Value.int IntKind.u64 (Int.tmod x0 (10 : Int)))), (Prod.mk 19 (Value.int IntKind.u64 x0)), (Prod.mk 18 (Value.int IntKind.u64 (wrapA IntKind.u64 (Int.tdiv x0 (10 : Int))))), (Prod.mk 17 (Value.int IntKind.u64 x0)), (Prod.mk 16 (Value.bool true)), (Prod.mk 15 (Value.int IntKind.i64 x4))]))) (none)) (ite2 (ite2 (Sp.fok (Sp.fl (wrapA IntKind.i64 x1))) (Sp.fok (Sp.fl x4)) false) (some (Prod.mk Ex.ret (ex33_0 x0 x1 x2 true x4 (Sp.fi (Sp.fl (wrapA IntKind.i64 x1))) (Sp.fi (Sp.fl x4)) [(Prod.mk 53 (Value.agg (Array.mk [(Value.int IntKind.i64 (Sp.fi (Sp.fl (wrapA IntKind.i64 x1)))), (Value.int IntKind.i64 (Sp.fi (Sp.fl x4)))]))), (Prod.mk 52 (Value.complex FloatKind.f64 (Sp.fl (wrapA IntKind.i64 x1)) (Sp.fl x4))), (Prod.mk 51 (Value.agg (Array.mk [(Value.int IntKind.i64 (wrapA IntKind.i64 x1)), (Value.int IntKind.i64 x4)]))), (Prod.mk 50 (Value.int IntKind.i64 x4)), (Prod.mk 49 (Value.int IntKind.i64 (wrapA IntKind.i64 x1))), (Prod.mk 46 (Value.bool false)), (Prod.mk 14 (Value.int IntKind.i64 (wrapA IntKind.i64 x1))), (Prod.mk 45 (Value.int IntKind.i64 (wrapA IntKind.i64 x1))), (Prod.mk 44 (Value.int IntKind.u64 x1)), (Prod.mk 42 (Value.bool false)), (Prod.mk 41 (Value.bool (gtI x4 (6 : Int)))), (Prod.mk 40 (Value.int IntKind.i64 x4)), (Prod.mk 39 (Value.bool false)), (Prod.mk 38 (Value.bool (geI x1 (1000000000000000 : Int)))), (Prod.mk 37 (Value.bool (geI x1 (1000000000000000 : Int)))), (Prod.mk 36 (Value.int IntKind.u64 x1)), (Prod.mk 35 (Value.bool false)), (Prod.mk 34 (Value.bool (gtI x0 (0 : Int)))), (Prod.mk 33 (Value.int IntKind.u64 x0)), (Prod.mk 28 (Value.bool false)), (Prod.mk 27 (Value.int IntKind.u64 (Sp.dvR (Int.tmod x0 (10 : Int)) x1 (10 : Int)))), (Prod.mk 13 (Value.int IntKind.u64 (Sp.dvR (Int.tmod x0 (10 : Int)) x1 (10 : Int)))), (Prod.mk 12 (Value.int IntKind.u64 (Sp.dvQ (Int.tmod x0 (10 : Int)) x1 (10 : Int)))), (Prod.mk 26 (Value.int IntKind.u64 (Sp.dvR (Int.tmod x0 (10 : Int)) x1 (10 : Int)))), (Prod.mk 25 (Value.int IntKind.u64 (Sp.dvQ (Int.tmod x0 (10 : Int)) x1 (10 : Int)))), (Prod.mk 21 (Value.tuple (Array.mk [(Value.int IntKind.u64 (Sp.dvQ (Int.tmod x0 (10 : Int)) x1 (10 : Int))), (Value.int IntKind.u64 (Sp.dvR (Int.tmod x0 (10 : Int)) x1 (10 : Int)))]))), (Prod.mk 24 (Value.tuple (Array.mk [(Value.int IntKind.u64 (Sp.dvQ (Int.tmod x0 (10 : Int)) x1 (10 : Int))), (Value.int IntKind.u64 (Sp.dvR (Int.tmod x0 (10 : Int)) x1 (10 : Int)))]))), (Prod.mk 23 (Value.int IntKind.u64 x1)), (Prod.mk 22 (Value.int IntKind.u64 (Int.tmod x0 (10 : Int)))), (Prod.mk 11 (Value.int IntKind.u64 (Int.tmod x0 (10 : Int)))), (Prod.mk 10 (Value.int IntKind.u64 (wrapA IntKind.u64 (Int.tdiv x0 (10 : Int))))), (Prod.mk 20 (Value.int IntKind.u64 (Int.tmod x0 (10 : Int)))), (Prod.mk 19 (Value.int IntKind.u64 x0)), (Prod.mk 18 (Value.int IntKind.u64 (wrapA IntKind.u64 (Int.tdiv x0 (10 : Int))))), (Prod.mk 17 (Value.int IntKind.u64 x0)), (Prod.mk 16 (Value.bool true)), (Prod.mk 15 (Value.int IntKind.i64 x4))]))) (none))))))) (none)) (ite2 (gtI x0 (0 : Int)) (some (Prod.mk Ex.ret (ex33_0 x0 x1 x2 false x4 (0 : Int) (0 : Int) [(Prod.mk 43 (Value.agg (Array.mk [(Value.int IntKind.i64 (0 : Int)), (Value.int IntKind.i64 (0 : Int))]))), (Prod.mk 42 (Value.bool true)), (Prod.mk 41 (Value.tuple (Array.mk []))), (Prod.mk 40 (Value.tuple (Array.mk []))), (Prod.mk 39 (Value.bool true)), (Prod.mk 38 (Value.bool true)), (Prod.mk 37 (Value.tuple (Array.mk []))), (Prod.mk 36 (Value.tuple (Array.mk []))), (Prod.mk 35 (Value.bool true)), (Prod.mk 34 (Value.bool (gtI x0 (0 : Int)))), (Prod.mk 33 (Value.int IntKind.u64 x0)), (Prod.mk 16 (Value.bool false)), (Prod.mk 15 (Value.int IntKind.i64 x4))]))) (ite2 (geI x1 (1000000000000000 : Int)) (some (Prod.mk Ex.ret (ex33_0 x0 x1 x2 false x4 (0 : Int) (0 : Int) [(Prod.mk 43 (Value.agg (Array.mk [(Value.int IntKind.i64 (0 : Int)), (Value.int IntKind.i64 (0 : Int))]))), (Prod.mk 42 (Value.bool true)), (Prod.mk 41 (Value.tuple (Array.mk []))), (Prod.mk 40 (Value.tuple (Array.mk []))), (Prod.mk 39 (Value.bool true)), (Prod.mk 38 (Value.bool (geI x1 (1000000000000000 : Int)))), (Prod.mk 37 (Value.bool (geI x1 (1000000000000000 : Int)))), (Prod.mk 36 (Value.int IntKind.u64 x1)), (Prod.mk 35 (Value.bool false)), (Prod.mk 34 (Value.bool (gtI x0 (0 : Int)))), (Prod.mk 33 (Value.int IntKind.u64 x0)), (Prod.mk 16 (Value.bool false)), (Prod.mk 15 (Value.int IntKind.i64 x4))]))) (ite2 (gtI x4 (6 : Int)) (some (Prod.mk Ex.ret (ex33_0 x0 x1 x2 false x4 (0 : Int) (0 : Int) [(Prod.mk 43 (Value.agg (Array.mk [(Value.int IntKind.i64 (0 : Int)), (Value.int IntKind.i64 (0 : Int))]))), (Prod.mk 42 (Value.bool true)), (Prod.mk 41 (Value.bool (gtI x4 (6 : Int)))), (Prod.mk 40 (Value.int IntKind.i64 x4)), (Prod.mk 39 (Value.bool false)), (Prod.mk 38 (Value.bool (geI x1 (1000000000000000 : Int)))), (Prod.mk 37 (Value.bool (geI x1 (1000000000000000 : Int)))), (Prod.mk 36 (Value.int IntKind.u64 x1)), (Prod.mk 35 (Value.bool false)), (Prod.mk 34 (Value.bool (gtI x0 (0 : Int)))), (Prod.mk 33 (Value.int IntKind.u64 x0)), (Prod.mk 16 (Value.bool false)), (Prod.mk 15 (Value.int IntKind.i64 x4))]))) (ite2 x2 (ite2 (ite2 (Sp.fok (Sp.fl (IntKind.wrap IntKind.i64 (Int.sub (0 : Int) (wrapA IntKind.i64 x1))))) (Sp.fok (Sp.fl x4)) false) (some (Prod.mk Ex.ret (ex33_0 x0 x1 x2 true x4 (Sp.fi (Sp.fl (IntKind.wrap IntKind.i64 (Int.sub (0 : Int) (wrapA IntKind.i64 x1))))) (Sp.fi (Sp.fl x4)) [(Prod.mk 53 (Value.agg (Array.mk [(Value.int IntKind.i64 (Sp.fi (Sp.fl (IntKind.wrap IntKind.i64 (Int.sub (0 : Int) (wrapA IntKind.i64 x1)))))), (Value.int IntKind.i64 (Sp.fi (Sp.fl x4)))]))), (Prod.mk 52 (Value.complex FloatKind.f64 (Sp.fl (IntKind.wrap IntKind.i64 (Int.sub (0 : Int) (wrapA IntKind.i64 x1)))) (Sp.fl x4))), (Prod.mk 51 (Value.agg (Array.mk [(Value.int IntKind.i64 (IntKind.wrap IntKind.i64 (Int.sub (0 : Int) (wrapA IntKind.i64 x1)))), (Value.int IntKind.i64 x4)]))), (Prod.mk 50 (Value.int IntKind.i64 x4)), (Prod.mk 49 (Value.int IntKind.i64 (IntKind.wrap IntKind.i64 (Int.sub (0 : Int) (wrapA IntKind.i64 x1))))), (Prod.mk 14 (Value.int IntKind.i64 (IntKind.wrap IntKind.i64 (Int.sub (0 : Int) (wrapA IntKind.i64 x1))))), (Prod.mk 48 (Value.int IntKind.i64 (IntKind.wrap IntKind.i64 (Int.sub (0 : Int) (wrapA IntKind.i64 x1))))), (Prod.mk 47 (Value.int IntKind.i64 (wrapA IntKind.i64 x1))), (Prod.mk 46 (Value.bool true)), (Prod.mk 14 (Value.int IntKind.i64 (wrapA IntKind.i64 x1))), (Prod.mk 45 (Value.int IntKind.i64 (wrapA IntKind.i64 x1))), (Prod.mk 44 (Value.int IntKind.u64 x1)), (Prod.mk 42 (Value.bool false)), (Prod.mk 41 (Value.bool (gtI x4 (6 : Int)))), (Prod.mk 40 (Value.int IntKind.i64 x4)), (Prod.mk 39 (Value.bool false)), (Prod.mk 38 (Value.bool (geI x1 (1000000000000000 : Int)))), (Prod.mk 37 (Value.bool (geI x1 (1000000000000000 : Int)))), (Prod.mk 36 (Value.int IntKind.u64 x1)), (Prod.mk 35 (Value.bool false)), (Prod.mk 34 (Value.bool (gtI x0 (0 : Int)))), (Prod.mk 33 (Value.int IntKind.u64 x0)), (Prod.mk 16 (Value.bool false)), (Prod.mk 15 (Value.int IntKind.i64 x4))]))) (none)) (ite2 (ite2 (Sp.fok (Sp.fl (wrapA IntKind.i64 x1))) (Sp.fok (Sp.fl x4)) false) (some (Prod.mk Ex.ret (ex33_0 x0 x1 x2 true x4 (Sp.fi (Sp.fl (wrapA IntKind.i64 x1))) (Sp.fi (Sp.fl x4)) [(Prod.mk 53 (Value.agg (Array.mk [(Value.int IntKind.i64 (Sp.fi (Sp.fl (wrapA IntKind.i64 x1)))), (Value.int IntKind.i64 (Sp.fi (Sp.fl x4)))]))), (Prod.mk 52 (Value.complex FloatKind.f64 (Sp.fl (wrapA IntKind.i64 x1)) (Sp.fl x4))), (Prod.mk 51 (Value.agg (Array.mk [(Value.int IntKind.i64 (wrapA IntKind.i64 x1)), (Value.int IntKind.i64 x4)]))), (Prod.mk 50 (Value.int IntKind.i64 x4)), (Prod.mk 49 (Value.int IntKind.i64 (wrapA IntKind.i64 x1))), (Prod.mk 46 (Value.bool false)), (Prod.mk 14 (Value.int IntKind.i64 (wrapA IntKind.i64 x1))), (Prod.mk 45 (Value.int IntKind.i64 (wrapA IntKind.i64 x1))), (Prod.mk 44 (Value.int IntKind.u64 x1)), (Prod.mk 42 (Value.bool false)), (Prod.mk 41 (Value.bool (gtI x4 (6 : Int)))), (Prod.mk 40 (Value.int IntKind.i64 x4)), (Prod.mk 39 (Value.bool false)), (Prod.mk 38 (Value.bool (geI x1 (1000000000000000 : Int)))), (Prod.mk 37 (Value.bool (geI x1 (1000000000000000 : Int)))), (Prod.mk 36 (Value.int IntKind.u64 x1)), (Prod.mk 35 (Value.bool false)), (Prod.mk 34 (Value.bool (gtI x0 (0 : Int)))), (Prod.mk 33 (Value.int IntKind.u64 x0)), (Prod.mk 16 (Value.bool false)), (Prod.mk 15 (Value.int IntKind.i64 x4))]))) (none))))))) := by kernel_rfl
theorem C33_0_0 (x0 : Int) (x1 : Int) (x2 : Bool) (x3 : Bool) (x4 : Int) (x6 : Int) (x7 : Int) (tp : Go.Am.Al) (lp : Code → Run) (gs : Code → Nat → Run) : (contAt Tryd.prog (fiAt fis 40) (kcallK [(57, div64S), (59, pointS), (58, ofS)]) (kcall [(57, div64S), (59, pointS), (58, ofS)]) lp gs (code 40) [1] (retK Tryd.prog (fiAt fis 40) (res 40))) Go.Am.Ex.ret (ex33_0 x0 x1 x2 x3 x4 x6 x7 tp) = (some (Value.tuple (Array.mk [(Value.agg (Array.mk [(Value.int IntKind.i64 x6), (Value.int IntKind.i64 x7)])), (Value.bool x3)]))) := by kernel_rfl
theorem K48 (lo y : Int) (lp : Code → Run) (gs : Code → Nat → Run) : bodyK Tryd.prog (fiAt fis 57) [] lp gs (code 57) (res 57) [.int .u64 0, .int .u64 lo, .int .u64 y] = (ite2 (eqI y (0 : Int)) (none) (ite2 (leI y (0 : Int)) (none) (ite2 (ite2 (eqI y (0 : Int)) false true) (ite2 (ite2 (eqI y (0 : Int)) false true) (some (Value.tuple (Array.mk [(Value.int IntKind.u64 (wrapA IntKind.u64 (Int.tdiv lo y))), (Value.int IntKind.u64 (Int.tmod lo y))]))) (none)) (none)))) := by kernel_rfl

theorem fis_ok : fisOk Tryd.prog fis = true := by kernel_rfl
def masks : Masks Tryd.prog := ⟨fis, fis_ok⟩
theorem i1_some {l : List Value} {a : Int} (h : i1 l = some a) : l = [.int .i64 a] := by
  unfold i1 at h; split at h
  · obtain rfl := Option.some.inj h; rfl
  · cases h
theorem i2_some {l : List Value} {p : Int × Int} (h : i2 l = some p) : l = [.int .i64 p.1, .int .i64 p.2] := by
  unfold i2 at h; split at h
  · obtain rfl := Option.some.inj h; rfl
  · cases h
theorem d1_some {l : List Value} {p : Int × Int} (h : d1 l = some p) : l = [decV p.1 p.2] := by
  unfold d1 at h; split at h
  · obtain rfl := Option.some.inj h; rfl
  · cases h
theorem d2_some {l : List Value} {q : (Int × Int) × (Int × Int)} (h : d2 l = some q) : l = [decV q.1.1 q.1.2, decV q.2.1 q.2.2] := by
  unfold d2 at h; split at h
  · obtain rfl := Option.some.inj h; rfl
  · cases h
noncomputable def plain : Hints := hints masks []
theorem plain_ok (base : Nat) (wo : Orig) : KnownOk Tryd.prog base wo plain := hints_ok fun _ h => by cases h
/-- the numbers from 0 to 6, one by one. -/
theorem six {p : Int → Prop} (h : ∀ i : Fin 7, p (i.val : Int)) (n : Int) (hn : Sp.in6 n = true) : p n := by
  have hn' : 0 ≤ n ∧ n ≤ 6 := by simpa [Sp.in6] using hn
  obtain ⟨k, rfl⟩ := Int.eq_ofNat_of_zero_le hn'.1
  exact h ⟨k, by omega⟩
theorem ten_h : Holds Tryd.prog (30, tenS) := holds_of_says Tryd.func30 (by kernel_rfl) (by kernel_rfl) fun args v hG => by
  obtain ⟨n, h1, h⟩ := ob_some hG
  obtain ⟨hp, rfl⟩ := Prod.mk.inj (Option.some.inj h)
  rw [i1_some h1]
  refine ⟨rfl, rfl, six (p := fun n => Says Tryd.prog 30 ⟨[.int .i64 n]⟩ (.int .i64 (Sp.p10 n))) (fun i => ?_) n hp⟩
  match i with
  | 0 => exact says_of_run (fun _ _ => plain_ok _ _) Tryd.func30 (by kernel_rfl) (by kernel_rfl) rfl rfl (fuel := 100) (by kernel_rfl)
  | 1 => exact says_of_run (fun _ _ => plain_ok _ _) Tryd.func30 (by kernel_rfl) (by kernel_rfl) rfl rfl (fuel := 100) (by kernel_rfl)
  | 2 => exact says_of_run (fun _ _ => plain_ok _ _) Tryd.func30 (by kernel_rfl) (by kernel_rfl) rfl rfl (fuel := 100) (by kernel_rfl)
  | 3 => exact says_of_run (fun _ _ => plain_ok _ _) Tryd.func30 (by kernel_rfl) (by kernel_rfl) rfl rfl (fuel := 100) (by kernel_rfl)
  | 4 => exact says_of_run (fun _ _ => plain_ok _ _) Tryd.func30 (by kernel_rfl) (by kernel_rfl) rfl rfl (fuel := 100) (by kernel_rfl)
  | 5 => exact says_of_run (fun _ _ => plain_ok _ _) Tryd.func30 (by kernel_rfl) (by kernel_rfl) rfl rfl (fuel := 100) (by kernel_rfl)
  | 6 => exact says_of_run (fun _ _ => plain_ok _ _) Tryd.func30 (by kernel_rfl) (by kernel_rfl) rfl rfl (fuel := 100) (by kernel_rfl)
theorem power_h : Holds Tryd.prog (45, tenS) := holds_of_says Tryd.func45 (by kernel_rfl) (by kernel_rfl) fun args v hG => by
  obtain ⟨n, h1, h⟩ := ob_some hG
  obtain ⟨hp, rfl⟩ := Prod.mk.inj (Option.some.inj h)
  rw [i1_some h1]
  refine ⟨rfl, rfl, six (p := fun n => Says Tryd.prog 45 ⟨[.int .i64 n]⟩ (.int .i64 (Sp.p10 n))) (fun i => ?_) n hp⟩
  match i with
  | 0 => exact says_of_run (fun _ _ => plain_ok _ _) Tryd.func45 (by kernel_rfl) (by kernel_rfl) rfl rfl (fuel := 100) (by kernel_rfl)
  | 1 => exact says_of_run (fun _ _ => plain_ok _ _) Tryd.func45 (by kernel_rfl) (by kernel_rfl) rfl rfl (fuel := 100) (by kernel_rfl)
  | 2 => exact says_of_run (fun _ _ => plain_ok _ _) Tryd.func45 (by kernel_rfl) (by kernel_rfl) rfl rfl (fuel := 100) (by kernel_rfl)
  | 3 => exact says_of_run (fun _ _ => plain_ok _ _) Tryd.func45 (by kernel_rfl) (by kernel_rfl) rfl rfl (fuel := 100) (by kernel_rfl)
  | 4 => exact says_of_run (fun _ _ => plain_ok _ _) Tryd.func45 (by kernel_rfl) (by kernel_rfl) rfl rfl (fuel := 100) (by kernel_rfl)
  | 5 => exact says_of_run (fun _ _ => plain_ok _ _) Tryd.func45 (by kernel_rfl) (by kernel_rfl) rfl rfl (fuel := 100) (by kernel_rfl)
  | 6 => exact says_of_run (fun _ _ => plain_ok _ _) Tryd.func45 (by kernel_rfl) (by kernel_rfl) rfl rfl (fuel := 100) (by kernel_rfl)
theorem tsplit (m k : Int) (hk : 0 < k) : m = k * m.tdiv k + m.tmod k ∧ -k < m.tmod k ∧ m.tmod k < k ∧ (0 ≤ m → 0 ≤ m.tmod k ∧ 0 ≤ m.tdiv k) ∧ (m ≤ 0 → m.tmod k ≤ 0 ∧ m.tdiv k ≤ 0) := by
  have h1 := Int.tmod_add_mul_tdiv m k
  obtain ⟨_, _, h2, h3⟩ := mod_cases m k hk
  refine ⟨by omega, h2, h3, fun h => ⟨Int.tmod_nonneg k h, Int.tdiv_nonneg h (by omega)⟩, fun h => ?_⟩
  have e1 : m.tmod k = -((-m).tmod k) := by rw [Int.neg_tmod]; omega
  have e2 : m.tdiv k = -((-m).tdiv k) := by rw [Int.neg_tdiv]; omega
  have := Int.tmod_nonneg k (show 0 ≤ -m by omega)
  have := Int.tdiv_nonneg (show 0 ≤ -m by omega) (show 0 ≤ k by omega)
  omega
theorem ok_iff {m s : Int} : Sp.ok m s = true ↔ (-1000000000000000 < m ∧ m < 1000000000000000 ∧ 0 ≤ s ∧ s ≤ 6) := by simp [Sp.ok]
theorem in6_of {s : Int} (h1 : 0 ≤ s) (h2 : s ≤ 6) : Sp.in6 s = true := by simp [Sp.in6]; omega
theorem p10_range (n : Int) (hn : Sp.in6 n = true) : 1 ≤ Sp.p10 n ∧ Sp.p10 n ≤ 1000000 := by
  refine six (p := fun n => 1 ≤ Sp.p10 n ∧ Sp.p10 n ≤ 1000000) (fun i => ?_) n hn
  match i with
  | 0 => exact ⟨by decide, by decide⟩
  | 1 => exact ⟨by decide, by decide⟩
  | 2 => exact ⟨by decide, by decide⟩
  | 3 => exact ⟨by decide, by decide⟩
  | 4 => exact ⟨by decide, by decide⟩
  | 5 => exact ⟨by decide, by decide⟩
  | 6 => exact ⟨by decide, by decide⟩
/-- a decimal's whole part, and what is behind the point, in millionths. -/
theorem dec_split (m s : Int) (hs : Sp.in6 s = true) : Sp.val m s = 1000000 * m.tdiv (Sp.p10 s) + m.tmod (Sp.p10 s) * Sp.p10 (6 - s) ∧ -1000000 < m.tmod (Sp.p10 s) * Sp.p10 (6 - s) ∧ m.tmod (Sp.p10 s) * Sp.p10 (6 - s) < 1000000 ∧
    (0 < m.tdiv (Sp.p10 s) → 0 ≤ m.tmod (Sp.p10 s) * Sp.p10 (6 - s)) ∧ (m.tdiv (Sp.p10 s) < 0 → m.tmod (Sp.p10 s) * Sp.p10 (6 - s) ≤ 0) := by
  revert m
  refine six (p := fun s => ∀ m, Sp.val m s = 1000000 * m.tdiv (Sp.p10 s) + m.tmod (Sp.p10 s) * Sp.p10 (6 - s) ∧ -1000000 < m.tmod (Sp.p10 s) * Sp.p10 (6 - s) ∧ m.tmod (Sp.p10 s) * Sp.p10 (6 - s) < 1000000 ∧
    (0 < m.tdiv (Sp.p10 s) → 0 ≤ m.tmod (Sp.p10 s) * Sp.p10 (6 - s)) ∧ (m.tdiv (Sp.p10 s) < 0 → m.tmod (Sp.p10 s) * Sp.p10 (6 - s) ≤ 0)) (fun i m => ?_) s hs
  match i with
  | 0 =>
    have h := tsplit m 1 (by omega)
    show m * 1000000 = 1000000 * m.tdiv 1 + m.tmod 1 * 1000000 ∧ -1000000 < m.tmod 1 * 1000000 ∧ m.tmod 1 * 1000000 < 1000000 ∧ (0 < m.tdiv 1 → 0 ≤ m.tmod 1 * 1000000) ∧ (m.tdiv 1 < 0 → m.tmod 1 * 1000000 ≤ 0)
    omega
  | 1 =>
    have h := tsplit m 10 (by omega)
    show m * 100000 = 1000000 * m.tdiv 10 + m.tmod 10 * 100000 ∧ -1000000 < m.tmod 10 * 100000 ∧ m.tmod 10 * 100000 < 1000000 ∧ (0 < m.tdiv 10 → 0 ≤ m.tmod 10 * 100000) ∧ (m.tdiv 10 < 0 → m.tmod 10 * 100000 ≤ 0)
    omega
  | 2 =>
    have h := tsplit m 100 (by omega)
    show m * 10000 = 1000000 * m.tdiv 100 + m.tmod 100 * 10000 ∧ -1000000 < m.tmod 100 * 10000 ∧ m.tmod 100 * 10000 < 1000000 ∧ (0 < m.tdiv 100 → 0 ≤ m.tmod 100 * 10000) ∧ (m.tdiv 100 < 0 → m.tmod 100 * 10000 ≤ 0)
    omega
  | 3 =>
    have h := tsplit m 1000 (by omega)
    show m * 1000 = 1000000 * m.tdiv 1000 + m.tmod 1000 * 1000 ∧ -1000000 < m.tmod 1000 * 1000 ∧ m.tmod 1000 * 1000 < 1000000 ∧ (0 < m.tdiv 1000 → 0 ≤ m.tmod 1000 * 1000) ∧ (m.tdiv 1000 < 0 → m.tmod 1000 * 1000 ≤ 0)
    omega
  | 4 =>
    have h := tsplit m 10000 (by omega)
    show m * 100 = 1000000 * m.tdiv 10000 + m.tmod 10000 * 100 ∧ -1000000 < m.tmod 10000 * 100 ∧ m.tmod 10000 * 100 < 1000000 ∧ (0 < m.tdiv 10000 → 0 ≤ m.tmod 10000 * 100) ∧ (m.tdiv 10000 < 0 → m.tmod 10000 * 100 ≤ 0)
    omega
  | 5 =>
    have h := tsplit m 100000 (by omega)
    show m * 10 = 1000000 * m.tdiv 100000 + m.tmod 100000 * 10 ∧ -1000000 < m.tmod 100000 * 10 ∧ m.tmod 100000 * 10 < 1000000 ∧ (0 < m.tdiv 100000 → 0 ≤ m.tmod 100000 * 10) ∧ (m.tdiv 100000 < 0 → m.tmod 100000 * 10 ≤ 0)
    omega
  | 6 =>
    have h := tsplit m 1000000 (by omega)
    show m * 1 = 1000000 * m.tdiv 1000000 + m.tmod 1000000 * 1 ∧ -1000000 < m.tmod 1000000 * 1 ∧ m.tmod 1000000 * 1 < 1000000 ∧ (0 < m.tdiv 1000000 → 0 ≤ m.tmod 1000000 * 1) ∧ (m.tdiv 1000000 < 0 → m.tmod 1000000 * 1 ≤ 0)
    omega
theorem times_h : Holds Tryd.prog (44, timesS) := holds_of_K masks (s := []) (fun _ h => by cases h) none Tryd.func44 (by kernel_rfl) (c := code 44) (by kernel_rfl) (rs := res 44) (by kernel_rfl) (by kernel_rfl) fun args v hG => by
  obtain ⟨⟨m, p⟩, h1, h⟩ := ob_some hG
  obtain ⟨hp, rfl⟩ := Prod.mk.inj (Option.some.inj h)
  rw [i2_some h1]
  refine ⟨rfl, rfl, rfl, 0, (K60 m p _ _).trans ?_⟩
  simp only [Sp.in15, Sp.in9, Bool.and_eq_true, decide_eq_true_eq] at hp
  obtain ⟨⟨m0, m1⟩, p0, p1⟩ := hp
  have hq := tsplit m 1000000000 (by omega)
  have b1 : 0 ≤ m.tmod 1000000000 * p := Int.mul_nonneg (by omega) p0
  have b2 : m.tmod 1000000000 * p ≤ 999999999 * 1000000000 := Int.mul_le_mul (by omega) p1 p0 (by omega)
  have b3 : 0 ≤ m.tdiv 1000000000 * p := Int.mul_nonneg (by omega) p0
  have b4 : m.tdiv 1000000000 * p ≤ 1000000 * 1000000000 := Int.mul_le_mul (by omega) p1 p0 (by omega)
  have e : m * p = 1000000000 * (m.tdiv 1000000000 * p) + m.tmod 1000000000 * p := by
    have : m * p = (1000000000 * m.tdiv 1000000000 + m.tmod 1000000000) * p := by rw [← hq.1]
    rw [this, Int.add_mul, Int.mul_assoc]
  show some (decV (wrapA .i64 (wrapA .i64 (wrapA .i64 (m.tdiv 1000000000) * p) + wrapA .i64 ((wrapA .i64 (m.tmod 1000000000 * p)).tdiv 1000000000))) ((wrapA .i64 (m.tmod 1000000000 * p)).tmod 1000000000)) = some (decV ((m * p).tdiv 1000000000) ((m * p).tmod 1000000000))
  rw [wrapA_i64 (x := m.tdiv 1000000000) (by omega) (by omega), wrapA_i64 (x := m.tmod 1000000000 * p) (by omega) (by omega), wrapA_i64 (x := m.tdiv 1000000000 * p) (by omega) (by omega)]
  generalize hu : m.tdiv 1000000000 * p = u at *
  generalize hv : m.tmod 1000000000 * p = v at *
  have hw := tsplit v 1000000000 (by omega)
  have hz := tsplit (m * p) 1000000000 (by omega)
  rw [wrapA_i64 (x := v.tdiv 1000000000) (by omega) (by omega), wrapA_i64 (by omega) (by omega)]
  have hmp : 0 ≤ m * p := by omega
  have g1 : u + v.tdiv 1000000000 = (m * p).tdiv 1000000000 := by omega
  have g2 : v.tmod 1000000000 = (m * p).tmod 1000000000 := by omega
  rw [g1, g2]
theorem sized_h : Holds Tryd.prog (31, sizedS) := holds_of_K masks (s := [(45, tenS), (44, timesS)]) (fun x h => by
    simp only [List.mem_cons, List.not_mem_nil, or_false] at h
    rcases h with rfl | rfl
    · exact power_h
    · exact times_h) none Tryd.func31 (by kernel_rfl) (c := code 31) (by kernel_rfl) (rs := res 31) (by kernel_rfl) (by kernel_rfl) fun args v hG => by
  obtain ⟨⟨m, s⟩, h1, h⟩ := ob_some hG
  obtain ⟨hp, rfl⟩ := Prod.mk.inj (Option.some.inj h)
  rw [d1_some h1]
  refine ⟨rfl, rfl, rfl, 0, (K38 m s _ _).trans ?_⟩
  obtain ⟨m0, m1, s0, s1⟩ := ok_iff.1 hp
  have h6 : Sp.in6 (6 - s) = true := in6_of (by omega) (by omega)
  obtain ⟨p0, p1⟩ := p10_range (6 - s) h6
  have h9 : Sp.in9 (Sp.p10 (6 - s)) = true := by simp [Sp.in9]; omega
  rw [show Int.sub 6 s = 6 - s from rfl, wrapA_i64 (x := 6 - s) (by omega) (by omega), show Int.sub 0 m = 0 - m from rfl, wrapA_i64 (x := 0 - m) (by omega) (by omega)]
  rw [h6, h9]
  simp only [ite2_true, ite2_and, Bool.and_true]
  unfold Sp.absv
  by_cases hm : m < 0
  · rw [ite2_pos (by rw [ltI_eq]; simpa using hm), ite2_pos (show Sp.in15 (0 - m) = true by simp [Sp.in15]; omega), if_pos hm, show 0 - m = -m from by omega]; rfl
  · rw [ite2_neg (by rw [ltI_eq]; simpa using hm), ite2_pos (show Sp.in15 m = true by simp [Sp.in15]; omega), if_neg hm]; rfl

theorem neg_one : Int.negSucc 0 = (-1 : Int) := rfl
theorem above_h : Holds Tryd.prog (32, aboveS) := holds_of_K masks (s := []) (fun _ h => by cases h) none Tryd.func32 (by kernel_rfl) (c := code 32) (by kernel_rfl) (rs := res 32) (by kernel_rfl) (by kernel_rfl) fun args v hG => by
  obtain ⟨⟨⟨a, b⟩, c, d⟩, h1, h⟩ := ob_some hG
  obtain ⟨hp, rfl⟩ := Prod.mk.inj (Option.some.inj h)
  rw [d2_some h1]
  refine ⟨rfl, rfl, rfl, 0, (K39 a b c d _ _).trans ?_⟩
  simp only [Sp.wid, Bool.and_eq_true, decide_eq_true_eq] at hp
  simp only [ite2_and]
  simp only [ltI_eq, eqI_dec, ite2_if, Bool.and_eq_true, decide_eq_true_eq, neg_one, Sp.cmp, Sp.wide, and_true]
  repeat' split
  all_goals simp only [Option.some.injEq, Value.int.injEq, true_and]
  all_goals (repeat' split)
  all_goals omega
theorem cmp_neg (x y : Int) : Sp.cmp (-y) (-x) = Sp.cmp x y := by
  unfold Sp.cmp; repeat' split
  all_goals first | rfl | (exfalso; omega)
theorem absv_val (m s : Int) : Sp.absv m s = if m < 0 then -(Sp.val m s) else Sp.val m s := by
  unfold Sp.absv Sp.val
  split
  · rw [Int.neg_mul]
  · rfl
theorem val_sign (m s : Int) (hs : Sp.in6 s = true) : (m < 0 → Sp.val m s < 0) ∧ (0 ≤ m → 0 ≤ Sp.val m s) := by
  have hs' : 0 ≤ s ∧ s ≤ 6 := by simpa [Sp.in6] using hs
  have hp := p10_range (6 - s) (in6_of (by omega) (by omega))
  unfold Sp.val
  exact ⟨fun h => Int.mul_neg_of_neg_of_pos h (by omega), fun h => Int.mul_nonneg h (by omega)⟩
theorem absv_range (m s : Int) (h : Sp.ok m s = true) : 0 ≤ Sp.absv m s ∧ Sp.absv m s ≤ 999999999999999 * 1000000 := by
  obtain ⟨m0, m1, s0, s1⟩ := ok_iff.1 h
  have hp := p10_range (6 - s) (in6_of (by omega) (by omega))
  unfold Sp.absv
  split
  · exact ⟨Int.mul_nonneg (by omega) (by omega), Int.mul_le_mul (by omega) (by omega) (by omega) (by omega)⟩
  · exact ⟨Int.mul_nonneg (by omega) (by omega), Int.mul_le_mul (by omega) (by omega) (by omega) (by omega)⟩
theorem wide_of (x : Int) (h0 : 0 ≤ x) (h1 : x ≤ 999999999999999 * 1000000) : Sp.wid (x.tdiv 1000000000) (x.tmod 1000000000) = true ∧ Sp.wide (x.tdiv 1000000000) (x.tmod 1000000000) = x := by
  have h := tsplit x 1000000000 (by omega)
  have h2 := h.2.2.2.1 h0
  exact ⟨by simp only [Sp.wid, decide_eq_true_eq]; omega, by unfold Sp.wide; omega⟩
theorem refcmp_h : Holds Tryd.prog (25, cmpS) := holds_of_K masks (s := [(31, sizedS), (32, aboveS)]) (fun x h => by
    simp only [List.mem_cons, List.not_mem_nil, or_false] at h
    rcases h with rfl | rfl
    · exact sized_h
    · exact above_h) none Tryd.func25 (by kernel_rfl) (c := code 25) (by kernel_rfl) (rs := res 25) (by kernel_rfl) (by kernel_rfl) fun args v hG => by
  obtain ⟨⟨⟨m, s⟩, n, t⟩, h1, h⟩ := ob_some hG
  obtain ⟨hp, rfl⟩ := Prod.mk.inj (Option.some.inj h)
  rw [d2_some h1]
  refine ⟨rfl, rfl, rfl, 0, (K15 m s n t _ _).trans ?_⟩
  rw [Bool.and_eq_true] at hp
  simp only at hp ⊢
  obtain ⟨ha, hb⟩ := hp
  obtain ⟨a0, a1⟩ := absv_range m s ha
  obtain ⟨b0, b1⟩ := absv_range n t hb
  obtain ⟨a2, a3⟩ := wide_of _ a0 a1
  obtain ⟨b2, b3⟩ := wide_of _ b0 b1
  obtain ⟨_, _, s0, s1⟩ := ok_iff.1 ha
  obtain ⟨_, _, t0, t1⟩ := ok_iff.1 hb
  have va := val_sign m s (in6_of s0 s1)
  have vb := val_sign n t (in6_of t0 t1)
  rw [a3, b3, a2, b2, ha, hb, absv_val, absv_val]
  simp only [ltI_eq, ite2_and, ite2_true, ite2_if, decide_eq_true_eq, neg_one, Bool.and_true, if_true, Bool.true_eq_false]
  by_cases hm : m < 0 <;> by_cases hn : n < 0 <;> simp only [hm, hn, if_true, if_false, Bool.false_eq_true]
  · rw [cmp_neg]
  · have := va.1 hm; have := vb.2 (by omega); unfold Sp.cmp; rw [if_pos (by omega)]
  · have := va.2 (by omega); have := vb.1 hn; unfold Sp.cmp; rw [if_neg (by omega), if_neg (by omega)]
theorem cmp_h : Holds Tryd.prog (24, cmpS) := holds_of_K masks (s := [(30, tenS)]) (fun x h => by rw [List.mem_singleton.1 h]; exact ten_h) none Tryd.func24 (by kernel_rfl) (c := code 24) (by kernel_rfl) (rs := res 24) (by kernel_rfl) (by kernel_rfl) fun args v hG => by
  obtain ⟨⟨⟨m, s⟩, n, t⟩, h1, h⟩ := ob_some hG
  obtain ⟨hp, rfl⟩ := Prod.mk.inj (Option.some.inj h)
  rw [d2_some h1]
  refine ⟨rfl, rfl, rfl, 0, (K14 m s n t _ _).trans ?_⟩
  rw [Bool.and_eq_true] at hp
  simp only at hp ⊢
  obtain ⟨ha, hb⟩ := hp
  obtain ⟨m0, m1, s0, s1⟩ := ok_iff.1 ha
  obtain ⟨n0, n1, t0, t1⟩ := ok_iff.1 hb
  have hs := in6_of s0 s1
  have ht := in6_of t0 t1
  have hs' : Sp.in6 (6 - s) = true := in6_of (by omega) (by omega)
  have ht' : Sp.in6 (6 - t) = true := in6_of (by omega) (by omega)
  have ps := p10_range s hs
  have pt := p10_range t ht
  have ms := dec_split m s hs
  have mt := dec_split n t ht
  have qs := tsplit m (Sp.p10 s) (by omega)
  have qt := tsplit n (Sp.p10 t) (by omega)
  have bs : -1000000000000000 < m.tdiv (Sp.p10 s) ∧ m.tdiv (Sp.p10 s) < 1000000000000000 := by
    have := Int.natAbs_tdiv_le_natAbs m (Sp.p10 s); omega
  have bt' : -1000000000000000 < n.tdiv (Sp.p10 t) ∧ n.tdiv (Sp.p10 t) < 1000000000000000 := by
    have := Int.natAbs_tdiv_le_natAbs n (Sp.p10 t); omega
  have es : Sp.in6 s = true := hs
  rw [show Int.sub 6 s = 6 - s from rfl, show Int.sub 6 t = 6 - t from rfl, wrapA_i64 (x := 6 - s) (by omega) (by omega), wrapA_i64 (x := 6 - t) (by omega) (by omega)]
  rw [wrapA_i64 (x := m.tdiv (Sp.p10 s)) (by omega) (by omega), wrapA_i64 (x := n.tdiv (Sp.p10 t)) (by omega) (by omega)]
  rw [show Int.mul (m.tmod (Sp.p10 s)) (Sp.p10 (6 - s)) = m.tmod (Sp.p10 s) * Sp.p10 (6 - s) from rfl, show Int.mul (n.tmod (Sp.p10 t)) (Sp.p10 (6 - t)) = n.tmod (Sp.p10 t) * Sp.p10 (6 - t) from rfl]
  rw [wrapA_i64 (x := m.tmod (Sp.p10 s) * Sp.p10 (6 - s)) (by omega) (by omega), wrapA_i64 (x := n.tmod (Sp.p10 t) * Sp.p10 (6 - t)) (by omega) (by omega)]
  have zs : eqI (Sp.p10 s) 0 = false := by rw [eqI_dec]; simp; omega
  have zt : eqI (Sp.p10 t) 0 = false := by rw [eqI_dec]; simp; omega
  rw [hs, ht, hs', ht', zs, zt]
  simp only [eqI_self, ite2_true, ite2_false]
  simp only [ltI_eq, eqI_dec, gtI_dec, ite2_if, decide_eq_true_eq, neg_one, Sp.cmp]
  rw [ms.1, mt.1]
  generalize m.tdiv (Sp.p10 s) = q at *
  generalize n.tdiv (Sp.p10 t) = q' at *
  generalize m.tmod (Sp.p10 s) * Sp.p10 (6 - s) = r at *
  generalize n.tmod (Sp.p10 t) * Sp.p10 (6 - t) = r' at *
  repeat' split
  all_goals simp only [Option.some.injEq, Value.int.injEq, true_and]
  all_goals (repeat' split)
  all_goals omega


end
end Go.Proofs.YtnoppcnfdnkhbaaDoor
