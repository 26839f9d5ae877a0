/- Contracts: reading by the reference. -/
import Derived.Test.YtnoppcnfdnkhbaaDoorVaD
namespace Go.Proofs.YtnoppcnfdnkhbaaDoor
open Go.RowKit Go.Am
set_option maxRecDepth 1000000
set_option linter.unusedSimpArgs false
set_option linter.unusedVariables false
noncomputable section
def failD : Value := .tuple ⟨[decV 0 0, .bool false]⟩
namespace Sp
def short3 (s : ByteArray) : Bool := decide ((strL s).length < 2000000000)
/-- a text's digits behind a number, as long as they are some, and below the bound. -/
def dgB (n : Int) (s : ByteArray) : Bool := (strL s).all Sp.dig && decide (Sp.num n (strL s) < 1000000000000000)
def dgN (n : Int) (s : ByteArray) : Int := if dgB n s = true then Sp.num n (strL s) else 0
def dgO (n : Int) (s : ByteArray) : Bool := dgB n s && !(strL s).isEmpty
def only (s : ByteArray) : Bool := (strL s).all Sp.dig
end Sp
def ns (l : List Value) : Option (Int × ByteArray) := match l with | [.int .i64 a, .string b] => some (a, b) | _ => none
def digitsS : List Value → Option (Bool × Value) := fun l => ob (ns l) fun q => some (Sp.in15 q.1 && Sp.short3 q.2, .tuple ⟨[.int .i64 (Sp.dgN q.1 q.2), .bool (Sp.dgO q.1 q.2)]⟩)
def onlyS : List Value → Option (Bool × Value) := fun l => ob (s1 l) fun s => some (Sp.short3 s, .bool (Sp.only s))

def st35_2_0 (x0 : ByteArray) (x1 : Int) (x2 : Bool) : St := (St.mk (Tr.nd (some (Value.string x0)) (Tr.nd none (Tr.nd (some (Value.int IntKind.i64 x1)) Tr.e Tr.e) Tr.e) (Tr.nd (some (Value.bool x2)) Tr.e Tr.e)) [] (Mem.mk Tr.e 6))
def ex35_0 (x0 : ByteArray) (x1 : Int) (x2 : Bool) (tp : Go.Am.Al) : St := (St.mk (Tr.nd (some (Value.string x0)) (Tr.nd none (Tr.nd (some (Value.int IntKind.i64 x1)) Tr.e Tr.e) Tr.e) (Tr.nd (some (Value.bool x2)) Tr.e Tr.e)) tp (Mem.mk Tr.e 6))
theorem K35 (s : ByteArray) (lp : Code → Run) (gs : Code → Nat → Run) : bodyK Tryd.prog (fiAt fis 42) [] lp gs (code 42) (res 42) [.string s] = (ob (lp (codeAt (code 42) [1, 0, 1, 0, 0]) (st35_2_0 s (0 : Int) false)) fun r => (contAt Tryd.prog (fiAt fis 42) (kcallK []) (kcall []) lp gs (code 42) [1, 0, 1, 0] (retK Tryd.prog (fiAt fis 42) (res 42))) r.1 r.2) := by kernel_rfl
theorem R35_2_0 (x0 : ByteArray) (x1 : Int) (x2 : Bool) (lp : Code → Run) (gs : Code → Nat → Run) : bt (gcPre none (st35_2_0 x0 x1 x2)) (exK Tryd.prog (fiAt fis 42) (kcallK []) (kcall []) lp gs (codeAt (code 42) [1, 0, 1, 0, 0]) (st35_2_0 x0 x1 x2) (fun e st => ob (goOn (fun st => ob (gcO none st) (lp (codeAt (code 42) [1, 0, 1, 0, 0]))) e st) some)) = (ite2 (ltI x1 (Int.ofNat (lenS x0))) (ob (byteS x0 x1) fun y0 => (ite2 (ltI y0 (48 : Int)) (some (Prod.mk Ex.ret (ex35_0 x0 x1 false [(Prod.mk 19 (Value.bool true)), (Prod.mk 18 (Value.tuple (Array.mk []))), (Prod.mk 17 (Value.tuple (Array.mk []))), (Prod.mk 16 (Value.tuple (Array.mk []))), (Prod.mk 15 (Value.tuple (Array.mk []))), (Prod.mk 14 (Value.bool true)), (Prod.mk 13 (Value.bool (ltI y0 (48 : Int)))), (Prod.mk 12 (Value.int IntKind.u8 y0)), (Prod.mk 11 (Value.int IntKind.i64 x1)), (Prod.mk 10 (Value.string x0)), (Prod.mk 7 (Value.bool true)), (Prod.mk 6 (Value.int IntKind.i64 (Int.ofNat (lenS x0)))), (Prod.mk 5 (Value.string x0)), (Prod.mk 4 (Value.int IntKind.i64 x1))]))) (ob (byteS x0 x1) fun y1 => (ite2 (gtI y1 (57 : Int)) (some (Prod.mk Ex.ret (ex35_0 x0 x1 false [(Prod.mk 19 (Value.bool true)), (Prod.mk 18 (Value.bool (gtI y1 (57 : Int)))), (Prod.mk 17 (Value.int IntKind.u8 y1)), (Prod.mk 16 (Value.int IntKind.i64 x1)), (Prod.mk 15 (Value.string x0)), (Prod.mk 14 (Value.bool false)), (Prod.mk 13 (Value.bool (ltI y0 (48 : Int)))), (Prod.mk 12 (Value.int IntKind.u8 y0)), (Prod.mk 11 (Value.int IntKind.i64 x1)), (Prod.mk 10 (Value.string x0)), (Prod.mk 7 (Value.bool true)), (Prod.mk 6 (Value.int IntKind.i64 (Int.ofNat (lenS x0)))), (Prod.mk 5 (Value.string x0)), (Prod.mk 4 (Value.int IntKind.i64 x1))]))) (ob (lp (codeAt (code 42) [1, 0, 1, 0, 0]) (st35_2_0 x0 (wrapA IntKind.i64 (Int.add x1 (1 : Int))) x2)) some))))) (some (Prod.mk (Ex.exit 0) (ex35_0 x0 x1 x2 [(Prod.mk 7 (Value.bool false)), (Prod.mk 6 (Value.int IntKind.i64 (Int.ofNat (lenS x0)))), (Prod.mk 5 (Value.string x0)), (Prod.mk 4 (Value.int IntKind.i64 x1))])))) := by kernel_rfl
theorem C35_0_0 (x0 : ByteArray) (x1 : Int) (x2 : Bool) (tp : Go.Am.Al) (lp : Code → Run) (gs : Code → Nat → Run) : (contAt Tryd.prog (fiAt fis 42) (kcallK []) (kcall []) lp gs (code 42) [1, 0, 1, 0] (retK Tryd.prog (fiAt fis 42) (res 42))) (Go.Am.Ex.exit 0) (ex35_0 x0 x1 x2 tp) = (some (Value.bool true)) := by kernel_rfl
theorem C35_0_1 (x0 : ByteArray) (x1 : Int) (x2 : Bool) (tp : Go.Am.Al) (lp : Code → Run) (gs : Code → Nat → Run) : (contAt Tryd.prog (fiAt fis 42) (kcallK []) (kcall []) lp gs (code 42) [1, 0, 1, 0] (retK Tryd.prog (fiAt fis 42) (res 42))) Go.Am.Ex.ret (ex35_0 x0 x1 x2 tp) = (some (Value.bool x2)) := by kernel_rfl
def st34_2_0 (x0 : Int) (x1 : ByteArray) (x2 : Bool) (x3 : Int) (x4 : Int) : St := (St.mk (Tr.nd (some (Value.int IntKind.i64 x0)) (Tr.nd (some (Value.string x1)) Tr.e (Tr.nd (some (Value.bool x2)) Tr.e Tr.e)) (Tr.nd none (Tr.nd (some (Value.int IntKind.i64 x3)) Tr.e Tr.e) (Tr.nd (some (Value.int IntKind.i64 x4)) Tr.e Tr.e))) [] (Mem.mk Tr.e 6))
def ex34_0 (x0 : Int) (x1 : ByteArray) (x2 : Bool) (x3 : Int) (x4 : Int) (tp : Go.Am.Al) : St := (St.mk (Tr.nd (some (Value.int IntKind.i64 x0)) (Tr.nd (some (Value.string x1)) Tr.e (Tr.nd (some (Value.bool x2)) Tr.e Tr.e)) (Tr.nd none (Tr.nd (some (Value.int IntKind.i64 x3)) Tr.e Tr.e) (Tr.nd (some (Value.int IntKind.i64 x4)) Tr.e Tr.e))) tp (Mem.mk Tr.e 6))
theorem K34 (n : Int) (s : ByteArray) (lp : Code → Run) (gs : Code → Nat → Run) : bodyK Tryd.prog (fiAt fis 41) [] lp gs (code 41) (res 41) [.int .i64 n, .string s] = (ob (lp (codeAt (code 41) [1, 0, 1, 0, 0]) (st34_2_0 n s false (0 : Int) (0 : Int))) fun r => (contAt Tryd.prog (fiAt fis 41) (kcallK []) (kcall []) lp gs (code 41) [1, 0, 1, 0] (retK Tryd.prog (fiAt fis 41) (res 41))) r.1 r.2) := by kernel_rfl
theorem R34_2_0 (x0 : Int) (x1 : ByteArray) (x2 : Bool) (x3 : Int) (x4 : Int) (lp : Code → Run) (gs : Code → Nat → Run) : bt (gcPre none (st34_2_0 x0 x1 x2 x3 x4)) (exK Tryd.prog (fiAt fis 41) (kcallK []) (kcall []) lp gs (codeAt (code 41) [1, 0, 1, 0, 0]) (st34_2_0 x0 x1 x2 x3 x4) (fun e st => ob (goOn (fun st => ob (gcO none st) (lp (codeAt (code 41) [1, 0, 1, 0, 0]))) e st) some)) = (ite2 (ltI x4 (Int.ofNat (lenS x1))) (ob (byteS x1 x4) fun y0 => (ite2 (ltI y0 (48 : Int)) (some (Prod.mk Ex.ret (ex34_0 x0 x1 false (0 : Int) x4 [(Prod.mk 22 (Value.bool true)), (Prod.mk 21 (Value.tuple (Array.mk []))), (Prod.mk 20 (Value.tuple (Array.mk []))), (Prod.mk 19 (Value.tuple (Array.mk []))), (Prod.mk 18 (Value.tuple (Array.mk []))), (Prod.mk 17 (Value.bool true)), (Prod.mk 16 (Value.bool (ltI y0 (48 : Int)))), (Prod.mk 15 (Value.int IntKind.u8 y0)), (Prod.mk 14 (Value.int IntKind.i64 x4)), (Prod.mk 13 (Value.string x1)), (Prod.mk 10 (Value.bool true)), (Prod.mk 9 (Value.int IntKind.i64 (Int.ofNat (lenS x1)))), (Prod.mk 8 (Value.string x1)), (Prod.mk 7 (Value.int IntKind.i64 x4))]))) (ob (byteS x1 x4) fun y1 => (ite2 (gtI y1 (57 : Int)) (some (Prod.mk Ex.ret (ex34_0 x0 x1 false (0 : Int) x4 [(Prod.mk 22 (Value.bool true)), (Prod.mk 21 (Value.bool (gtI y1 (57 : Int)))), (Prod.mk 20 (Value.int IntKind.u8 y1)), (Prod.mk 19 (Value.int IntKind.i64 x4)), (Prod.mk 18 (Value.string x1)), (Prod.mk 17 (Value.bool false)), (Prod.mk 16 (Value.bool (ltI y0 (48 : Int)))), (Prod.mk 15 (Value.int IntKind.u8 y0)), (Prod.mk 14 (Value.int IntKind.i64 x4)), (Prod.mk 13 (Value.string x1)), (Prod.mk 10 (Value.bool true)), (Prod.mk 9 (Value.int IntKind.i64 (Int.ofNat (lenS x1)))), (Prod.mk 8 (Value.string x1)), (Prod.mk 7 (Value.int IntKind.i64 x4))]))) (ob (byteS x1 x4) fun y2 => (ite2 (geI (wrapA IntKind.i64 (Int.add (wrapA IntKind.i64 (Int.mul (10 : Int) x0)) (wrapA IntKind.i64 (wrapA IntKind.u8 (Int.sub y2 (48 : Int)))))) (1000000000000000 : Int)) (some (Prod.mk Ex.ret (ex34_0 (wrapA IntKind.i64 (Int.add (wrapA IntKind.i64 (Int.mul (10 : Int) x0)) (wrapA IntKind.i64 (wrapA IntKind.u8 (Int.sub y2 (48 : Int)))))) x1 false (0 : Int) x4 [(Prod.mk 32 (Value.bool true)), (Prod.mk 31 (Value.int IntKind.i64 (wrapA IntKind.i64 (Int.add (wrapA IntKind.i64 (Int.mul (10 : Int) x0)) (wrapA IntKind.i64 (wrapA IntKind.u8 (Int.sub y2 (48 : Int)))))))), (Prod.mk 30 (Value.int IntKind.i64 (wrapA IntKind.i64 (Int.add (wrapA IntKind.i64 (Int.mul (10 : Int) x0)) (wrapA IntKind.i64 (wrapA IntKind.u8 (Int.sub y2 (48 : Int)))))))), (Prod.mk 29 (Value.int IntKind.i64 (wrapA IntKind.i64 (wrapA IntKind.u8 (Int.sub y2 (48 : Int)))))), (Prod.mk 28 (Value.int IntKind.u8 (wrapA IntKind.u8 (Int.sub y2 (48 : Int))))), (Prod.mk 27 (Value.int IntKind.u8 y2)), (Prod.mk 26 (Value.int IntKind.i64 x4)), (Prod.mk 25 (Value.string x1)), (Prod.mk 24 (Value.int IntKind.i64 (wrapA IntKind.i64 (Int.mul (10 : Int) x0)))), (Prod.mk 23 (Value.int IntKind.i64 x0)), (Prod.mk 22 (Value.bool false)), (Prod.mk 21 (Value.bool (gtI y1 (57 : Int)))), (Prod.mk 20 (Value.int IntKind.u8 y1)), (Prod.mk 19 (Value.int IntKind.i64 x4)), (Prod.mk 18 (Value.string x1)), (Prod.mk 17 (Value.bool false)), (Prod.mk 16 (Value.bool (ltI y0 (48 : Int)))), (Prod.mk 15 (Value.int IntKind.u8 y0)), (Prod.mk 14 (Value.int IntKind.i64 x4)), (Prod.mk 13 (Value.string x1)), (Prod.mk 10 (Value.bool true)), (Prod.mk 9 (Value.int IntKind.i64 (Int.ofNat (lenS x1)))), (Prod.mk 8 (Value.string x1)), (Prod.mk 7 (Value.int IntKind.i64 x4))]))) (ob (lp (codeAt (code 41) [1, 0, 1, 0, 0]) (st34_2_0 (wrapA IntKind.i64 (Int.add (wrapA IntKind.i64 (Int.mul (10 : Int) x0)) (wrapA IntKind.i64 (wrapA IntKind.u8 (Int.sub y2 (48 : Int)))))) x1 x2 x3 (wrapA IntKind.i64 (Int.add x4 (1 : Int))))) some))))))) (some (Prod.mk (Ex.exit 0) (ex34_0 x0 x1 x2 x3 x4 [(Prod.mk 10 (Value.bool false)), (Prod.mk 9 (Value.int IntKind.i64 (Int.ofNat (lenS x1)))), (Prod.mk 8 (Value.string x1)), (Prod.mk 7 (Value.int IntKind.i64 x4))])))) := by kernel_rfl
theorem C34_0_0 (x0 : Int) (x1 : ByteArray) (x2 : Bool) (x3 : Int) (x4 : Int) (tp : Go.Am.Al) (lp : Code → Run) (gs : Code → Nat → Run) : (contAt Tryd.prog (fiAt fis 41) (kcallK []) (kcall []) lp gs (code 41) [1, 0, 1, 0] (retK Tryd.prog (fiAt fis 41) (res 41))) (Go.Am.Ex.exit 0) (ex34_0 x0 x1 x2 x3 x4 tp) = (some (Value.tuple (Array.mk [(Value.int IntKind.i64 x0), (Value.bool (neS x1 (⟨⟨[]⟩⟩ : ByteArray)))]))) := by kernel_rfl
theorem C34_0_1 (x0 : Int) (x1 : ByteArray) (x2 : Bool) (x3 : Int) (x4 : Int) (tp : Go.Am.Al) (lp : Code → Run) (gs : Code → Nat → Run) : (contAt Tryd.prog (fiAt fis 41) (kcallK []) (kcall []) lp gs (code 41) [1, 0, 1, 0] (retK Tryd.prog (fiAt fis 41) (res 41))) Go.Am.Ex.ret (ex34_0 x0 x1 x2 x3 x4 tp) = (some (Value.tuple (Array.mk [(Value.int IntKind.i64 x3), (Value.bool x2)]))) := by kernel_rfl
def st12_5_0 (x0 : ByteArray) (x1 : Bool) (x2 : Int) (x3 : Bool) (x4 : Int) (x5 : Int) : St := (St.mk (Tr.nd (some (Value.string x0)) (Tr.nd none (Tr.nd (some (Value.bool x1)) Tr.e Tr.e) (Tr.nd (some (Value.int IntKind.i64 x2)) Tr.e Tr.e)) (Tr.nd (some (Value.pointer (some (Addr.mk 6 0 none)))) (Tr.nd (some (Value.bool x3)) Tr.e Tr.e) Tr.e)) [] (Mem.mk (Tr.nd none Tr.e (Tr.nd none Tr.e (Tr.nd (some (Blk.cells 2 (Tr.nd (some (Value.int IntKind.i64 x4)) (Tr.nd (some (Value.int IntKind.i64 x5)) Tr.e Tr.e) Tr.e) 0 Bool.true none)) Tr.e Tr.e))) 7))
def ex12_0 (x0 : ByteArray) (x1 : Bool) (x2 : Int) (x3 : Bool) (x5 : Int) (x6 : Int) (tp : Go.Am.Al) : St := (St.mk (Tr.nd (some (Value.string x0)) (Tr.nd none (Tr.nd (some (Value.bool x1)) Tr.e Tr.e) (Tr.nd (some (Value.int IntKind.i64 x2)) Tr.e Tr.e)) (Tr.nd (some (Value.pointer (some (Addr.mk 6 0 none)))) (Tr.nd (some (Value.bool x3)) Tr.e Tr.e) Tr.e)) tp (Mem.mk (Tr.nd none Tr.e (Tr.nd none Tr.e (Tr.nd (some (Blk.cells 2 (Tr.nd (some (Value.int IntKind.i64 x5)) (Tr.nd (some (Value.int IntKind.i64 x6)) Tr.e Tr.e) Tr.e) 0 Bool.true none)) Tr.e Tr.e))) 7))
def st12_12_0 (x0 : ByteArray) (x1 : Bool) (x2 : ByteArray) (x3 : Int) (x4 : Bool) (x5 : ByteArray) (x6 : Int) (x7 : Int) : St := (St.mk (Tr.nd (some (Value.string x0)) (Tr.nd none (Tr.nd (some (Value.bool x1)) (Tr.nd (some (Value.string x2)) Tr.e Tr.e) Tr.e) (Tr.nd (some (Value.int IntKind.i64 x3)) Tr.e Tr.e)) (Tr.nd (some (Value.pointer (some (Addr.mk 6 0 none)))) (Tr.nd (some (Value.bool x4)) Tr.e Tr.e) (Tr.nd (some (Value.string x5)) Tr.e Tr.e))) [] (Mem.mk (Tr.nd none Tr.e (Tr.nd none Tr.e (Tr.nd (some (Blk.cells 2 (Tr.nd (some (Value.int IntKind.i64 x6)) (Tr.nd (some (Value.int IntKind.i64 x7)) Tr.e Tr.e) Tr.e) 0 Bool.true none)) Tr.e Tr.e))) 7))
def ex12_1 (x0 : ByteArray) (x1 : Bool) (x2 : ByteArray) (x3 : Int) (x4 : Bool) (x5 : ByteArray) (x7 : Int) (x8 : Int) (tp : Go.Am.Al) : St := (St.mk (Tr.nd (some (Value.string x0)) (Tr.nd none (Tr.nd (some (Value.bool x1)) (Tr.nd (some (Value.string x2)) Tr.e Tr.e) Tr.e) (Tr.nd (some (Value.int IntKind.i64 x3)) Tr.e Tr.e)) (Tr.nd (some (Value.pointer (some (Addr.mk 6 0 none)))) (Tr.nd (some (Value.bool x4)) Tr.e Tr.e) (Tr.nd (some (Value.string x5)) Tr.e Tr.e))) tp (Mem.mk (Tr.nd none Tr.e (Tr.nd none Tr.e (Tr.nd (some (Blk.cells 2 (Tr.nd (some (Value.int IntKind.i64 x7)) (Tr.nd (some (Value.int IntKind.i64 x8)) Tr.e Tr.e) Tr.e) 0 Bool.true none)) Tr.e Tr.e))) 7))
theorem K12 (s : ByteArray) (lp : Code → Run) (gs : Code → Nat → Run) : bodyK Tryd.prog (fiAt fis 29) [(41, digitsS), (42, onlyS), (43, normS)] lp gs (code 29) (res 29) [.string s] = (ite2 (Nat.ble 1 (lenS s)) (ob (byteS s (0 : Int)) fun y0 => (ite2 (eqI y0 (43 : Int)) (ob (byteS s (0 : Int)) fun y4 => (ob (ite2 (Nat.ble 1 (lenS s)) (some 1) (none)) fun y5 => (ob (lp (codeAt (code 29) [1, 1, 1, 1, 0, 0, 0]) (st12_5_0 (subS s y5 (lenS s)) false (0 : Int) (eqI y4 (45 : Int)) (0 : Int) (0 : Int))) fun r => (contAt Tryd.prog (fiAt fis 29) (kcallK [(41, digitsS), (42, onlyS), (43, normS)]) (kcall [(41, digitsS), (42, onlyS), (43, normS)]) lp gs (code 29) [1, 1, 1, 1, 0, 0] (retK Tryd.prog (fiAt fis 29) (res 29))) r.1 r.2))) (ob (byteS s (0 : Int)) fun y1 => (ite2 (eqI y1 (45 : Int)) (ob (byteS s (0 : Int)) fun y2 => (ob (ite2 (Nat.ble 1 (lenS s)) (some 1) (none)) fun y3 => (ob (lp (codeAt (code 29) [1, 1, 1, 1, 0, 0, 0]) (st12_5_0 (subS s y3 (lenS s)) false (0 : Int) (eqI y2 (45 : Int)) (0 : Int) (0 : Int))) fun r => (contAt Tryd.prog (fiAt fis 29) (kcallK [(41, digitsS), (42, onlyS), (43, normS)]) (kcall [(41, digitsS), (42, onlyS), (43, normS)]) lp gs (code 29) [1, 1, 1, 1, 0, 0] (retK Tryd.prog (fiAt fis 29) (res 29))) r.1 r.2))) (ob (lp (codeAt (code 29) [1, 1, 1, 1, 0, 0, 0]) (st12_5_0 s false (0 : Int) false (0 : Int) (0 : Int))) fun r => (contAt Tryd.prog (fiAt fis 29) (kcallK [(41, digitsS), (42, onlyS), (43, normS)]) (kcall [(41, digitsS), (42, onlyS), (43, normS)]) lp gs (code 29) [1, 1, 1, 1, 0, 0] (retK Tryd.prog (fiAt fis 29) (res 29))) r.1 r.2))))) (ob (lp (codeAt (code 29) [1, 1, 1, 1, 0, 0, 0]) (st12_5_0 s false (0 : Int) false (0 : Int) (0 : Int))) fun r => (contAt Tryd.prog (fiAt fis 29) (kcallK [(41, digitsS), (42, onlyS), (43, normS)]) (kcall [(41, digitsS), (42, onlyS), (43, normS)]) lp gs (code 29) [1, 1, 1, 1, 0, 0] (retK Tryd.prog (fiAt fis 29) (res 29))) r.1 r.2)) := by kernel_rfl
theorem R12_5_0 (x0 : ByteArray) (x1 : Bool) (x2 : Int) (x3 : Bool) (x4 : Int) (x5 : Int) (lp : Code → Run) (gs : Code → Nat → Run) : bt (gcPre none (st12_5_0 x0 x1 x2 x3 x4 x5)) (exK Tryd.prog (fiAt fis 29) (kcallK [(41, digitsS), (42, onlyS), (43, normS)]) (kcall [(41, digitsS), (42, onlyS), (43, normS)]) lp gs (codeAt (code 29) [1, 1, 1, 1, 0, 0, 0]) (st12_5_0 x0 x1 x2 x3 x4 x5) (fun e st => ob (goOn (fun st => ob (gcO none st) (lp (codeAt (code 29) [1, 1, 1, 1, 0, 0, 0]))) e st) some)) = (ite2 (ltI x2 (Int.ofNat (lenS x0))) (ob (byteS x0 x2) fun y0 => (ite2 (neI y0 (46 : Int)) (ob (lp (codeAt (code 29) [1, 1, 1, 1, 0, 0, 0]) (st12_5_0 x0 x1 (wrapA IntKind.i64 (Int.add x2 (1 : Int))) x3 x4 x5)) some) (some (Prod.mk (Ex.exit 0) (ex12_0 x0 x1 x2 x3 x4 x5 [(Prod.mk 37 (Value.bool false)), (Prod.mk 36 (Value.bool (neI y0 (46 : Int)))), (Prod.mk 35 (Value.int IntKind.u8 y0)), (Prod.mk 34 (Value.int IntKind.i64 x2)), (Prod.mk 33 (Value.string x0)), (Prod.mk 32 (Value.bool true)), (Prod.mk 31 (Value.bool (ltI x2 (Int.ofNat (lenS x0))))), (Prod.mk 30 (Value.int IntKind.i64 (Int.ofNat (lenS x0)))), (Prod.mk 29 (Value.string x0)), (Prod.mk 28 (Value.int IntKind.i64 x2))]))))) (some (Prod.mk (Ex.exit 0) (ex12_0 x0 x1 x2 x3 x4 x5 [(Prod.mk 37 (Value.bool false)), (Prod.mk 36 (Value.tuple (Array.mk []))), (Prod.mk 35 (Value.tuple (Array.mk []))), (Prod.mk 34 (Value.tuple (Array.mk []))), (Prod.mk 33 (Value.tuple (Array.mk []))), (Prod.mk 32 (Value.bool false)), (Prod.mk 31 (Value.bool (ltI x2 (Int.ofNat (lenS x0))))), (Prod.mk 30 (Value.int IntKind.i64 (Int.ofNat (lenS x0)))), (Prod.mk 29 (Value.string x0)), (Prod.mk 28 (Value.int IntKind.i64 x2))])))) := by kernel_rfl
theorem R12_12_0 (x0 : ByteArray) (x1 : Bool) (x2 : ByteArray) (x3 : Int) (x4 : Bool) (x5 : ByteArray) (x6 : Int) (x7 : Int) (lp : Code → Run) (gs : Code → Nat → Run) : bt (gcPre none (st12_12_0 x0 x1 x2 x3 x4 x5 x6 x7)) (exK Tryd.prog (fiAt fis 29) (kcallK [(41, digitsS), (42, onlyS), (43, normS)]) (kcall [(41, digitsS), (42, onlyS), (43, normS)]) lp gs (codeAt (code 29) [1, 1, 1, 1, 1, 1, 0, 1, 0, 1, 1, 0, 0]) (st12_12_0 x0 x1 x2 x3 x4 x5 x6 x7) (fun e st => ob (goOn (fun st => ob (gcO none st) (lp (codeAt (code 29) [1, 1, 1, 1, 1, 1, 0, 1, 0, 1, 1, 0, 0]))) e st) some)) = (ite2 (Nat.ble 1 (lenS x2)) (ob (byteS x2 (wrapA IntKind.i64 (Int.sub (Int.ofNat (lenS x2)) (1 : Int)))) fun y0 => (ite2 (eqI y0 (48 : Int)) (ob (le? (wrapA IntKind.i64 (Int.sub (Int.ofNat (lenS x2)) (1 : Int))) (lenS x2)) fun y1 => (ob (lp (codeAt (code 29) [1, 1, 1, 1, 1, 1, 0, 1, 0, 1, 1, 0, 0]) (st12_12_0 x0 x1 (subS x2 0 y1) x3 x4 x5 x6 x7)) some)) (some (Prod.mk (Ex.exit 2) (ex12_1 x0 x1 x2 x3 x4 x5 x6 x7 [(Prod.mk 64 (Value.bool false)), (Prod.mk 63 (Value.bool (eqI y0 (48 : Int)))), (Prod.mk 62 (Value.int IntKind.u8 y0)), (Prod.mk 61 (Value.int IntKind.i64 (wrapA IntKind.i64 (Int.sub (Int.ofNat (lenS x2)) (1 : Int))))), (Prod.mk 60 (Value.int IntKind.i64 (Int.ofNat (lenS x2)))), (Prod.mk 59 (Value.string x2)), (Prod.mk 58 (Value.string x2)), (Prod.mk 57 (Value.bool true)), (Prod.mk 56 (Value.bool (Nat.ble 1 (lenS x2)))), (Prod.mk 55 (Value.int IntKind.i64 (Int.ofNat (lenS x2)))), (Prod.mk 54 (Value.string x2))]))))) (some (Prod.mk (Ex.exit 2) (ex12_1 x0 x1 x2 x3 x4 x5 x6 x7 [(Prod.mk 64 (Value.bool false)), (Prod.mk 63 (Value.tuple (Array.mk []))), (Prod.mk 62 (Value.tuple (Array.mk []))), (Prod.mk 61 (Value.tuple (Array.mk []))), (Prod.mk 60 (Value.tuple (Array.mk []))), (Prod.mk 59 (Value.tuple (Array.mk []))), (Prod.mk 58 (Value.tuple (Array.mk []))), (Prod.mk 57 (Value.bool false)), (Prod.mk 56 (Value.bool (Nat.ble 1 (lenS x2)))), (Prod.mk 55 (Value.int IntKind.i64 (Int.ofNat (lenS x2)))), (Prod.mk 54 (Value.string x2))])))) := by kernel_rfl

def finP (b : Bool) (x2 : ByteArray) (N : Int) : Option Value :=
  ite2 b (ite2 (ite2 (Sp.in62 (wrapA IntKind.i64 (Int.sub 0 N))) (Sp.in12 (Int.ofNat (lenS x2))) false) (some (decRes (wrapA IntKind.i64 (Int.sub 0 N)) (Int.ofNat (lenS x2)))) none)
    (ite2 (ite2 (Sp.in62 N) (Sp.in12 (Int.ofNat (lenS x2))) false) (some (decRes N (Int.ofNat (lenS x2)))) none)
def restP (b : Bool) (x5 x2 : ByteArray) : Option Value :=
  ite2 (neS x2 ⟨⟨[]⟩⟩) (ite2 (ite2 (Sp.in15 (Sp.dgN 0 x5)) (Sp.short3 x2) false) (ite2 (ite2 (Sp.dgO (Sp.dgN 0 x5) x2) false true) (some failD) (finP b x2 (Sp.dgN (Sp.dgN 0 x5) x2))) none)
    (ite2 (ite2 (Sp.dgO 0 x5) false true) (some failD) (finP b x2 (Sp.dgN 0 x5)))
def tailP (b : Bool) (x5 x2 : ByteArray) : Option Value :=
  ite2 (Sp.short3 x5) (ite2 (ite2 (Sp.dgO 0 x5) false true) (some failD) (ite2 (Nat.ble 7 (lenS x2)) (ite2 (Sp.short3 x2) (ite2 (Sp.only x2) (some failD) (restP b x5 x2)) none) (restP b x5 x2))) none
noncomputable abbrev s12 : List KSpec := [(41, digitsS), (42, onlyS), (43, normS)]
theorem C12_1 (x0 : ByteArray) (x1 : Bool) (x2 : ByteArray) (x3 : Int) (x4 : Bool) (x5 : ByteArray) (x7 : Int) (x8 : Int) (tp : Al) (lp : Code → Run) (gs : Code → Nat → Run) : (contAt Tryd.prog (fiAt fis 29) (kcallK s12) (kcall s12) lp gs (code 29) [1, 1, 1, 1, 1, 1, 0, 1, 0, 1, 1, 0] (retK Tryd.prog (fiAt fis 29) (res 29))) (Ex.exit 2) (ex12_1 x0 x1 x2 x3 x4 x5 x7 x8 tp) = tailP x4 x5 x2 := by kernel_rfl
theorem C12_0 (x0 : ByteArray) (x1 : Bool) (x2 : Int) (x3 : Bool) (x5 : Int) (x6 : Int) (tp : Al) (lp : Code → Run) (gs : Code → Nat → Run) : (contAt Tryd.prog (fiAt fis 29) (kcallK s12) (kcall s12) lp gs (code 29) [1, 1, 1, 1, 0, 0] (retK Tryd.prog (fiAt fis 29) (res 29))) (Ex.exit 0) (ex12_0 x0 x1 x2 x3 x5 x6 tp) =
    ob (le? x2 (lenS x0)) fun y0 => ite2 (ltI x2 (Int.ofNat (lenS x0))) (ob (le? (wrapA IntKind.i64 (Int.add x2 1)) (lenS x0)) fun y1 => ite2 (eqS (subS x0 y1 (lenS x0)) ⟨⟨[]⟩⟩) (some failD)
      (ob (lp (codeAt (code 29) [1, 1, 1, 1, 1, 1, 0, 1, 0, 1, 1, 0, 0]) (st12_12_0 x0 x1 (subS x0 y1 (lenS x0)) x2 x3 (subS x0 0 y0) x5 x6)) fun r => (contAt Tryd.prog (fiAt fis 29) (kcallK s12) (kcall s12) lp gs (code 29) [1, 1, 1, 1, 1, 1, 0, 1, 0, 1, 1, 0] (retK Tryd.prog (fiAt fis 29) (res 29))) r.1 r.2)) (tailP x3 (subS x0 0 y0) ⟨⟨[]⟩⟩) := by kernel_rfl
theorem byteS_at (s : ByteArray) (i : Nat) (h : i < (strL s).length) : byteS s (i : Int) = some (Int.ofNat ((strL s)[i]).toNat) := by
  show ob ((strL s)[i]?) _ = _
  rw [List.getElem?_eq_getElem h]; rfl
theorem dig_iff (b : UInt8) : Sp.dig b = true ↔ (48 ≤ b.toNat ∧ b.toNat ≤ 57) := by simp [Sp.dig]
theorem dig_lt {β : Type} (b : UInt8) (x y : β) (k : β) : ite2 (ltI (Int.ofNat b.toNat) 48) x (ite2 (gtI (Int.ofNat b.toNat) 57) y k) = if Sp.dig b = true then k else if b.toNat < 48 then x else y := by
  rw [ltI_eq, gtI_dec]
  have e : (Int.ofNat b.toNat : Int) = (b.toNat : Int) := rfl
  rw [e]
  by_cases h1 : b.toNat < 48
  · rw [ite2_pos (decide_eq_true (by omega)), if_neg (by rw [dig_iff]; omega), if_pos h1]
  · rw [ite2_neg (decide_eq_false (by omega))]
    by_cases h2 : 57 < b.toNat
    · rw [ite2_pos (decide_eq_true (by omega)), if_neg (by rw [dig_iff]; omega), if_neg h1]
    · rw [ite2_neg (decide_eq_false (by omega)), if_pos ((dig_iff b).2 ⟨by omega, by omega⟩)]
theorem only_loop {s : ByteArray} (hs : (strL s).length < 2000000000) : ∀ (n i f : Nat), i + n = (strL s).length → n < f →
    ∃ (e : Ex) (b : Int) (tp : Al), (ltow Tryd.prog (fiAt fis 42) (kcall []) none f).lp (codeAt (code 42) [1, 0, 1, 0, 0]) (st35_2_0 s (i : Int) false) = some (e, ex35_0 s b false tp) ∧ ((e = .exit 0 ∧ ((strL s).drop i).all Sp.dig = true) ∨ (e = .ret ∧ ((strL s).drop i).all Sp.dig = false)) := by
  intro n
  induction n with
  | zero =>
    intro i f hi hf
    obtain ⟨f, rfl⟩ : ∃ g, f = g + 1 := ⟨f - 1, by omega⟩
    rw [← ob_id ((ltow ..).lp _ _), lp_round, R35_2_0, ite2_neg (show ltI (i : Int) (Int.ofNat (lenS s)) = false from by rw [ltI_eq]; exact decide_eq_false (by show ¬ (i : Int) < ((strL s).length : Int); omega))]
    exact ⟨_, _, _, rfl, .inl ⟨rfl, by rw [List.drop_eq_nil_of_le (by omega)]; rfl⟩⟩
  | succ n ih =>
    intro i f hi hf
    obtain ⟨f, rfl⟩ : ∃ g, f = g + 1 := ⟨f - 1, by omega⟩
    have hi0 : i < (strL s).length := by omega
    rw [← ob_id ((ltow ..).lp _ _), lp_round, R35_2_0, ite2_pos (show ltI (i : Int) (Int.ofNat (lenS s)) = true from by rw [ltI_eq]; exact decide_eq_true (by show (i : Int) < ((strL s).length : Int); omega)), byteS_at s i hi0, ob_of, ob_of, dig_lt, List.drop_eq_getElem_cons hi0, List.all_cons]
    by_cases hd : Sp.dig (strL s)[i] = true
    · rw [if_pos hd, show wrapA IntKind.i64 (Int.add (i : Int) 1) = ((i + 1 : Nat) : Int) from wrapA_i64 (show _ ≤ (i : Int) + 1 by omega) (show (i : Int) + 1 < _ by omega), ob_id, hd, Bool.true_and]
      exact ih (i + 1) f (by omega) (by omega)
    · rw [if_neg hd, Bool.eq_false_iff.2 hd, Bool.false_and]
      split
      · exact ⟨_, _, _, rfl, .inr ⟨rfl, rfl⟩⟩
      · exact ⟨_, _, _, rfl, .inr ⟨rfl, rfl⟩⟩
theorem only_h : Holds Tryd.prog (42, onlyS) := holds_of_K masks (s := []) (fun _ h => by cases h) none Tryd.func42 (by kernel_rfl) (c := code 42) (by kernel_rfl) (rs := res 42) (by kernel_rfl) (by kernel_rfl) fun args v hG => by
  obtain ⟨s, h1, h⟩ := ob_some hG
  obtain ⟨hp, rfl⟩ := Prod.mk.inj (Option.some.inj h)
  rw [s1_some h1]
  have hs : (strL s).length < 2000000000 := of_decide_eq_true hp
  refine ⟨rfl, rfl, rfl, (strL s).length + 1, (K35 s _ _).trans ?_⟩
  obtain ⟨e, b, tp, h1, h2⟩ := only_loop hs (strL s).length 0 ((strL s).length + 1) (by omega) (by omega)
  refine (congrArg (fun q => ob q _) h1).trans ?_
  rcases h2 with ⟨rfl, hz⟩ | ⟨rfl, hz⟩
  · refine (C35_0_0 _ _ _ _ _ _).trans ?_
    rw [show Sp.only s = true from by rw [List.drop_zero] at hz; exact hz]
  · refine (C35_0_1 _ _ _ _ _ _).trans ?_
    rw [show Sp.only s = false from by rw [List.drop_zero] at hz; exact hz]
theorem num_cons (a : Int) (b : UInt8) (l : List UInt8) : Sp.num a (b :: l) = Sp.num (10 * a + ((b.toNat : Int) - 48)) l := rfl
theorem num_app (a : Int) (l r : List UInt8) : Sp.num a (l ++ r) = Sp.num (Sp.num a l) r := by unfold Sp.num; rw [List.foldl_append]
theorem num_bounds : ∀ (l : List UInt8) (a : Int), 0 ≤ a → l.all Sp.dig = true → a * 10 ^ l.length ≤ Sp.num a l ∧ Sp.num a l < (a + 1) * 10 ^ l.length := by
  intro l
  induction l with
  | nil => intro a h0 _; simp [Sp.num]; omega
  | cons b l ih =>
    intro a h0 hd
    rw [List.all_cons, Bool.and_eq_true] at hd
    have hb := (dig_iff b).1 hd.1
    obtain ⟨h1, h2⟩ := ih (10 * a + ((b.toNat : Int) - 48)) (by omega) hd.2
    have hp : (0 : Int) < 10 ^ l.length := Int.pow_pos (by omega)
    rw [num_cons, List.length_cons, Int.pow_succ]
    have e1 : a * (10 ^ l.length * 10) = 10 * a * 10 ^ l.length := by rw [Int.mul_comm (10 ^ l.length), ← Int.mul_assoc, Int.mul_comm a]
    have e2 : (a + 1) * (10 ^ l.length * 10) = (10 * a + 10) * 10 ^ l.length := by rw [Int.mul_comm (10 ^ l.length), ← Int.mul_assoc, Int.add_mul]; congr 1; omega
    have m1 := Int.mul_le_mul_of_nonneg_right (show 10 * a ≤ 10 * a + ((b.toNat : Int) - 48) by omega) (Int.le_of_lt hp)
    have m2 := Int.mul_le_mul_of_nonneg_right (show 10 * a + ((b.toNat : Int) - 48) + 1 ≤ 10 * a + 10 by omega) (Int.le_of_lt hp)
    rw [e1, e2]
    omega
theorem num_le {l : List UInt8} {a : Int} (h0 : 0 ≤ a) (hd : l.all Sp.dig = true) : a ≤ Sp.num a l := by
  have h := (num_bounds l a h0 hd).1
  have hp : (0 : Int) < 10 ^ l.length := Int.pow_pos (by omega)
  have := Int.mul_le_mul_of_nonneg_left (show (1 : Int) ≤ 10 ^ l.length by omega) h0
  omega
theorem num_lead : ∀ (l : List UInt8), Sp.num 0 (Lib.trimLeftS l [48]) = Sp.num 0 l := by
  intro l
  induction l with
  | nil => rfl
  | cons b l ih =>
    unfold Lib.trimLeftS at ih ⊢
    rw [List.dropWhile_cons]
    split
    · rename_i h
      have hb : b = 48 := by simpa using h
      subst hb
      rw [ih]; rfl
    · rfl
theorem dw_head (p : UInt8 → Bool) : ∀ (l : List UInt8) (b : UInt8) (r : List UInt8), l.dropWhile p = b :: r → p b = false := by
  intro l
  induction l with
  | nil => intro b r h; cases h
  | cons x l ih =>
    intro b r h
    rw [List.dropWhile_cons] at h
    split at h
    · exact ih b r h
    · rename_i hx
      obtain ⟨rfl, rfl⟩ := List.cons.inj h
      exact Bool.eq_false_iff.2 hx
theorem ten_mono {a b : Nat} (h : a ≤ b) : (10 : Int) ^ a ≤ 10 ^ b := by
  have := Nat.pow_le_pow_right (n := 10) (by omega) h
  exact_mod_cast this
theorem lead_iff {l : List UInt8} (hd : l.all Sp.dig = true) : ((Lib.trimLeftS l [48]).length ≤ 15 ↔ Sp.num 0 l < 1000000000000000) := by
  rw [← num_lead]
  have hd' : (Lib.trimLeftS l [48]).all Sp.dig = true := all_dw _ _ l hd
  have e15 : (10 : Int) ^ 15 = 1000000000000000 := by decide
  cases ht : Lib.trimLeftS l [48] with
  | nil => simp [Sp.num]
  | cons b r =>
    rw [ht] at hd'
    have hb48 : b ≠ 48 := by
      intro e
      have := dw_head _ l b r ht
      rw [e] at this; simp at this
    have hd2 := hd'
    rw [List.all_cons, Bool.and_eq_true] at hd2
    have hb := (dig_iff b).1 hd2.1
    have hb1 : 49 ≤ b.toNat := by
      have : b.toNat ≠ 48 := fun e => hb48 (by rw [← UInt8.toNat_inj]; exact e)
      omega
    have hu := (num_bounds (b :: r) 0 (by omega) hd').2
    have hl := (num_bounds r (10 * 0 + ((b.toNat : Int) - 48)) (by omega) hd2.2).1
    rw [← num_cons] at hl
    have hp : (0 : Int) < 10 ^ r.length := Int.pow_pos (by omega)
    have hl2 := Int.mul_le_mul_of_nonneg_right (show (1 : Int) ≤ 10 * 0 + ((b.toNat : Int) - 48) by omega) (Int.le_of_lt hp)
    rw [Int.zero_add, Int.one_mul] at hu
    constructor
    · intro h
      have := ten_mono h
      omega
    · intro h
      refine Nat.le_of_not_lt fun h15 => ?_
      have : (10 : Int) ^ 15 ≤ 10 ^ r.length := by
        refine ten_mono ?_
        rw [List.length_cons] at h15; omega
      omega

theorem digits_loop {s : ByteArray} (hs : (strL s).length < 2000000000) : ∀ (n i : Nat) (acc : Int) (f : Nat), i + n = (strL s).length → 0 ≤ acc → acc < 1000000000000000 → n < f →
    ∃ (e : Ex) (a b : Int) (tp : Al), (ltow Tryd.prog (fiAt fis 41) (kcall []) none f).lp (codeAt (code 41) [1, 0, 1, 0, 0]) (st34_2_0 acc s false 0 (i : Int)) = some (e, ex34_0 a s false 0 b tp) ∧
      ((e = .exit 0 ∧ ((strL s).drop i).all Sp.dig = true ∧ Sp.num acc ((strL s).drop i) < 1000000000000000 ∧ a = Sp.num acc ((strL s).drop i)) ∨ (e = .ret ∧ ¬(((strL s).drop i).all Sp.dig = true ∧ Sp.num acc ((strL s).drop i) < 1000000000000000))) := by
  intro n
  induction n with
  | zero =>
    intro i acc f hi h0 h1 hf
    obtain ⟨f, rfl⟩ : ∃ g, f = g + 1 := ⟨f - 1, by omega⟩
    rw [← ob_id ((ltow ..).lp _ _), lp_round, R34_2_0, ite2_neg (show ltI (i : Int) (Int.ofNat (lenS s)) = false from by rw [ltI_eq]; exact decide_eq_false (by show ¬ (i : Int) < ((strL s).length : Int); omega))]
    rw [List.drop_eq_nil_of_le (by omega)]
    exact ⟨_, _, _, _, rfl, .inl ⟨rfl, rfl, h1, rfl⟩⟩
  | succ n ih =>
    intro i acc f hi h0 h1 hf
    obtain ⟨f, rfl⟩ : ∃ g, f = g + 1 := ⟨f - 1, by omega⟩
    have hi0 : i < (strL s).length := by omega
    rw [← ob_id ((ltow ..).lp _ _), lp_round, R34_2_0, ite2_pos (show ltI (i : Int) (Int.ofNat (lenS s)) = true from by rw [ltI_eq]; exact decide_eq_true (by show (i : Int) < ((strL s).length : Int); omega)), byteS_at s i hi0, ob_of, ob_of, ob_of, dig_lt, List.drop_eq_getElem_cons hi0, List.all_cons, num_cons]
    by_cases hd : Sp.dig (strL s)[i] = true
    · have hb := (dig_iff _).1 hd
      have w1 : wrapA IntKind.u8 (Int.sub (Int.ofNat ((strL s)[i]).toNat) 48) = (((strL s)[i]).toNat : Int) - 48 := wrapA_u8 (show 0 ≤ (((strL s)[i]).toNat : Int) - 48 by omega) (show (((strL s)[i]).toNat : Int) - 48 < 256 by omega)
      have w2 : wrapA IntKind.i64 ((((strL s)[i]).toNat : Int) - 48) = (((strL s)[i]).toNat : Int) - 48 := wrapA_i64 (by omega) (by omega)
      have w3 : wrapA IntKind.i64 (Int.mul 10 acc) = 10 * acc := wrapA_i64 (show _ ≤ 10 * acc by omega) (show 10 * acc < _ by omega)
      have w4 : wrapA IntKind.i64 (Int.add (10 * acc) ((((strL s)[i]).toNat : Int) - 48)) = 10 * acc + ((((strL s)[i]).toNat : Int) - 48) := wrapA_i64 (show _ ≤ 10 * acc + ((((strL s)[i]).toNat : Int) - 48) by omega) (show 10 * acc + ((((strL s)[i]).toNat : Int) - 48) < _ by omega)
      rw [if_pos hd, w1, w2, w3, w4, show wrapA IntKind.i64 (Int.add (i : Int) 1) = ((i + 1 : Nat) : Int) from wrapA_i64 (show _ ≤ (i : Int) + 1 by omega) (show (i : Int) + 1 < _ by omega), hd, Bool.true_and]
      by_cases hb : 1000000000000000 ≤ 10 * acc + ((((strL s)[i]).toNat : Int) - 48)
      · rw [ite2_pos (by rw [geI_dec]; exact decide_eq_true hb)]
        refine ⟨_, _, _, _, rfl, .inr ⟨rfl, fun h => ?_⟩⟩
        have := num_le (a := 10 * acc + ((((strL s)[i]).toNat : Int) - 48)) (by omega) h.1
        omega
      · rw [ite2_neg (by rw [geI_dec]; exact decide_eq_false hb), ob_id]
        exact ih (i + 1) _ f (by omega) (by omega) (by omega) (by omega)
    · rw [if_neg hd, Bool.eq_false_iff.2 hd, Bool.false_and]
      split
      · exact ⟨_, _, _, _, rfl, .inr ⟨rfl, fun h => by cases h.1⟩⟩
      · exact ⟨_, _, _, _, rfl, .inr ⟨rfl, fun h => by cases h.1⟩⟩
theorem ns_some {l : List Value} {p : Int × ByteArray} (h : ns l = some p) : l = [.int .i64 p.1, .string p.2] := by
  unfold ns at h; split at h
  · obtain rfl := Option.some.inj h; rfl
  · cases h
theorem eq_empty (s : ByteArray) : eqS s ⟨⟨[]⟩⟩ = (strL s).isEmpty := eq_nil (strL s)
theorem ne_empty (s : ByteArray) : neS s ⟨⟨[]⟩⟩ = !(strL s).isEmpty := by unfold neS; rw [eq_empty]
theorem dgB_iff {n : Int} {s : ByteArray} : Sp.dgB n s = true ↔ ((strL s).all Sp.dig = true ∧ Sp.num n (strL s) < 1000000000000000) := by unfold Sp.dgB; rw [Bool.and_eq_true, decide_eq_true_eq]
theorem digits_h : Holds Tryd.prog (41, digitsS) := holds_of_K masks (s := []) (fun _ h => by cases h) none Tryd.func41 (by kernel_rfl) (c := code 41) (by kernel_rfl) (rs := res 41) (by kernel_rfl) (by kernel_rfl) fun args v hG => by
  obtain ⟨⟨n, s⟩, h1, h⟩ := ob_some hG
  obtain ⟨hp, rfl⟩ := Prod.mk.inj (Option.some.inj h)
  rw [ns_some h1]
  rw [Bool.and_eq_true] at hp
  have hs : (strL s).length < 2000000000 := of_decide_eq_true hp.2
  have hn : 0 ≤ n ∧ n < 1000000000000000 := of_decide_eq_true hp.1
  refine ⟨rfl, rfl, rfl, (strL s).length + 1, (K34 n s _ _).trans ?_⟩
  obtain ⟨e, a, b, tp, h1, h2⟩ := digits_loop hs (strL s).length 0 n ((strL s).length + 1) (by omega) hn.1 hn.2 (by omega)
  rw [List.drop_zero] at h2
  refine (congrArg (fun q => ob q _) h1).trans ?_
  rcases h2 with ⟨rfl, hz, hl, rfl⟩ | ⟨rfl, hz⟩
  · refine (C34_0_0 _ _ _ _ _ _ _ _).trans ?_
    have hB : Sp.dgB n s = true := dgB_iff.2 ⟨hz, hl⟩
    unfold Sp.dgN Sp.dgO
    rw [hB, if_pos rfl, ne_empty]; rfl
  · refine (C34_0_1 _ _ _ _ _ _ _ _).trans ?_
    have hB : Sp.dgB n s = false := Bool.eq_false_iff.2 fun h => hz (dgB_iff.1 h)
    unfold Sp.dgN Sp.dgO
    rw [hB]; rfl
theorem tw_stop (p : UInt8 → Bool) : ∀ (l : List UInt8) (h : (l.takeWhile p).length < l.length), p (l[(l.takeWhile p).length]) = false := by
  intro l
  induction l with
  | nil => intro h; exact absurd h (by simp)
  | cons x l ih =>
    intro h
    by_cases hx : p x = true
    · have e : (List.takeWhile p (x :: l)) = x :: l.takeWhile p := by rw [List.takeWhile_cons, if_pos hx]
      have h' : (l.takeWhile p).length < l.length := by rw [e] at h; simpa using h
      have := ih h'
      simp only [e, List.length_cons, List.getElem_cons_succ]; exact this
    · have e : (List.takeWhile p (x :: l)) = [] := by rw [List.takeWhile_cons, if_neg hx]
      simp only [e, List.length_nil, List.getElem_cons_zero]
      exact Bool.eq_false_iff.2 hx
theorem tw_in (p : UInt8 → Bool) : ∀ (l : List UInt8) {i : Nat} (_ : i < (l.takeWhile p).length) (h2 : i < l.length), p (l[i]) = true := by
  intro l
  induction l with
  | nil => intro i h h2; exact absurd h2 (by simp)
  | cons x l ih =>
    intro i h h2
    by_cases hx : p x = true
    · cases i with
      | zero => exact hx
      | succ i =>
        rw [List.takeWhile_cons, if_pos hx] at h
        exact ih (by simpa using h) (by simpa using h2)
    · rw [List.takeWhile_cons, if_neg hx] at h
      exact absurd h (by simp)
theorem point_loop {s : ByteArray} {x1 x3 : Bool} {x4 x5 : Int} (hs : (strL s).length < 2000000000) : ∀ (n i f : Nat), i + n = ((strL s).takeWhile fun b => !decide (b = 46)).length → n < f →
    ∃ tp, (ltow Tryd.prog (fiAt fis 29) (kcall s12) none f).lp (codeAt (code 29) [1, 1, 1, 1, 0, 0, 0]) (st12_5_0 s x1 (i : Int) x3 x4 x5) = some (.exit 0, ex12_0 s x1 ((((strL s).takeWhile fun b => !decide (b = 46)).length : Nat) : Int) x3 x4 x5 tp) := by
  have hle : ((strL s).takeWhile fun b => !decide (b = 46)).length ≤ (strL s).length := (List.takeWhile_prefix _).length_le
  intro n
  induction n with
  | zero =>
    intro i f hi hf
    obtain ⟨f, rfl⟩ : ∃ g, f = g + 1 := ⟨f - 1, by omega⟩
    rw [← ob_id ((ltow ..).lp _ _), lp_round, R12_5_0]
    obtain rfl : i = ((strL s).takeWhile fun b => !decide (b = 46)).length := by omega
    by_cases hi0 : ((strL s).takeWhile fun b => !decide (b = 46)).length < (strL s).length
    · rw [ite2_pos (show ltI _ (Int.ofNat (lenS s)) = true from by rw [ltI_eq]; exact decide_eq_true (by show (_ : Int) < ((strL s).length : Int); omega)), byteS_at s _ hi0, ob_of]
      have h46 : (strL s)[((strL s).takeWhile fun b => !decide (b = 46)).length] = 46 := by
        have := tw_stop (fun b => !decide (b = 46)) (strL s) hi0
        simpa using this
      rw [h46, ite2_neg (show neI (Int.ofNat (46 : UInt8).toNat) 46 = false from rfl)]
      exact ⟨_, rfl⟩
    · rw [ite2_neg (show ltI _ (Int.ofNat (lenS s)) = false from by rw [ltI_eq]; exact decide_eq_false (by show ¬ (_ : Int) < ((strL s).length : Int); omega))]
      exact ⟨_, rfl⟩
  | succ n ih =>
    intro i f hi hf
    obtain ⟨f, rfl⟩ : ∃ g, f = g + 1 := ⟨f - 1, by omega⟩
    have hi1 : i < ((strL s).takeWhile fun b => !decide (b = 46)).length := by omega
    have hi0 : i < (strL s).length := by omega
    rw [← ob_id ((ltow ..).lp _ _), lp_round, R12_5_0, ite2_pos (show ltI (i : Int) (Int.ofNat (lenS s)) = true from by rw [ltI_eq]; exact decide_eq_true (by show (i : Int) < ((strL s).length : Int); omega)), byteS_at s i hi0, ob_of]
    have h46 : (strL s)[i] ≠ 46 := by
      have := tw_in (fun b => !decide (b = 46)) (strL s) hi1 hi0
      simpa using this
    have hn : (Int.ofNat ((strL s)[i]).toNat : Int) ≠ 46 := fun e => h46 (by rw [← UInt8.toNat_inj]; exact Int.ofNat.inj e)
    rw [ite2_pos (by rw [neI_dec]; exact decide_eq_true hn), show wrapA IntKind.i64 (Int.add (i : Int) 1) = ((i + 1 : Nat) : Int) from wrapA_i64 (show _ ≤ (i : Int) + 1 by omega) (show (i : Int) + 1 < _ by omega), ob_id]
    exact ih (i + 1) f (by omega) (by omega)
theorem sub_front (p : ByteArray) (n : Nat) : subS p 0 n = strOf ((strL p).take n) := by unfold subS; rw [List.drop_zero]; rfl
theorem trimR_snoc (l : List UInt8) (b : UInt8) : Lib.trimRightS (l ++ [b]) [48] = if b = 48 then Lib.trimRightS l [48] else l ++ [b] := by
  unfold Lib.trimRightS
  rw [List.reverse_append]
  show (List.dropWhile _ (b :: l.reverse)).reverse = _
  rw [List.dropWhile_cons]
  by_cases h : b = 48
  · rw [if_pos (by simp [h]), if_pos h]
  · rw [if_neg (by simp [h]), if_neg h]; simp
theorem strip_loop {s : ByteArray} {x1 x4 : Bool} {x5 : ByteArray} {x3 x6 x7 : Int} : ∀ (n : Nat) (l : List UInt8) (f : Nat), l.length = n → n < 2000000000 → n < f →
    ∃ tp, (ltow Tryd.prog (fiAt fis 29) (kcall s12) none f).lp (codeAt (code 29) [1, 1, 1, 1, 1, 1, 0, 1, 0, 1, 1, 0, 0]) (st12_12_0 s x1 (strOf l) x3 x4 x5 x6 x7) = some (.exit 2, ex12_1 s x1 (strOf (Lib.trimRightS l [48])) x3 x4 x5 x6 x7 tp) := by
  intro n
  induction n with
  | zero =>
    intro l f hl hn hf
    obtain ⟨f, rfl⟩ : ∃ g, f = g + 1 := ⟨f - 1, by omega⟩
    obtain rfl := List.length_eq_zero_iff.1 hl
    rw [← ob_id ((ltow ..).lp _ _), lp_round, R12_12_0, ite2_neg (show Nat.ble 1 (lenS (strOf [])) = false from rfl)]
    exact ⟨_, rfl⟩
  | succ n ih =>
    intro l f hl hn hf
    obtain ⟨f, rfl⟩ : ∃ g, f = g + 1 := ⟨f - 1, by omega⟩
    obtain ⟨r, b, rfl⟩ : ∃ r b, l = r ++ [b] := by
      rcases List.eq_nil_or_concat l with rfl | ⟨r, b, rfl⟩
      · cases hl
      · exact ⟨r, b, by simp⟩
    have hr : r.length = n := by simpa using hl
    have hlen : lenS (strOf (r ++ [b])) = n + 1 := hl
    have w1 : wrapA IntKind.i64 (Int.sub (Int.ofNat (n + 1)) 1) = (n : Int) := (wrapA_i64 (show _ ≤ ((n + 1 : Nat) : Int) - 1 by omega) (show ((n + 1 : Nat) : Int) - 1 < _ by omega)).trans (by show ((n + 1 : Nat) : Int) - 1 = _; omega)
    rw [← ob_id ((ltow ..).lp _ _), lp_round, R12_12_0, hlen, w1, ite2_pos (show Nat.ble 1 (n + 1) = true from rfl)]
    rw [byteS_at (strOf (r ++ [b])) n (by show n < (r ++ [b]).length; simp; omega), ob_of]
    have hg : (strL (strOf (r ++ [b])))[n]'(by show n < (r ++ [b]).length; simp; omega) = b := by
      show (r ++ [b])[n]'_ = b
      rw [List.getElem_append_right (by omega)]; simp [hr]
    rw [hg, trimR_snoc]
    by_cases hb : b = 48
    · subst hb
      rw [ite2_pos (show eqI (Int.ofNat (48 : UInt8).toNat) 48 = true from rfl), if_pos rfl, ob_le (by omega) (by omega), ob_id, Int.toNat_natCast, sub_front]
      have e : (strL (strOf (r ++ [48]))).take n = r := by show (r ++ [48]).take n = r; rw [List.take_append_of_le_length (by omega), ← hr, List.take_length]
      rw [e]
      exact ih r f hr (by omega) (by omega)
    · have hn : (Int.ofNat b.toNat : Int) ≠ 48 := fun e => hb (by rw [← UInt8.toNat_inj]; exact Int.ofNat.inj e)
      rw [ite2_neg (by rw [eqI_dec]; exact decide_eq_false hn), if_neg hb]
      exact ⟨_, rfl⟩

def condP (F Q : List UInt8) : Prop := F ≠ [] ∧ F.all Sp.dig = true ∧ Q.all Sp.dig = true ∧ Q.length ≤ 6 ∧ Sp.num 0 (F ++ Q) < 1000000000000000
instance (F Q : List UInt8) : Decidable (condP F Q) := by unfold condP; infer_instance
theorem fin_is {b : Bool} {Q : List UInt8} {N : Int} (n0 : 0 ≤ N) (n1 : N < 1000000000000000) (hq : Q.length ≤ 6) : finP b (strOf Q) N = some (decRes (Sp.sg b N) (Q.length : Int)) := by
  unfold finP
  have w1 : wrapA IntKind.i64 (Int.sub 0 N) = -N := (wrapA_i64 (show _ ≤ 0 - N by omega) (show 0 - N < _ by omega)).trans (Int.zero_sub _)
  have i12 : Sp.in12 (Int.ofNat (lenS (strOf Q))) = true := in12_iff.2 ⟨by show (0 : Int) ≤ (Q.length : Int); omega, by show (Q.length : Int) ≤ 12; omega⟩
  rw [w1, i12, in62_iff.2 ⟨by omega, by omega⟩, in62_iff.2 ⟨by omega, by omega⟩]
  cases b <;> rfl
theorem tail_ok {b : Bool} {F Q : List UInt8} (hF : F.length < 2000000000) (hQ : Q.length < 2000000000) : tailP b (strOf F) (strOf Q) = some (if condP F Q then decRes (Sp.sg b (Sp.num 0 (F ++ Q))) (Q.length : Int) else failD) := by
  unfold tailP
  rw [show Sp.short3 (strOf F) = true from decide_eq_true hF, show Sp.short3 (strOf Q) = true from decide_eq_true hQ, ite2_true]
  cases hO : Sp.dgO 0 (strOf F) with
  | false =>
    have hc : ¬ condP F Q := by
      rintro ⟨h1, h2, h3, h4, h5⟩
      rw [num_app] at h5
      have hn : (0 : Int) ≤ Sp.num 0 F := num_le (by omega) h2
      have := num_le hn h3
      have hB : Sp.dgB 0 (strOf F) = true := dgB_iff.2 ⟨h2, by show Sp.num 0 F < _; omega⟩
      unfold Sp.dgO at hO
      rw [hB, Bool.true_and] at hO
      have : F.isEmpty = true := by cases hf : F.isEmpty with
        | true => rfl
        | false => rw [show (strL (strOf F)).isEmpty = F.isEmpty from rfl, hf] at hO; cases hO
      exact h1 (List.isEmpty_iff.1 this)
    rw [if_neg hc]; rfl
  | true =>
    have hO' := hO
    unfold Sp.dgO at hO'
    rw [Bool.and_eq_true] at hO'
    obtain ⟨hB, hE⟩ := hO'
    obtain ⟨d1, d2⟩ := dgB_iff.1 hB
    have hne : F ≠ [] := by rintro rfl; cases hE
    have hN : Sp.dgN 0 (strOf F) = Sp.num 0 F := by unfold Sp.dgN; rw [if_pos hB]; rfl
    have n0 : 0 ≤ Sp.num 0 F := num_le (by omega) d1
    have n1 : Sp.num 0 F < 1000000000000000 := d2
    have rest : (Q.length ≤ 6 ∨ Q.all Sp.dig = false) → restP b (strOf F) (strOf Q) = some (if condP F Q then decRes (Sp.sg b (Sp.num 0 (F ++ Q))) (Q.length : Int) else failD) := by
      intro hq
      unfold restP
      rw [ne_empty, hN, hO, show Sp.short3 (strOf Q) = true from decide_eq_true hQ, show Sp.in15 (Sp.num 0 F) = true from decide_eq_true ⟨n0, n1⟩]
      cases hqe : Q.isEmpty with
      | true =>
        have : Q = [] := List.isEmpty_iff.1 hqe
        subst this
        have hc : condP F [] := ⟨hne, d1, rfl, by simp, by rw [List.append_nil]; exact n1⟩
        rw [if_pos hc, List.append_nil]
        exact fin_is n0 n1 (by simp)
      | false =>
        have hqn : Q ≠ [] := fun e => by rw [e] at hqe; cases hqe
        rw [show (strL (strOf Q)).isEmpty = false from hqe]
        cases hO2 : Sp.dgO (Sp.num 0 F) (strOf Q) with
        | true =>
          have hO2' := hO2
          unfold Sp.dgO at hO2'
          rw [Bool.and_eq_true] at hO2'
          obtain ⟨e1, e2⟩ := dgB_iff.1 hO2'.1
          have hq6 : Q.length ≤ 6 := by
            rcases hq with h | h
            · exact h
            · rw [show Q.all Sp.dig = true from e1] at h; cases h
          have hN2 : Sp.dgN (Sp.num 0 F) (strOf Q) = Sp.num (Sp.num 0 F) Q := by unfold Sp.dgN; rw [if_pos hO2'.1]; rfl
          have hc : condP F Q := ⟨hne, d1, e1, hq6, by rw [num_app]; exact e2⟩
          rw [if_pos hc, hN2, num_app]
          exact fin_is (Int.le_trans n0 (num_le n0 e1)) e2 hq6
        | false =>
          have hc : ¬ condP F Q := by
            rintro ⟨h1, h2, h3, h4, h5⟩
            rw [num_app] at h5
            have : Sp.dgO (Sp.num 0 F) (strOf Q) = true := by
              unfold Sp.dgO
              rw [show Sp.dgB (Sp.num 0 F) (strOf Q) = true from dgB_iff.2 ⟨h3, h5⟩, show (strL (strOf Q)).isEmpty = false from hqe]; rfl
            rw [this] at hO2; cases hO2
          rw [if_neg hc]; rfl
    rw [ite2_neg (show ite2 true false true = false from rfl)]
    by_cases h7 : 7 ≤ Q.length
    · rw [ite2_pos (show Nat.ble 7 (lenS (strOf Q)) = true from Nat.ble_eq_true_of_le h7), ite2_true]
      cases ho : Sp.only (strOf Q) with
      | true =>
        have hc : ¬ condP F Q := fun h => by have := h.2.2.2.1; omega
        rw [if_neg hc]; rfl
      | false => exact rest (.inr ho)
    · rw [ite2_neg (show Nat.ble 7 (lenS (strOf Q)) = false from ble_no (by show Q.length < 7; omega))]
      exact rest (.inl (by omega))
theorem parse_is (s : ByteArray) : (Value.tuple ⟨[decV (Sp.pM s) (Sp.pS s), .bool (Sp.pB s)]⟩) = if Sp.pOk s = true then decRes (Sp.pN s) ((Sp.part s).length : Int) else failD := by
  unfold Sp.pM Sp.pS Sp.pB
  cases h : Sp.pOk s with
  | true => simp only [if_true]; rfl
  | false => simp only [Bool.false_eq_true, if_false]; rfl
theorem dw_all_dig (l : List UInt8) : (l.dropWhile fun x => ([48] : List UInt8).contains x).all Sp.dig = l.all Sp.dig := by
  induction l with
  | nil => rfl
  | cons x l ih =>
    rw [List.dropWhile_cons]
    split
    · rename_i h
      have : x = 48 := by simpa using h
      subst this
      rw [ih]; rfl
    · rfl
theorem trimR_all (l : List UInt8) : (Lib.trimRightS l [48]).all Sp.dig = l.all Sp.dig := by
  unfold Lib.trimRightS
  rw [List.all_reverse, dw_all_dig, List.all_reverse]
theorem any_tw (l : List UInt8) : l.any (fun b => decide (b = 46)) = decide ((l.takeWhile fun b => !decide (b = 46)).length < l.length) := by
  induction l with
  | nil => rfl
  | cons x l ih =>
    rw [List.any_cons, List.takeWhile_cons]
    by_cases hx : x = 46
    · simp [hx]
    · rw [decide_eq_false hx, Bool.false_or, ih]; simp
theorem pOk_iff (s : ByteArray) : Sp.pOk s = true ↔ (condP (strL (Sp.front (Sp.body s))) (Sp.part s) ∧ ¬(Sp.has (Sp.body s) = true ∧ strL (Sp.behind (Sp.body s)) = [])) := by
  unfold Sp.pOk Sp.lead Sp.part condP
  obtain ⟨F, hF⟩ : ∃ F, strL (Sp.front (Sp.body s)) = F := ⟨_, rfl⟩
  obtain ⟨B, hB⟩ : ∃ B, strL (Sp.behind (Sp.body s)) = B := ⟨_, rfl⟩
  rw [hF, hB]
  simp only [Bool.and_eq_true, Bool.not_eq_true', List.all_append, decide_eq_true_eq]
  have hl : F.all Sp.dig = true → B.all Sp.dig = true → ((Lib.trimLeftS (F ++ Lib.trimRightS B [48]) [48]).length ≤ 15 ↔ Sp.num 0 (F ++ Lib.trimRightS B [48]) < 1000000000000000) := fun h1 h2 => lead_iff (by rw [List.all_append, h1, trimR_all, h2]; rfl)
  constructor
  · rintro ⟨⟨⟨h1, h2⟩, h3, h4⟩, h5, h6⟩
    refine ⟨⟨fun e => ?_, h3, by rw [trimR_all]; exact h4, h6, (hl h3 h4).1 h5⟩, fun ⟨g1, g2⟩ => ?_⟩
    · rw [e] at h1; cases h1
    · rw [g1, g2] at h2; cases h2
  · rintro ⟨⟨h1, h2, h3, h4, h5⟩, h6⟩
    rw [trimR_all] at h3
    refine ⟨⟨⟨?_, ?_⟩, h2, h3⟩, (hl h2 h3).2 h5, h4⟩
    · cases F with
      | nil => exact absurd rfl h1
      | cons => rfl
    · cases hh : Sp.has (Sp.body s) with
      | false => rfl
      | true =>
        cases B with
        | nil => exact absurd ⟨hh, rfl⟩ h6
        | cons => rfl
theorem core_ok (s : ByteArray) (hs : (strL (Sp.body s)).length < 2000000000) {f : Nat} (hf : (strL (Sp.body s)).length < f) :
    ob ((ltow Tryd.prog (fiAt fis 29) (kcall s12) none f).lp (codeAt (code 29) [1, 1, 1, 1, 0, 0, 0]) (st12_5_0 (Sp.body s) false 0 (Sp.neg s) 0 0)) (fun r => (contAt Tryd.prog (fiAt fis 29) (kcallK s12) (kcall s12) (ltow Tryd.prog (fiAt fis 29) (kcall s12) none f).lp (ltow Tryd.prog (fiAt fis 29) (kcall s12) none f).gs (code 29) [1, 1, 1, 1, 0, 0] (retK Tryd.prog (fiAt fis 29) (res 29))) r.1 r.2)
      = some (.tuple ⟨[decV (Sp.pM s) (Sp.pS s), .bool (Sp.pB s)]⟩) := by
  obtain ⟨bd, hbd⟩ : ∃ bd, Sp.body s = bd := ⟨_, rfl⟩
  have hOk := pOk_iff s
  have hPart : Sp.part s = Lib.trimRightS (strL (Sp.behind bd)) [48] := by unfold Sp.part; rw [hbd]
  have hPN : Sp.pN s = Sp.sg (Sp.neg s) (Sp.num 0 (strL (Sp.front bd) ++ Sp.part s)) := by unfold Sp.pN Sp.lead; rw [num_lead, hbd]
  rw [hbd] at hs hf hOk ⊢
  have hle : ((strL bd).takeWhile fun b => !decide (b = 46)).length ≤ (strL bd).length := (List.takeWhile_prefix _).length_le
  obtain ⟨tp, hl⟩ := point_loop (s := bd) (x1 := false) (x3 := Sp.neg s) (x4 := 0) (x5 := 0) hs ((strL bd).takeWhile fun b => !decide (b = 46)).length 0 f (by omega) (by omega)
  refine (congrArg (fun q => ob q _) hl).trans ?_
  refine (C12_0 _ _ _ _ _ _ _ _ _).trans ?_
  have hfr : subS bd 0 ((strL bd).takeWhile fun b => !decide (b = 46)).length = Sp.front bd := by
    rw [sub_front]; unfold Sp.front; congr 1
    exact (List.prefix_iff_eq_take.1 (List.takeWhile_prefix _)).symm
  rw [ob_le (by omega) (show _ ≤ ((lenS bd : Nat) : Int) from by show (_ : Int) ≤ ((strL bd).length : Int); omega), Int.toNat_natCast, hfr, parse_is]
  have hfl : (strL (Sp.front bd)).length < 2000000000 := by
    show ((strL bd).takeWhile fun b => !decide (b = 46)).length < _
    omega
  have hany : Sp.has bd = decide (((strL bd).takeWhile fun b => !decide (b = 46)).length < (strL bd).length) := any_tw (strL bd)
  have hbe : strL (Sp.behind bd) = (strL bd).drop (((strL bd).takeWhile fun b => !decide (b = 46)).length + 1) := rfl
  by_cases hk : ((strL bd).takeWhile fun b => !decide (b = 46)).length < (strL bd).length
  · rw [decide_eq_true hk] at hany
    rw [ite2_pos (show ltI _ (Int.ofNat (lenS bd)) = true from by rw [ltI_eq]; exact decide_eq_true (by show (_ : Int) < ((strL bd).length : Int); omega)),
      show wrapA IntKind.i64 (Int.add ((((strL bd).takeWhile fun b => !decide (b = 46)).length : Nat) : Int) 1) = ((((strL bd).takeWhile fun b => !decide (b = 46)).length + 1 : Nat) : Int) from wrapA_i64 (show _ ≤ ((((strL bd).takeWhile fun b => !decide (b = 46)).length : Nat) : Int) + 1 by omega) (show ((((strL bd).takeWhile fun b => !decide (b = 46)).length : Nat) : Int) + 1 < _ by omega),
      ob_le (by omega) (show _ ≤ ((lenS bd : Nat) : Int) from by show (_ : Int) ≤ ((strL bd).length : Int); omega), Int.toNat_natCast]
    have hbe2 : subS bd (((strL bd).takeWhile fun b => !decide (b = 46)).length + 1) (lenS bd) = Sp.behind bd := by
      unfold subS Sp.behind
      congr 1
      refine List.take_of_length_le ?_
      rw [List.length_drop]; exact Nat.le_refl _
    rw [hbe2, eq_empty]
    cases hb : (strL (Sp.behind bd)).isEmpty with
    | true =>
      have hno : ¬ Sp.pOk s = true := fun h => (hOk.1 h).2 ⟨hany, List.isEmpty_iff.1 hb⟩
      rw [if_neg hno]; rfl
    | false =>
      have hbl : (strL (Sp.behind bd)).length < 2000000000 := by rw [hbe, List.length_drop]; omega
      obtain ⟨tp2, hl2⟩ := strip_loop (s := bd) (x1 := false) (x4 := Sp.neg s) (x5 := Sp.front bd) (x3 := ((((strL bd).takeWhile fun b => !decide (b = 46)).length : Nat) : Int)) (x6 := 0) (x7 := 0) (strL (Sp.behind bd)).length (strL (Sp.behind bd)) f rfl hbl (by rw [hbe, List.length_drop]; omega)
      rw [ite2_false]
      refine (congrArg (fun q => ob q _) hl2).trans ?_
      refine (C12_1 _ _ _ _ _ _ _ _ _ _ _).trans ?_
      have hpl : (Lib.trimRightS (strL (Sp.behind bd)) [48]).length ≤ (strL (Sp.behind bd)).length := by
        unfold Lib.trimRightS
        rw [List.length_reverse]
        refine Nat.le_trans (List.dropWhile_suffix _).length_le ?_
        rw [List.length_reverse]; exact Nat.le_refl _
      refine (tail_ok (F := strL (Sp.front bd)) (Q := Lib.trimRightS (strL (Sp.behind bd)) [48]) hfl (by omega)).trans ?_
      rw [← hPart, hPN]
      have hiff : condP (strL (Sp.front bd)) (Sp.part s) ↔ Sp.pOk s = true := ⟨fun h => hOk.2 ⟨h, fun g => by rw [g.2] at hb; cases hb⟩, fun h => (hOk.1 h).1⟩
      by_cases hc : condP (strL (Sp.front bd)) (Sp.part s)
      · rw [if_pos hc, if_pos (hiff.1 hc)]
      · rw [if_neg hc, if_neg fun h => hc (hiff.2 h)]
  · rw [decide_eq_false hk] at hany
    rw [ite2_neg (show ltI _ (Int.ofNat (lenS bd)) = false from by rw [ltI_eq]; exact decide_eq_false (by show ¬ (_ : Int) < ((strL bd).length : Int); omega))]
    have hb0 : strL (Sp.behind bd) = [] := by rw [hbe]; exact List.drop_eq_nil_of_le (by omega)
    have hp0 : Sp.part s = [] := by rw [hPart, hb0]; rfl
    refine (tail_ok (F := strL (Sp.front bd)) (Q := []) hfl (by simp)).trans ?_
    rw [hPN, hp0]
    rw [hp0] at hOk
    have hiff : condP (strL (Sp.front bd)) [] ↔ Sp.pOk s = true := ⟨fun h => hOk.2 ⟨h, fun g => by rw [hany] at g; cases g.1⟩, fun h => (hOk.1 h).1⟩
    by_cases hc : condP (strL (Sp.front bd)) []
    · rw [if_pos hc, if_pos (hiff.1 hc)]
    · rw [if_neg hc, if_neg fun h => hc (hiff.2 h)]
theorem hasP_cons (b c : UInt8) (r : List UInt8) : Sp.hasP (strOf (b :: r)) ⟨⟨[c]⟩⟩ = decide (b = c) := by
  show (c == b && ([] : List UInt8).isPrefixOf r) = _
  rw [show ([] : List UInt8).isPrefixOf r = true from by cases r <;> rfl, Bool.and_true, Bool.eq_iff_iff, beq_iff_eq, decide_eq_true_eq]
  exact eq_comm
theorem cutP_cons (b c : UInt8) (r : List UInt8) : Sp.cutP (strOf (b :: r)) ⟨⟨[c]⟩⟩ = if b = c then strOf r else strOf (b :: r) := by
  have h : Lib.hasPrefix (b :: r) [c] = decide (b = c) := hasP_cons b c r
  show strOf (if Lib.hasPrefix (b :: r) [c] = true then (b :: r).drop 1 else b :: r) = _
  rw [h]
  by_cases e : b = c
  · rw [if_pos (by simpa using e), if_pos e]; rfl
  · rw [if_neg (by simpa using e), if_neg e]
theorem rparse_h : Holds Tryd.prog (29, parseS) := holds_of_K masks (s := s12) (fun x h => by
    simp only [List.mem_cons, List.not_mem_nil, or_false] at h
    rcases h with rfl | rfl | rfl
    · exact digits_h
    · exact only_h
    · exact norm_h) none Tryd.func29 (by kernel_rfl) (c := code 29) (by kernel_rfl) (rs := res 29) (by kernel_rfl) (by kernel_rfl) fun args v hG => by
  obtain ⟨s, h1, h⟩ := ob_some hG
  obtain ⟨hp, rfl⟩ := Prod.mk.inj (Option.some.inj h)
  rw [s1_some h1]
  have hs : (strL s).length < 2000000000 := of_decide_eq_true hp
  have hbl := body_len s
  refine ⟨rfl, rfl, rfl, (strL s).length + 1, (K12 s _ _).trans ?_⟩
  have core := core_ok s (by omega) (f := (strL s).length + 1) (by omega)
  rw [show masks.l = fis from rfl]
  obtain ⟨l, hl⟩ : ∃ l, strL s = l := ⟨_, rfl⟩
  have hsl : s = strOf l := by rw [← hl]; rfl
  subst hsl
  cases l with
  | nil =>
    have e1 : Sp.neg (strOf []) = false := by decide
    have e2 : Sp.body (strOf []) = strOf [] := by unfold Sp.body; rw [e1, if_neg (by simp)]; rfl
    rw [e1, e2] at core
    rw [ite2_neg (show Nat.ble 1 (lenS (strOf [])) = false from rfl)]
    exact core
  | cons b r =>
    rw [ite2_pos (show Nat.ble 1 (lenS (strOf (b :: r))) = true from rfl)]
    have hb0 : byteS (strOf (b :: r)) 0 = some (Int.ofNat b.toNat) := rfl
    have hsub : subS (strOf (b :: r)) 1 (lenS (strOf (b :: r))) = strOf r := by
      show strOf (r.take ((r.length + 1) - 1)) = _
      rw [Nat.add_sub_cancel, List.take_length]
    have hble : Nat.ble 1 (lenS (strOf (b :: r))) = true := rfl
    by_cases h43 : b = 43
    · have e1 : Sp.neg (strOf (b :: r)) = false := by unfold Sp.neg; rw [hasP_cons, h43]; rfl
      have e2 : Sp.body (strOf (b :: r)) = strOf r := by unfold Sp.body; rw [e1, if_neg (by simp), cutP_cons, if_pos h43]
      rw [e1, e2] at core
      rw [hb0, ob_of, ite2_pos (show eqI (Int.ofNat b.toNat) 43 = true from by rw [h43]; rfl), ob_of, hble, ite2_true, ob_of, hsub, show eqI (Int.ofNat b.toNat) 45 = false from by rw [h43]; rfl]
      exact core
    · have n43 : eqI (Int.ofNat b.toNat) 43 = false := by
        rw [eqI_dec]; exact decide_eq_false fun e => h43 (by rw [← UInt8.toNat_inj]; exact Int.ofNat.inj e)
      by_cases h45 : b = 45
      · have e1 : Sp.neg (strOf (b :: r)) = true := by unfold Sp.neg; rw [hasP_cons, h45]; rfl
        have e2 : Sp.body (strOf (b :: r)) = strOf r := by unfold Sp.body; rw [e1, if_pos rfl, cutP_cons, if_pos h45]
        rw [e1, e2] at core
        have t45 : eqI (Int.ofNat b.toNat) 45 = true := by rw [h45]; rfl
        rw [hb0, ob_of, n43, ite2_false, ob_of, t45, ite2_true, ob_of, hble, ite2_true, ob_of, hsub, t45]
        exact core
      · have n45 : eqI (Int.ofNat b.toNat) 45 = false := by
          rw [eqI_dec]; exact decide_eq_false fun e => h45 (by rw [← UInt8.toNat_inj]; exact Int.ofNat.inj e)
        have e1 : Sp.neg (strOf (b :: r)) = false := by unfold Sp.neg; rw [hasP_cons]; exact decide_eq_false h45
        have e2 : Sp.body (strOf (b :: r)) = strOf (b :: r) := by unfold Sp.body; rw [e1, if_neg (by simp), cutP_cons, if_neg h43]
        rw [e1, e2] at core
        rw [hb0, ob_of, n43, ite2_false, ob_of, n45, ite2_false]
        exact core


end
end Go.Proofs.YtnoppcnfdnkhbaaDoor
