/- Contracts: terms as numbers, as truths; equal, less. -/
import Derived.Test.YtnoppcnfdnkhbaaDoorVaE
namespace Go.Proofs.YtnoppcnfdnkhbaaDoor
open Go.RowKit Go.Am
set_option maxRecDepth 1000000
set_option linter.unusedSimpArgs false
set_option linter.unusedVariables false
noncomputable section
/-! ### terms and values -/
def t1 (l : List Value) : Option (Int × ByteArray × ByteArray × ByteArray) := match l with | [.agg ⟨[.int .i64 k, .string s, .string g, .string t]⟩] => some (k, s, g, t) | _ => none
def t2 (l : List Value) : Option ((Int × ByteArray × ByteArray × ByteArray) × (Int × ByteArray × ByteArray × ByteArray)) :=
  match l with | [.agg ⟨[.int .i64 k, .string s, .string g, .string t]⟩, .agg ⟨[.int .i64 k', .string s', .string g', .string t']⟩] => some ((k, s, g, t), (k', s', g', t')) | _ => none
def tmV (k : Int) (s g t : ByteArray) : Value := .agg ⟨[.int .i64 k, .string s, .string g, .string t]⟩
namespace Sp
def xInt : ByteArray := ⟨⟨[104, 116, 116, 112, 58, 47, 47, 119, 119, 119, 46, 119, 51, 46, 111, 114, 103, 47, 50, 48, 48, 49, 47, 88, 77, 76, 83, 99, 104, 101, 109, 97, 35, 105, 110, 116, 101, 103, 101, 114]⟩⟩
def xDec : ByteArray := ⟨⟨[104, 116, 116, 112, 58, 47, 47, 119, 119, 119, 46, 119, 51, 46, 111, 114, 103, 47, 50, 48, 48, 49, 47, 88, 77, 76, 83, 99, 104, 101, 109, 97, 35, 100, 101, 99, 105, 109, 97, 108]⟩⟩
def xBool : ByteArray := ⟨⟨[104, 116, 116, 112, 58, 47, 47, 119, 119, 119, 46, 119, 51, 46, 111, 114, 103, 47, 50, 48, 48, 49, 47, 88, 77, 76, 83, 99, 104, 101, 109, 97, 35, 98, 111, 111, 108, 101, 97, 110]⟩⟩
def yes : ByteArray := ⟨⟨[116, 114, 117, 101]⟩⟩
def no : ByteArray := ⟨⟨[102, 97, 108, 115, 101]⟩⟩
def nil : ByteArray := ⟨⟨[]⟩⟩
/-- is a term of a number's type, a whole one without a point? -/
def isNum (k : Int) (s t : ByteArray) : Bool := eqI k 3 && ((eqS t xInt || eqS t xDec) && !(eqS t xInt && has s))
def isBool (k : Int) (s t : ByteArray) : Bool := eqI k 3 && (eqS t xBool && (eqS s yes || eqS s no))
def plain (k : Int) (g t : ByteArray) : Bool := eqI k 3 && (eqS g nil && eqS t nil)
def nM (b : Bool) (s : ByteArray) : Int := ite2 b (pM s) 0
def nS (b : Bool) (s : ByteArray) : Int := ite2 b (pS s) 0
def nB (b : Bool) (s : ByteArray) : Bool := b && pB s
/-- as the program asks (c), or the reference: the one looks at the language too. -/
def gate (c : Bool) (g : ByteArray) : Bool := !c || eqS g nil
def isN (c : Bool) (k : Int) (s g t : ByteArray) : Bool := gate c g && isNum k s t
def isB (c : Bool) (k : Int) (s g t : ByteArray) : Bool := gate c g && isBool k s t
def numB (c : Bool) (k : Int) (s g t : ByteArray) : Bool := nB (isN c k s g t) s
def numM (c : Bool) (k : Int) (s g t : ByteArray) : Int := nM (isN c k s g t) s
def numP (c : Bool) (k : Int) (s g t : ByteArray) : Int := nS (isN c k s g t) s
def tV (c : Bool) (k : Int) (s g t : ByteArray) : Bool := isB c k s g t && eqS s yes
def trV (c : Bool) (k : Int) (s g t : ByteArray) : Bool := ite2 (isB c k s g t) (eqS s yes) (ite2 (numB c k s g t) (neI (numM c k s g t) 0) (plain k g t && neS s nil))
def trO (c : Bool) (k : Int) (s g t : ByteArray) : Bool := isB c k s g t || (numB c k s g t || plain k g t)
abbrev T := Int × ByteArray × ByteArray × ByteArray
def bothN (c : Bool) (a b : T) : Bool := numB c a.1 a.2.1 a.2.2.1 a.2.2.2 && numB c b.1 b.2.1 b.2.2.1 b.2.2.2
def bothB (c : Bool) (a b : T) : Bool := isB c a.1 a.2.1 a.2.2.1 a.2.2.2 && isB c b.1 b.2.1 b.2.2.1 b.2.2.2
def bothP (a b : T) : Bool := plain a.1 a.2.2.1 a.2.2.2 && plain b.1 b.2.2.1 b.2.2.2
def cmpT (c : Bool) (a b : T) : Int := cmp (val (numM c a.1 a.2.1 a.2.2.1 a.2.2.2) (numP c a.1 a.2.1 a.2.2.1 a.2.2.2)) (val (numM c b.1 b.2.1 b.2.2.1 b.2.2.2) (numP c b.1 b.2.1 b.2.2.1 b.2.2.2))
def same (a b : T) : Bool := eqI a.1 b.1 && (eqS a.2.1 b.2.1 && (eqS a.2.2.1 b.2.2.1 && eqS a.2.2.2 b.2.2.2))
def kn (c : Bool) (a b : T) : Bool := neI a.1 3 || (neI b.1 3 || (bothP a b || ((neS a.2.2.1 nil && neS b.2.2.1 nil) || bothB c a b)))
def eqV' (c : Bool) (a b : T) : Bool := ite2 (bothN c a b) (eqI (cmpT c a b) 0) (same a b)
def eqO (c : Bool) (a b : T) : Bool := bothN c a b || (kn c a b || same a b)
def leV (c : Bool) (a b : T) : Bool := ite2 (bothN c a b) (ltI (cmpT c a b) 0) (ite2 (bothP a b) (ltS a.2.1 b.2.1) (bothB c a b && (!(tV c a.1 a.2.1 a.2.2.1 a.2.2.2) && tV c b.1 b.2.1 b.2.2.1 b.2.2.2)))
def leO (c : Bool) (a b : T) : Bool := bothN c a b || (bothP a b || bothB c a b)
end Sp
def bb (x y : Bool) : Value := .tuple ⟨[.bool x, .bool y]⟩
def contS : List Value → Option (Bool × Value) := fun l => ob (s2 l) fun p => some (Sp.dot p.2, .bool (Sp.has p.1))
def plainS : List Value → Option (Bool × Value) := fun l => ob (t1 l) fun q => some (true, .bool (Sp.plain q.1 q.2.2.1 q.2.2.2))
def truS (c : Bool) : List Value → Option (Bool × Value) := fun l => ob (t1 l) fun q => some (true, .tuple ⟨[.bool (Sp.tV c q.1 q.2.1 q.2.2.1 q.2.2.2), .bool (Sp.isB c q.1 q.2.1 q.2.2.1 q.2.2.2)]⟩)
def numS (c : Bool) : List Value → Option (Bool × Value) := fun l => ob (t1 l) fun q => some (Sp.short2 q.2.1, .tuple ⟨[decV (Sp.numM c q.1 q.2.1 q.2.2.1 q.2.2.2) (Sp.numP c q.1 q.2.1 q.2.2.1 q.2.2.2), .bool (Sp.numB c q.1 q.2.1 q.2.2.1 q.2.2.2)]⟩)
def truthS (c : Bool) : List Value → Option (Bool × Value) := fun l => ob (t1 l) fun q => some (Sp.short2 q.2.1, .tuple ⟨[.bool (Sp.trV c q.1 q.2.1 q.2.2.1 q.2.2.2), .bool (Sp.trO c q.1 q.2.1 q.2.2.1 q.2.2.2)]⟩)
def knownTS : List Value → Option (Bool × Value) := fun l => ob (t2 l) fun q => some (true, .bool (Sp.kn false q.1 q.2))
def equalS (c : Bool) : List Value → Option (Bool × Value) := fun l => ob (t2 l) fun q => some (Sp.short2 q.1.2.1 && Sp.short2 q.2.2.1, .tuple ⟨[.bool (Sp.eqV' c q.1 q.2), .bool (Sp.eqO c q.1 q.2)]⟩)
def lessS (c : Bool) : List Value → Option (Bool × Value) := fun l => ob (t2 l) fun q => some (Sp.short2 q.1.2.1 && Sp.short2 q.2.2.1, .tuple ⟨[.bool (Sp.leV c q.1 q.2), .bool (Sp.leO c q.1 q.2)]⟩)
theorem VK33 (s p : ByteArray) (lp : Code → Run) (gs : Code → Nat → Run) : bodyK Tryd.prog (fiAt fis 33) [(46, ixS)] lp gs (code 33) (res 33) [.string s, .string p] = (ite2 (Sp.dot p) (some (Value.int IntKind.i64 (Sp.ixb s (46 : Int)))) (none)) := by kernel_rfl
theorem VK27 (s p : ByteArray) (lp : Code → Run) (gs : Code → Nat → Run) : bodyK Tryd.prog (fiAt fis 27) [(33, ixS)] lp gs (code 27) (res 27) [.string s, .string p] = (ite2 (Sp.dot p) (some (Value.bool (geI (Sp.ixb s (46 : Int)) (0 : Int)))) (none)) := by kernel_rfl
theorem VK20 (k : Int) (s g t : ByteArray) (lp : Code → Run) (gs : Code → Nat → Run) : bodyK Tryd.prog (fiAt fis 20) [] lp gs (code 20) (res 20) [.agg ⟨[.int .i64 k, .string s, .string g, .string t]⟩] = (ite2 (eqI k (3 : Int)) (ite2 (eqS g Sp.nil) (some (Value.bool (eqS t Sp.nil))) (some (Value.bool false))) (some (Value.bool false))) := by kernel_rfl
theorem VK23 (k : Int) (s g t : ByteArray) (lp : Code → Run) (gs : Code → Nat → Run) : bodyK Tryd.prog (fiAt fis 23) [] lp gs (code 23) (res 23) [.agg ⟨[.int .i64 k, .string s, .string g, .string t]⟩] = (ite2 (eqI k (3 : Int)) (ite2 (eqS g Sp.nil) (some (Value.bool (eqS t Sp.nil))) (some (Value.bool false))) (some (Value.bool false))) := by kernel_rfl
theorem VK18 (k : Int) (s g t : ByteArray) (lp : Code → Run) (gs : Code → Nat → Run) : bodyK Tryd.prog (fiAt fis 18) [] lp gs (code 18) (res 18) [.agg ⟨[.int .i64 k, .string s, .string g, .string t]⟩] = (ite2 (eqI k (3 : Int)) (ite2 (eqS g Sp.nil) (ite2 (eqS t Sp.xBool) (ite2 (eqS s Sp.yes) (some (Value.tuple (Array.mk [(Value.bool (eqS s Sp.yes)), (Value.bool true)]))) (ite2 (eqS s Sp.no) (some (Value.tuple (Array.mk [(Value.bool (eqS s Sp.yes)), (Value.bool (eqS s Sp.no))]))) (some (Value.tuple (Array.mk [(Value.bool false), (Value.bool (eqS s Sp.no))]))))) (some (Value.tuple (Array.mk [(Value.bool false), (Value.bool false)])))) (some (Value.tuple (Array.mk [(Value.bool false), (Value.bool false)])))) (some (Value.tuple (Array.mk [(Value.bool false), (Value.bool false)])))) := by kernel_rfl
theorem VK21 (k : Int) (s g t : ByteArray) (lp : Code → Run) (gs : Code → Nat → Run) : bodyK Tryd.prog (fiAt fis 21) [] lp gs (code 21) (res 21) [.agg ⟨[.int .i64 k, .string s, .string g, .string t]⟩] = (ite2 (neI k (3 : Int)) (some (Value.tuple (Array.mk [(Value.bool false), (Value.bool false)]))) (ite2 (neS t Sp.xBool) (some (Value.tuple (Array.mk [(Value.bool false), (Value.bool false)]))) (ite2 (neS s Sp.yes) (ite2 (neS s Sp.no) (some (Value.tuple (Array.mk [(Value.bool false), (Value.bool false)]))) (some (Value.tuple (Array.mk [(Value.bool (eqS s Sp.yes)), (Value.bool true)])))) (some (Value.tuple (Array.mk [(Value.bool (eqS s Sp.yes)), (Value.bool true)])))))) := by kernel_rfl
theorem VK19 (k : Int) (s g t : ByteArray) (lp : Code → Run) (gs : Code → Nat → Run) : bodyK Tryd.prog (fiAt fis 19) [(27, contS), (28, parseS)] lp gs (code 19) (res 19) [.agg ⟨[.int .i64 k, .string s, .string g, .string t]⟩] = (ite2 (neI k (3 : Int)) (some (Value.tuple (Array.mk [(Value.agg (Array.mk [(Value.int IntKind.i64 (0 : Int)), (Value.int IntKind.i64 (0 : Int))])), (Value.bool false)]))) (ite2 (neS g Sp.nil) (some (Value.tuple (Array.mk [(Value.agg (Array.mk [(Value.int IntKind.i64 (0 : Int)), (Value.int IntKind.i64 (0 : Int))])), (Value.bool false)]))) (ite2 (ite2 (eqS t Sp.xInt) false true) (ite2 (neS t Sp.xDec) (some (Value.tuple (Array.mk [(Value.agg (Array.mk [(Value.int IntKind.i64 (0 : Int)), (Value.int IntKind.i64 (0 : Int))])), (Value.bool false)]))) (ite2 (eqS t Sp.xInt) (ite2 (Sp.has s) (some (Value.tuple (Array.mk [(Value.agg (Array.mk [(Value.int IntKind.i64 (0 : Int)), (Value.int IntKind.i64 (0 : Int))])), (Value.bool false)]))) (ite2 (Sp.short2 s) (some (Value.tuple (Array.mk [(Value.agg (Array.mk [(Value.int IntKind.i64 (Sp.pM s)), (Value.int IntKind.i64 (Sp.pS s))])), (Value.bool (Sp.pB s))]))) (none))) (ite2 (Sp.short2 s) (some (Value.tuple (Array.mk [(Value.agg (Array.mk [(Value.int IntKind.i64 (Sp.pM s)), (Value.int IntKind.i64 (Sp.pS s))])), (Value.bool (Sp.pB s))]))) (none)))) (ite2 (eqS t Sp.xInt) (ite2 (Sp.has s) (some (Value.tuple (Array.mk [(Value.agg (Array.mk [(Value.int IntKind.i64 (0 : Int)), (Value.int IntKind.i64 (0 : Int))])), (Value.bool false)]))) (ite2 (Sp.short2 s) (some (Value.tuple (Array.mk [(Value.agg (Array.mk [(Value.int IntKind.i64 (Sp.pM s)), (Value.int IntKind.i64 (Sp.pS s))])), (Value.bool (Sp.pB s))]))) (none))) (ite2 (Sp.short2 s) (some (Value.tuple (Array.mk [(Value.agg (Array.mk [(Value.int IntKind.i64 (Sp.pM s)), (Value.int IntKind.i64 (Sp.pS s))])), (Value.bool (Sp.pB s))]))) (none)))))) := by kernel_rfl
def vst22_4_0 (x0 : Int) (x1 : ByteArray) (x2 : ByteArray) (x3 : ByteArray) (x4 : Bool) (x5 : Int) (x6 : Int) (x7 : Int) (x8 : Int) (x9 : ByteArray) (x10 : ByteArray) (x11 : ByteArray) : St := (St.mk (Tr.nd (some (Value.agg (Array.mk [(Value.int IntKind.i64 x0), (Value.string x1), (Value.string x2), (Value.string x3)]))) (Tr.nd (some (Value.pointer (some (Addr.mk 6 0 none)))) (Tr.nd (some (Value.bool x4)) Tr.e Tr.e) Tr.e) (Tr.nd (some (Value.pointer (some (Addr.mk 7 0 none)))) (Tr.nd (some (Value.int IntKind.i64 x5)) Tr.e Tr.e) Tr.e)) [] (Mem.mk (Tr.nd none (Tr.nd none (Tr.nd none (Tr.nd (some (Blk.cells 2 (Tr.nd (some (Value.int IntKind.i64 x6)) (Tr.nd (some (Value.int IntKind.i64 x7)) Tr.e Tr.e) Tr.e) 0 Bool.true none)) Tr.e Tr.e) Tr.e) Tr.e) (Tr.nd none Tr.e (Tr.nd (some (Blk.cells 4 (Tr.nd (some (Value.int IntKind.i64 x8)) (Tr.nd (some (Value.string x9)) (Tr.nd (some (Value.string x10)) Tr.e Tr.e) Tr.e) (Tr.nd (some (Value.string x11)) Tr.e Tr.e)) 0 Bool.true none)) Tr.e Tr.e))) 8))
def vex22_0 (x0 : Int) (x1 : ByteArray) (x2 : ByteArray) (x3 : ByteArray) (x4 : Bool) (x5 : Int) (x7 : Int) (x8 : Int) (x9 : Int) (x10 : ByteArray) (x11 : ByteArray) (x12 : ByteArray) (tp : Go.Am.Al) : St := (St.mk (Tr.nd (some (Value.agg (Array.mk [(Value.int IntKind.i64 x0), (Value.string x1), (Value.string x2), (Value.string x3)]))) (Tr.nd (some (Value.pointer (some (Addr.mk 6 0 none)))) (Tr.nd (some (Value.bool x4)) Tr.e Tr.e) Tr.e) (Tr.nd (some (Value.pointer (some (Addr.mk 7 0 none)))) (Tr.nd (some (Value.int IntKind.i64 x5)) Tr.e Tr.e) Tr.e)) tp (Mem.mk (Tr.nd none (Tr.nd none (Tr.nd none (Tr.nd (some (Blk.cells 2 (Tr.nd (some (Value.int IntKind.i64 x7)) (Tr.nd (some (Value.int IntKind.i64 x8)) Tr.e Tr.e) Tr.e) 0 Bool.true none)) Tr.e Tr.e) Tr.e) Tr.e) (Tr.nd none Tr.e (Tr.nd (some (Blk.cells 4 (Tr.nd (some (Value.int IntKind.i64 x9)) (Tr.nd (some (Value.string x10)) (Tr.nd (some (Value.string x11)) Tr.e Tr.e) Tr.e) (Tr.nd (some (Value.string x12)) Tr.e Tr.e)) 0 Bool.true none)) Tr.e Tr.e))) 8))
theorem VK22 (k : Int) (s g t : ByteArray) (lp : Code → Run) (gs : Code → Nat → Run) : bodyK Tryd.prog (fiAt fis 22) [(29, parseS)] lp gs (code 22) (res 22) [.agg ⟨[.int .i64 k, .string s, .string g, .string t]⟩] = (ite2 (neI k (3 : Int)) (some (Value.tuple (Array.mk [(Value.agg (Array.mk [(Value.int IntKind.i64 (0 : Int)), (Value.int IntKind.i64 (0 : Int))])), (Value.bool false)]))) (ite2 (neS t Sp.xInt) (ite2 (neS t Sp.xDec) (some (Value.tuple (Array.mk [(Value.agg (Array.mk [(Value.int IntKind.i64 (0 : Int)), (Value.int IntKind.i64 (0 : Int))])), (Value.bool false)]))) (ob (lp (codeAt (code 22) [1, 1, 0, 1, 0, 0]) (vst22_4_0 k s g t false (0 : Int) (0 : Int) (0 : Int) k s t g)) fun r => (contAt Tryd.prog (fiAt fis 22) (kcallK [(29, parseS)]) (kcall [(29, parseS)]) lp gs (code 22) [1, 1, 0, 1, 0] (retK Tryd.prog (fiAt fis 22) (res 22))) r.1 r.2)) (ob (lp (codeAt (code 22) [1, 1, 0, 1, 0, 0]) (vst22_4_0 k s g t false (0 : Int) (0 : Int) (0 : Int) k s t g)) fun r => (contAt Tryd.prog (fiAt fis 22) (kcallK [(29, parseS)]) (kcall [(29, parseS)]) lp gs (code 22) [1, 1, 0, 1, 0] (retK Tryd.prog (fiAt fis 22) (res 22))) r.1 r.2))) := by kernel_rfl
theorem VR22_4_0 (x0 : Int) (x1 : ByteArray) (x2 : ByteArray) (x3 : ByteArray) (x4 : Bool) (x5 : Int) (x6 : Int) (x7 : Int) (x8 : Int) (x9 : ByteArray) (x10 : ByteArray) (x11 : ByteArray) (lp : Code → Run) (gs : Code → Nat → Run) : bt (gcPre none (vst22_4_0 x0 x1 x2 x3 x4 x5 x6 x7 x8 x9 x10 x11)) (exK Tryd.prog (fiAt fis 22) (kcallK [(29, parseS)]) (kcall [(29, parseS)]) lp gs (codeAt (code 22) [1, 1, 0, 1, 0, 0]) (vst22_4_0 x0 x1 x2 x3 x4 x5 x6 x7 x8 x9 x10 x11) (fun e st => ob (goOn (fun st => ob (gcO none st) (lp (codeAt (code 22) [1, 1, 0, 1, 0, 0]))) e st) some)) = (ite2 (ltI x5 (Int.ofNat (lenS x9))) (ite2 (eqS x10 Sp.xInt) (ob (byteS x9 x5) fun y0 => (ite2 (eqI y0 (46 : Int)) (some (Prod.mk Ex.ret (vex22_0 x0 x1 x2 x3 false x5 (0 : Int) (0 : Int) x8 x9 x10 x11 [(Prod.mk 36 (Value.agg (Array.mk [(Value.int IntKind.i64 (0 : Int)), (Value.int IntKind.i64 (0 : Int))]))), (Prod.mk 35 (Value.bool true)), (Prod.mk 34 (Value.int IntKind.u8 y0)), (Prod.mk 33 (Value.int IntKind.i64 x5)), (Prod.mk 32 (Value.string x9)), (Prod.mk 31 (Value.pointer (some (Addr.mk 6 1 (none))))), (Prod.mk 28 (Value.bool true)), (Prod.mk 27 (Value.bool (eqS x10 Sp.xInt))), (Prod.mk 26 (Value.string x10)), (Prod.mk 25 (Value.pointer (some (Addr.mk 6 3 (none))))), (Prod.mk 24 (Value.bool true)), (Prod.mk 23 (Value.bool (ltI x5 (Int.ofNat (lenS x9))))), (Prod.mk 22 (Value.int IntKind.i64 (Int.ofNat (lenS x9)))), (Prod.mk 21 (Value.string x9)), (Prod.mk 20 (Value.pointer (some (Addr.mk 6 1 (none))))), (Prod.mk 19 (Value.int IntKind.i64 x5))]))) (ob (lp (codeAt (code 22) [1, 1, 0, 1, 0, 0]) (vst22_4_0 x0 x1 x2 x3 x4 (wrapA IntKind.i64 (Int.add x5 (1 : Int))) x6 x7 x8 x9 x10 x11)) some))) (some (Prod.mk (Ex.exit 0) (vex22_0 x0 x1 x2 x3 x4 x5 x6 x7 x8 x9 x10 x11 [(Prod.mk 28 (Value.bool false)), (Prod.mk 27 (Value.bool (eqS x10 Sp.xInt))), (Prod.mk 26 (Value.string x10)), (Prod.mk 25 (Value.pointer (some (Addr.mk 6 3 (none))))), (Prod.mk 24 (Value.bool true)), (Prod.mk 23 (Value.bool (ltI x5 (Int.ofNat (lenS x9))))), (Prod.mk 22 (Value.int IntKind.i64 (Int.ofNat (lenS x9)))), (Prod.mk 21 (Value.string x9)), (Prod.mk 20 (Value.pointer (some (Addr.mk 6 1 (none))))), (Prod.mk 19 (Value.int IntKind.i64 x5))])))) (some (Prod.mk (Ex.exit 0) (vex22_0 x0 x1 x2 x3 x4 x5 x6 x7 x8 x9 x10 x11 [(Prod.mk 28 (Value.bool false)), (Prod.mk 27 (Value.tuple (Array.mk []))), (Prod.mk 26 (Value.tuple (Array.mk []))), (Prod.mk 25 (Value.tuple (Array.mk []))), (Prod.mk 24 (Value.bool false)), (Prod.mk 23 (Value.bool (ltI x5 (Int.ofNat (lenS x9))))), (Prod.mk 22 (Value.int IntKind.i64 (Int.ofNat (lenS x9)))), (Prod.mk 21 (Value.string x9)), (Prod.mk 20 (Value.pointer (some (Addr.mk 6 1 (none))))), (Prod.mk 19 (Value.int IntKind.i64 x5))])))) := by kernel_rfl
theorem VC22_0_0 (x0 : Int) (x1 : ByteArray) (x2 : ByteArray) (x3 : ByteArray) (x4 : Bool) (x5 : Int) (x7 : Int) (x8 : Int) (x9 : Int) (x10 : ByteArray) (x11 : ByteArray) (x12 : ByteArray) (tp : Go.Am.Al) (lp : Code → Run) (gs : Code → Nat → Run) : (contAt Tryd.prog (fiAt fis 22) (kcallK [(29, parseS)]) (kcall [(29, parseS)]) lp gs (code 22) [1, 1, 0, 1, 0] (retK Tryd.prog (fiAt fis 22) (res 22))) (Go.Am.Ex.exit 0) (vex22_0 x0 x1 x2 x3 x4 x5 x7 x8 x9 x10 x11 x12 tp) = (ite2 (Sp.short2 x10) (some (Value.tuple (Array.mk [(Value.agg (Array.mk [(Value.int IntKind.i64 (Sp.pM x10)), (Value.int IntKind.i64 (Sp.pS x10))])), (Value.bool (Sp.pB x10))]))) (none)) := by kernel_rfl
theorem VC22_0_1 (x0 : Int) (x1 : ByteArray) (x2 : ByteArray) (x3 : ByteArray) (x4 : Bool) (x5 : Int) (x7 : Int) (x8 : Int) (x9 : Int) (x10 : ByteArray) (x11 : ByteArray) (x12 : ByteArray) (tp : Go.Am.Al) (lp : Code → Run) (gs : Code → Nat → Run) : (contAt Tryd.prog (fiAt fis 22) (kcallK [(29, parseS)]) (kcall [(29, parseS)]) lp gs (code 22) [1, 1, 0, 1, 0] (retK Tryd.prog (fiAt fis 22) (res 22))) Go.Am.Ex.ret (vex22_0 x0 x1 x2 x3 x4 x5 x7 x8 x9 x10 x11 x12 tp) = (some (Value.tuple (Array.mk [(Value.agg (Array.mk [(Value.int IntKind.i64 x7), (Value.int IntKind.i64 x8)])), (Value.bool x4)]))) := by kernel_rfl
theorem VK8 (k : Int) (s g t : ByteArray) (lp : Code → Run) (gs : Code → Nat → Run) : bodyK Tryd.prog (fiAt fis 8) [(18, truS true), (19, numS true), (20, plainS)] lp gs (code 8) (res 8) [.agg ⟨[.int .i64 k, .string s, .string g, .string t]⟩] = (ite2 (Sp.isB true k s g t) (some (Value.tuple (Array.mk [(Value.bool (Sp.tV true k s g t)), (Value.bool true)]))) (ite2 (Sp.short2 s) (ite2 (Sp.numB true k s g t) (some (Value.tuple (Array.mk [(Value.bool (fcmpB Go.BinOp.neq FloatKind.f64 (FloatKind.nearest FloatKind.f64 (Sp.numM true k s g t)) 0)), (Value.bool true)]))) (ite2 (Sp.plain k g t) (ite2 (ite2 (ite2 (eqI k k) (ite2 (eqS s s) (ite2 (eqS g g) (ite2 (eqS t t) true false) false) false) false) true false) (ite2 (ite2 (ite2 (eqS s s) true false) true false) (some (Value.tuple (Array.mk [(Value.bool (neS s Sp.nil)), (Value.bool (Sp.plain k g t))]))) (none)) (none)) (ite2 (ite2 (ite2 (eqI k k) (ite2 (eqS s s) (ite2 (eqS g g) (ite2 (eqS t t) true false) false) false) false) true false) (some (Value.tuple (Array.mk [(Value.bool false), (Value.bool (Sp.plain k g t))]))) (none)))) (none))) := by kernel_rfl
theorem VK9 (k : Int) (s g t : ByteArray) (lp : Code → Run) (gs : Code → Nat → Run) : bodyK Tryd.prog (fiAt fis 9) [(21, truS false), (22, numS false), (23, plainS)] lp gs (code 9) (res 9) [.agg ⟨[.int .i64 k, .string s, .string g, .string t]⟩] = (ite2 (Sp.isB false k s g t) (some (Value.tuple (Array.mk [(Value.bool (Sp.tV false k s g t)), (Value.bool true)]))) (ite2 (Sp.short2 s) (ite2 (Sp.numB false k s g t) (some (Value.tuple (Array.mk [(Value.bool (neI (Sp.numM false k s g t) (0 : Int))), (Value.bool true)]))) (ite2 (Sp.plain k g t) (some (Value.tuple (Array.mk [(Value.bool (neS s Sp.nil)), (Value.bool true)]))) (some (Value.tuple (Array.mk [(Value.bool false), (Value.bool false)]))))) (none))) := by kernel_rfl
theorem VK26 (k : Int) (s g t : ByteArray) (k2 : Int) (s2 g2 t2 : ByteArray) (lp : Code → Run) (gs : Code → Nat → Run) : bodyK Tryd.prog (fiAt fis 26) [(23, plainS), (21, truS false)] lp gs (code 26) (res 26) [.agg ⟨[.int .i64 k, .string s, .string g, .string t]⟩, .agg ⟨[.int .i64 k2, .string s2, .string g2, .string t2]⟩] = (ite2 (neI k (3 : Int)) (some (Value.bool true)) (ite2 (neI k2 (3 : Int)) (some (Value.bool true)) (ite2 (Sp.plain k g t) (ite2 (Sp.plain k2 g2 t2) (some (Value.bool true)) (ite2 (neS g Sp.nil) (ite2 (neS g2 Sp.nil) (some (Value.bool true)) (ite2 (Sp.isB false k s g t) (some (Value.bool (Sp.isB false k2 s2 g2 t2))) (some (Value.bool false)))) (ite2 (Sp.isB false k s g t) (some (Value.bool (Sp.isB false k2 s2 g2 t2))) (some (Value.bool false))))) (ite2 (neS g Sp.nil) (ite2 (neS g2 Sp.nil) (some (Value.bool true)) (ite2 (Sp.isB false k s g t) (some (Value.bool (Sp.isB false k2 s2 g2 t2))) (some (Value.bool false)))) (ite2 (Sp.isB false k s g t) (some (Value.bool (Sp.isB false k2 s2 g2 t2))) (some (Value.bool false))))))) := by kernel_rfl
theorem VK10 (k : Int) (s g t : ByteArray) (k2 : Int) (s2 g2 t2 : ByteArray) (lp : Code → Run) (gs : Code → Nat → Run) : bodyK Tryd.prog (fiAt fis 10) [(18, truS true), (19, numS true), (20, plainS), (24, cmpS)] lp gs (code 10) (res 10) [.agg ⟨[.int .i64 k, .string s, .string g, .string t]⟩, .agg ⟨[.int .i64 k2, .string s2, .string g2, .string t2]⟩] = (ite2 (Sp.short2 s) (ite2 (Sp.short2 s2) (ite2 (Sp.numB true k s g t) (ite2 (Sp.numB true k2 s2 g2 t2) (ite2 (ite2 (Sp.ok (Sp.numM true k s g t) (Sp.numP true k s g t)) (Sp.ok (Sp.numM true k2 s2 g2 t2) (Sp.numP true k2 s2 g2 t2)) false) (some (Value.tuple (Array.mk [(Value.bool (eqI (Sp.cmp (Sp.val (Sp.numM true k s g t) (Sp.numP true k s g t)) (Sp.val (Sp.numM true k2 s2 g2 t2) (Sp.numP true k2 s2 g2 t2))) (0 : Int))), (Value.bool true)]))) (none)) (ite2 (ite2 (eqI k k2) (ite2 (eqS s s2) (ite2 (eqS g g2) (ite2 (eqS t t2) true false) false) false) false) (some (Value.tuple (Array.mk [(Value.bool (ite2 (eqI k k2) (ite2 (eqS s s2) (ite2 (eqS g g2) (ite2 (eqS t t2) true false) false) false) false)), (Value.bool true)]))) (ite2 (neI k (3 : Int)) (some (Value.tuple (Array.mk [(Value.bool (ite2 (eqI k k2) (ite2 (eqS s s2) (ite2 (eqS g g2) (ite2 (eqS t t2) true false) false) false) false)), (Value.bool true)]))) (ite2 (neI k2 (3 : Int)) (some (Value.tuple (Array.mk [(Value.bool (ite2 (eqI k k2) (ite2 (eqS s s2) (ite2 (eqS g g2) (ite2 (eqS t t2) true false) false) false) false)), (Value.bool true)]))) (ite2 (Sp.plain k g t) (ite2 (Sp.plain k2 g2 t2) (some (Value.tuple (Array.mk [(Value.bool false), (Value.bool true)]))) (ite2 (Sp.isB true k s g t) (ite2 (Sp.isB true k2 s2 g2 t2) (some (Value.tuple (Array.mk [(Value.bool false), (Value.bool true)]))) (ite2 (neS g Sp.nil) (ite2 (neS g2 Sp.nil) (some (Value.tuple (Array.mk [(Value.bool false), (Value.bool true)]))) (some (Value.tuple (Array.mk [(Value.bool false), (Value.bool false)])))) (some (Value.tuple (Array.mk [(Value.bool false), (Value.bool false)]))))) (ite2 (neS g Sp.nil) (ite2 (neS g2 Sp.nil) (some (Value.tuple (Array.mk [(Value.bool false), (Value.bool true)]))) (some (Value.tuple (Array.mk [(Value.bool false), (Value.bool false)])))) (some (Value.tuple (Array.mk [(Value.bool false), (Value.bool false)])))))) (ite2 (Sp.isB true k s g t) (ite2 (Sp.isB true k2 s2 g2 t2) (some (Value.tuple (Array.mk [(Value.bool false), (Value.bool true)]))) (ite2 (neS g Sp.nil) (ite2 (neS g2 Sp.nil) (some (Value.tuple (Array.mk [(Value.bool false), (Value.bool true)]))) (some (Value.tuple (Array.mk [(Value.bool false), (Value.bool false)])))) (some (Value.tuple (Array.mk [(Value.bool false), (Value.bool false)]))))) (ite2 (neS g Sp.nil) (ite2 (neS g2 Sp.nil) (some (Value.tuple (Array.mk [(Value.bool false), (Value.bool true)]))) (some (Value.tuple (Array.mk [(Value.bool false), (Value.bool false)])))) (some (Value.tuple (Array.mk [(Value.bool false), (Value.bool false)])))))))))) (ite2 (ite2 (eqI k k2) (ite2 (eqS s s2) (ite2 (eqS g g2) (ite2 (eqS t t2) true false) false) false) false) (some (Value.tuple (Array.mk [(Value.bool (ite2 (eqI k k2) (ite2 (eqS s s2) (ite2 (eqS g g2) (ite2 (eqS t t2) true false) false) false) false)), (Value.bool true)]))) (ite2 (neI k (3 : Int)) (some (Value.tuple (Array.mk [(Value.bool (ite2 (eqI k k2) (ite2 (eqS s s2) (ite2 (eqS g g2) (ite2 (eqS t t2) true false) false) false) false)), (Value.bool true)]))) (ite2 (neI k2 (3 : Int)) (some (Value.tuple (Array.mk [(Value.bool (ite2 (eqI k k2) (ite2 (eqS s s2) (ite2 (eqS g g2) (ite2 (eqS t t2) true false) false) false) false)), (Value.bool true)]))) (ite2 (Sp.plain k g t) (ite2 (Sp.plain k2 g2 t2) (some (Value.tuple (Array.mk [(Value.bool false), (Value.bool true)]))) (ite2 (Sp.isB true k s g t) (ite2 (Sp.isB true k2 s2 g2 t2) (some (Value.tuple (Array.mk [(Value.bool false), (Value.bool true)]))) (ite2 (neS g Sp.nil) (ite2 (neS g2 Sp.nil) (some (Value.tuple (Array.mk [(Value.bool false), (Value.bool true)]))) (some (Value.tuple (Array.mk [(Value.bool false), (Value.bool false)])))) (some (Value.tuple (Array.mk [(Value.bool false), (Value.bool false)]))))) (ite2 (neS g Sp.nil) (ite2 (neS g2 Sp.nil) (some (Value.tuple (Array.mk [(Value.bool false), (Value.bool true)]))) (some (Value.tuple (Array.mk [(Value.bool false), (Value.bool false)])))) (some (Value.tuple (Array.mk [(Value.bool false), (Value.bool false)])))))) (ite2 (Sp.isB true k s g t) (ite2 (Sp.isB true k2 s2 g2 t2) (some (Value.tuple (Array.mk [(Value.bool false), (Value.bool true)]))) (ite2 (neS g Sp.nil) (ite2 (neS g2 Sp.nil) (some (Value.tuple (Array.mk [(Value.bool false), (Value.bool true)]))) (some (Value.tuple (Array.mk [(Value.bool false), (Value.bool false)])))) (some (Value.tuple (Array.mk [(Value.bool false), (Value.bool false)]))))) (ite2 (neS g Sp.nil) (ite2 (neS g2 Sp.nil) (some (Value.tuple (Array.mk [(Value.bool false), (Value.bool true)]))) (some (Value.tuple (Array.mk [(Value.bool false), (Value.bool false)])))) (some (Value.tuple (Array.mk [(Value.bool false), (Value.bool false)])))))))))) (none)) (none)) := by kernel_rfl
theorem VK11 (k : Int) (s g t : ByteArray) (k2 : Int) (s2 g2 t2 : ByteArray) (lp : Code → Run) (gs : Code → Nat → Run) : bodyK Tryd.prog (fiAt fis 11) [(22, numS false), (26, knownTS), (25, cmpS)] lp gs (code 11) (res 11) [.agg ⟨[.int .i64 k, .string s, .string g, .string t]⟩, .agg ⟨[.int .i64 k2, .string s2, .string g2, .string t2]⟩] = (ite2 (Sp.short2 s) (ite2 (Sp.short2 s2) (ite2 (Sp.numB false k s g t) (ite2 (Sp.numB false k2 s2 g2 t2) (ite2 (ite2 (Sp.ok (Sp.numM false k s g t) (Sp.numP false k s g t)) (Sp.ok (Sp.numM false k2 s2 g2 t2) (Sp.numP false k2 s2 g2 t2)) false) (some (Value.tuple (Array.mk [(Value.bool (eqI (Sp.cmp (Sp.val (Sp.numM false k s g t) (Sp.numP false k s g t)) (Sp.val (Sp.numM false k2 s2 g2 t2) (Sp.numP false k2 s2 g2 t2))) (0 : Int))), (Value.bool true)]))) (none)) (ite2 (Sp.kn false (Prod.mk k (Prod.mk s (Prod.mk g t))) (Prod.mk k2 (Prod.mk s2 (Prod.mk g2 t2)))) (some (Value.tuple (Array.mk [(Value.bool (ite2 (eqI k k2) (ite2 (eqS s s2) (ite2 (eqS g g2) (ite2 (eqS t t2) true false) false) false) false)), (Value.bool true)]))) (some (Value.tuple (Array.mk [(Value.bool (ite2 (eqI k k2) (ite2 (eqS s s2) (ite2 (eqS g g2) (ite2 (eqS t t2) true false) false) false) false)), (Value.bool (ite2 (eqI k k2) (ite2 (eqS s s2) (ite2 (eqS g g2) (ite2 (eqS t t2) true false) false) false) false))]))))) (ite2 (Sp.kn false (Prod.mk k (Prod.mk s (Prod.mk g t))) (Prod.mk k2 (Prod.mk s2 (Prod.mk g2 t2)))) (some (Value.tuple (Array.mk [(Value.bool (ite2 (eqI k k2) (ite2 (eqS s s2) (ite2 (eqS g g2) (ite2 (eqS t t2) true false) false) false) false)), (Value.bool true)]))) (some (Value.tuple (Array.mk [(Value.bool (ite2 (eqI k k2) (ite2 (eqS s s2) (ite2 (eqS g g2) (ite2 (eqS t t2) true false) false) false) false)), (Value.bool (ite2 (eqI k k2) (ite2 (eqS s s2) (ite2 (eqS g g2) (ite2 (eqS t t2) true false) false) false) false))]))))) (none)) (none)) := by kernel_rfl
theorem VK12 (k : Int) (s g t : ByteArray) (k2 : Int) (s2 g2 t2 : ByteArray) (lp : Code → Run) (gs : Code → Nat → Run) : bodyK Tryd.prog (fiAt fis 12) [(18, truS true), (19, numS true), (20, plainS), (24, cmpS)] lp gs (code 12) (res 12) [.agg ⟨[.int .i64 k, .string s, .string g, .string t]⟩, .agg ⟨[.int .i64 k2, .string s2, .string g2, .string t2]⟩] = (ite2 (Sp.short2 s) (ite2 (Sp.short2 s2) (ite2 (Sp.numB true k s g t) (ite2 (Sp.numB true k2 s2 g2 t2) (ite2 (ite2 (Sp.ok (Sp.numM true k s g t) (Sp.numP true k s g t)) (Sp.ok (Sp.numM true k2 s2 g2 t2) (Sp.numP true k2 s2 g2 t2)) false) (some (Value.tuple (Array.mk [(Value.bool (ltI (Sp.cmp (Sp.val (Sp.numM true k s g t) (Sp.numP true k s g t)) (Sp.val (Sp.numM true k2 s2 g2 t2) (Sp.numP true k2 s2 g2 t2))) (0 : Int))), (Value.bool true)]))) (none)) (ite2 (Sp.plain k g t) (ite2 (Sp.plain k2 g2 t2) (some (Value.tuple (Array.mk [(Value.bool (ltS s s2)), (Value.bool true)]))) (ite2 (Sp.isB true k s g t) (ite2 (Sp.isB true k2 s2 g2 t2) (ite2 (ite2 (Sp.tV true k s g t) false true) (some (Value.tuple (Array.mk [(Value.bool (Sp.tV true k2 s2 g2 t2)), (Value.bool true)]))) (some (Value.tuple (Array.mk [(Value.bool false), (Value.bool true)])))) (some (Value.tuple (Array.mk [(Value.bool false), (Value.bool false)])))) (some (Value.tuple (Array.mk [(Value.bool false), (Value.bool false)]))))) (ite2 (Sp.isB true k s g t) (ite2 (Sp.isB true k2 s2 g2 t2) (ite2 (ite2 (Sp.tV true k s g t) false true) (some (Value.tuple (Array.mk [(Value.bool (Sp.tV true k2 s2 g2 t2)), (Value.bool true)]))) (some (Value.tuple (Array.mk [(Value.bool false), (Value.bool true)])))) (some (Value.tuple (Array.mk [(Value.bool false), (Value.bool false)])))) (some (Value.tuple (Array.mk [(Value.bool false), (Value.bool false)])))))) (ite2 (Sp.plain k g t) (ite2 (Sp.plain k2 g2 t2) (some (Value.tuple (Array.mk [(Value.bool (ltS s s2)), (Value.bool true)]))) (ite2 (Sp.isB true k s g t) (ite2 (Sp.isB true k2 s2 g2 t2) (ite2 (ite2 (Sp.tV true k s g t) false true) (some (Value.tuple (Array.mk [(Value.bool (Sp.tV true k2 s2 g2 t2)), (Value.bool true)]))) (some (Value.tuple (Array.mk [(Value.bool false), (Value.bool true)])))) (some (Value.tuple (Array.mk [(Value.bool false), (Value.bool false)])))) (some (Value.tuple (Array.mk [(Value.bool false), (Value.bool false)]))))) (ite2 (Sp.isB true k s g t) (ite2 (Sp.isB true k2 s2 g2 t2) (ite2 (ite2 (Sp.tV true k s g t) false true) (some (Value.tuple (Array.mk [(Value.bool (Sp.tV true k2 s2 g2 t2)), (Value.bool true)]))) (some (Value.tuple (Array.mk [(Value.bool false), (Value.bool true)])))) (some (Value.tuple (Array.mk [(Value.bool false), (Value.bool false)])))) (some (Value.tuple (Array.mk [(Value.bool false), (Value.bool false)])))))) (none)) (none)) := by kernel_rfl
theorem VK13 (k : Int) (s g t : ByteArray) (k2 : Int) (s2 g2 t2 : ByteArray) (lp : Code → Run) (gs : Code → Nat → Run) : bodyK Tryd.prog (fiAt fis 13) [(21, truS false), (22, numS false), (23, plainS), (25, cmpS)] lp gs (code 13) (res 13) [.agg ⟨[.int .i64 k, .string s, .string g, .string t]⟩, .agg ⟨[.int .i64 k2, .string s2, .string g2, .string t2]⟩] = (ite2 (Sp.short2 s) (ite2 (Sp.short2 s2) (ite2 (Sp.numB false k s g t) (ite2 (Sp.numB false k2 s2 g2 t2) (ite2 (ite2 (Sp.ok (Sp.numM false k s g t) (Sp.numP false k s g t)) (Sp.ok (Sp.numM false k2 s2 g2 t2) (Sp.numP false k2 s2 g2 t2)) false) (some (Value.tuple (Array.mk [(Value.bool (ltI (Sp.cmp (Sp.val (Sp.numM false k s g t) (Sp.numP false k s g t)) (Sp.val (Sp.numM false k2 s2 g2 t2) (Sp.numP false k2 s2 g2 t2))) (0 : Int))), (Value.bool true)]))) (none)) (ite2 (Sp.plain k g t) (ite2 (Sp.plain k2 g2 t2) (some (Value.tuple (Array.mk [(Value.bool (ltS s s2)), (Value.bool true)]))) (ite2 (Sp.isB false k s g t) (ite2 (Sp.isB false k2 s2 g2 t2) (ite2 (ite2 (Sp.tV false k s g t) false true) (some (Value.tuple (Array.mk [(Value.bool (Sp.tV false k2 s2 g2 t2)), (Value.bool true)]))) (some (Value.tuple (Array.mk [(Value.bool false), (Value.bool true)])))) (some (Value.tuple (Array.mk [(Value.bool false), (Value.bool false)])))) (some (Value.tuple (Array.mk [(Value.bool false), (Value.bool false)]))))) (ite2 (Sp.isB false k s g t) (ite2 (Sp.isB false k2 s2 g2 t2) (ite2 (ite2 (Sp.tV false k s g t) false true) (some (Value.tuple (Array.mk [(Value.bool (Sp.tV false k2 s2 g2 t2)), (Value.bool true)]))) (some (Value.tuple (Array.mk [(Value.bool false), (Value.bool true)])))) (some (Value.tuple (Array.mk [(Value.bool false), (Value.bool false)])))) (some (Value.tuple (Array.mk [(Value.bool false), (Value.bool false)])))))) (ite2 (Sp.plain k g t) (ite2 (Sp.plain k2 g2 t2) (some (Value.tuple (Array.mk [(Value.bool (ltS s s2)), (Value.bool true)]))) (ite2 (Sp.isB false k s g t) (ite2 (Sp.isB false k2 s2 g2 t2) (ite2 (ite2 (Sp.tV false k s g t) false true) (some (Value.tuple (Array.mk [(Value.bool (Sp.tV false k2 s2 g2 t2)), (Value.bool true)]))) (some (Value.tuple (Array.mk [(Value.bool false), (Value.bool true)])))) (some (Value.tuple (Array.mk [(Value.bool false), (Value.bool false)])))) (some (Value.tuple (Array.mk [(Value.bool false), (Value.bool false)]))))) (ite2 (Sp.isB false k s g t) (ite2 (Sp.isB false k2 s2 g2 t2) (ite2 (ite2 (Sp.tV false k s g t) false true) (some (Value.tuple (Array.mk [(Value.bool (Sp.tV false k2 s2 g2 t2)), (Value.bool true)]))) (some (Value.tuple (Array.mk [(Value.bool false), (Value.bool true)])))) (some (Value.tuple (Array.mk [(Value.bool false), (Value.bool false)])))) (some (Value.tuple (Array.mk [(Value.bool false), (Value.bool false)])))))) (none)) (none)) := by kernel_rfl
/-! ### contracts: terms as numbers, truths, texts -/
theorem fnz (M : Int) (h1 : -9007199254740992 < M) (h2 : M < 9007199254740992) : fcmpB .neq .f64 (FloatKind.nearest .f64 M) 0 = neI M 0 := by
  by_cases h0 : M = 0
  · subst h0; kernel_rfl
  · have hr : neI M 0 = true := by unfold neI; rw [eqI_dec, decide_eq_false h0]; rfl
    rw [hr]
    show (((Ieee.double.read (FloatKind.f64.nearest M)).order (Ieee.double.read 0)) != some .eq) = true
    have e1 : Ieee.double.read (FloatKind.f64.nearest M) = .number (decide (M < 0)) (M.natAbs * 2 ^ (52 - M.natAbs.log2)) ((M.natAbs.log2 : Int) - 52) := decode_nearest M h0 (by omega)
    have e2 : Ieee.double.read 0 = .number false 0 (-1074) := by decide
    rw [e1, e2]
    have hK : M.natAbs * 2 ^ (52 - M.natAbs.log2) ≠ 0 := Nat.mul_ne_zero (by omega) (by have := Nat.two_pow_pos (52 - M.natAbs.log2); omega)
    generalize M.natAbs * 2 ^ (52 - M.natAbs.log2) = K at hK
    unfold Ieee.Datum.order Ieee.signed
    simp only
    generalize (((M.natAbs.log2 : Int) - 52) - min (((M.natAbs.log2 : Int) - 52)) (-1074)).toNat = sh
    have hS : K <<< sh ≠ 0 := by
      rw [Nat.shiftLeft_eq]
      exact Nat.mul_ne_zero hK (by have := Nat.two_pow_pos sh; omega)
    generalize K <<< sh = S at hS
    rw [Nat.zero_shiftLeft]
    simp only [Bool.false_eq_true, if_false, bne_iff_ne, ne_eq, Option.some.injEq]
    intro h
    have h' := Int.compare_eq_eq.1 h
    split at h' <;> omega
theorem t1_some {l : List Value} {p : Sp.T} (h : t1 l = some p) : l = [.agg ⟨[.int .i64 p.1, .string p.2.1, .string p.2.2.1, .string p.2.2.2]⟩] := by
  unfold t1 at h; split at h
  · obtain rfl := Option.some.inj h; rfl
  · cases h
theorem t2_some {l : List Value} {p : Sp.T × Sp.T} (h : t2 l = some p) : l = [.agg ⟨[.int .i64 p.1.1, .string p.1.2.1, .string p.1.2.2.1, .string p.1.2.2.2]⟩, .agg ⟨[.int .i64 p.2.1, .string p.2.2.1, .string p.2.2.2.1, .string p.2.2.2.2]⟩] := by
  unfold t2 at h; split at h
  · obtain rfl := Option.some.inj h; rfl
  · cases h
theorem index_h : Holds Tryd.prog (33, ixS) := holds_of_K masks (s := [(46, ixS)]) (fun x h => by rw [List.mem_singleton.1 h]; exact ix_h) none Tryd.func33 (by kernel_rfl) (c := code 33) (by kernel_rfl) (rs := res 33) (by kernel_rfl) (by kernel_rfl) fun args v hG => by
  obtain ⟨⟨s, p⟩, h1, h⟩ := ob_some hG
  obtain ⟨hp, rfl⟩ := Prod.mk.inj (Option.some.inj h)
  rw [s2_some h1]
  refine ⟨rfl, rfl, rfl, 0, (VK33 s p _ _).trans ?_⟩
  rw [ite2_pos hp]
theorem cont_h : Holds Tryd.prog (27, contS) := holds_of_K masks (s := [(33, ixS)]) (fun x h => by rw [List.mem_singleton.1 h]; exact index_h) none Tryd.func27 (by kernel_rfl) (c := code 27) (by kernel_rfl) (rs := res 27) (by kernel_rfl) (by kernel_rfl) fun args v hG => by
  obtain ⟨⟨s, p⟩, h1, h⟩ := ob_some hG
  obtain ⟨hp, rfl⟩ := Prod.mk.inj (Option.some.inj h)
  rw [s2_some h1]
  refine ⟨rfl, rfl, rfl, 0, (VK27 s p _ _).trans ?_⟩
  rw [ite2_pos hp]
  have hix : Sp.ixb s 46 = Lib.indexByte (strL s) 46 := rfl
  obtain ⟨i1, i2⟩ := ix_point (strL s)
  show some (Value.bool _) = some (Value.bool (Sp.has s))
  congr 2
  rw [hix, geI_dec]
  cases hh : (strL s).any (fun b => decide (b = 46)) with
  | true => rw [(i1 hh).1, show Sp.has s = true from hh]; exact decide_eq_true (by omega)
  | false => rw [(i2 hh).1, show Sp.has s = false from hh]; exact decide_eq_false (by omega)
theorem plain_h : Holds Tryd.prog (20, plainS) := holds_of_K masks (s := []) (fun _ h => by cases h) none Tryd.func20 (by kernel_rfl) (c := code 20) (by kernel_rfl) (rs := res 20) (by kernel_rfl) (by kernel_rfl) fun args v hG => by
  obtain ⟨⟨k, s, g, t⟩, h1, h⟩ := ob_some hG
  obtain ⟨-, rfl⟩ := Prod.mk.inj (Option.some.inj h)
  rw [t1_some h1]
  refine ⟨rfl, rfl, rfl, 0, (VK20 k s g t _ _).trans ?_⟩
  show _ = some (Value.bool (eqI k 3 && (eqS g Sp.nil && eqS t Sp.nil)))
  cases eqI k 3 <;> cases eqS g Sp.nil <;> rfl
theorem rplain_h : Holds Tryd.prog (23, plainS) := holds_of_K masks (s := []) (fun _ h => by cases h) none Tryd.func23 (by kernel_rfl) (c := code 23) (by kernel_rfl) (rs := res 23) (by kernel_rfl) (by kernel_rfl) fun args v hG => by
  obtain ⟨⟨k, s, g, t⟩, h1, h⟩ := ob_some hG
  obtain ⟨-, rfl⟩ := Prod.mk.inj (Option.some.inj h)
  rw [t1_some h1]
  refine ⟨rfl, rfl, rfl, 0, (VK23 k s g t _ _).trans ?_⟩
  show _ = some (Value.bool (eqI k 3 && (eqS g Sp.nil && eqS t Sp.nil)))
  cases eqI k 3 <;> cases eqS g Sp.nil <;> rfl
theorem tru_h : Holds Tryd.prog (18, truS true) := holds_of_K masks (s := []) (fun _ h => by cases h) none Tryd.func18 (by kernel_rfl) (c := code 18) (by kernel_rfl) (rs := res 18) (by kernel_rfl) (by kernel_rfl) fun args v hG => by
  obtain ⟨⟨k, s, g, t⟩, h1, h⟩ := ob_some hG
  obtain ⟨-, rfl⟩ := Prod.mk.inj (Option.some.inj h)
  rw [t1_some h1]
  refine ⟨rfl, rfl, rfl, 0, (VK18 k s g t _ _).trans ?_⟩
  show _ = some (Value.tuple ⟨[.bool ((!true || eqS g Sp.nil) && (eqI k 3 && (eqS t Sp.xBool && (eqS s Sp.yes || eqS s Sp.no))) && eqS s Sp.yes), .bool ((!true || eqS g Sp.nil) && (eqI k 3 && (eqS t Sp.xBool && (eqS s Sp.yes || eqS s Sp.no))))]⟩)
  show ite2 (eqI k 3) (ite2 (eqS g Sp.nil) (ite2 (eqS t Sp.xBool) (ite2 (eqS s Sp.yes) (some (Value.tuple ⟨[.bool (eqS s Sp.yes), .bool true]⟩)) (ite2 (eqS s Sp.no) (some (Value.tuple ⟨[.bool (eqS s Sp.yes), .bool (eqS s Sp.no)]⟩)) (some (Value.tuple ⟨[.bool false, .bool (eqS s Sp.no)]⟩)))) (some (bb false false))) (some (bb false false))) (some (bb false false)) = _
  generalize eqS s Sp.yes = y
  generalize eqS s Sp.no = n
  generalize eqS t Sp.xBool = x
  generalize eqS g Sp.nil = e
  cases eqI k 3 <;> cases e <;> cases x <;> cases y <;> cases n <;> rfl
theorem bool_h : Holds Tryd.prog (21, truS false) := holds_of_K masks (s := []) (fun _ h => by cases h) none Tryd.func21 (by kernel_rfl) (c := code 21) (by kernel_rfl) (rs := res 21) (by kernel_rfl) (by kernel_rfl) fun args v hG => by
  obtain ⟨⟨k, s, g, t⟩, h1, h⟩ := ob_some hG
  obtain ⟨-, rfl⟩ := Prod.mk.inj (Option.some.inj h)
  rw [t1_some h1]
  refine ⟨rfl, rfl, rfl, 0, (VK21 k s g t _ _).trans ?_⟩
  show _ = some (Value.tuple ⟨[.bool ((!false || eqS g Sp.nil) && (eqI k 3 && (eqS t Sp.xBool && (eqS s Sp.yes || eqS s Sp.no))) && eqS s Sp.yes), .bool ((!false || eqS g Sp.nil) && (eqI k 3 && (eqS t Sp.xBool && (eqS s Sp.yes || eqS s Sp.no))))]⟩)
  show ite2 (!(eqI k 3)) (some (bb false false)) (ite2 (!(eqS t Sp.xBool)) (some (bb false false)) (ite2 (!(eqS s Sp.yes)) (ite2 (!(eqS s Sp.no)) (some (bb false false)) (some (bb (eqS s Sp.yes) true))) (some (bb (eqS s Sp.yes) true)))) = _
  generalize eqS s Sp.yes = y
  generalize eqS s Sp.no = n
  generalize eqS t Sp.xBool = x
  generalize eqS g Sp.nil = e
  cases eqI k 3 <;> cases e <;> cases x <;> cases y <;> cases n <;> rfl
theorem num_h : Holds Tryd.prog (19, numS true) := holds_of_K masks (s := [(27, contS), (28, parseS)]) (fun x h => by
    simp only [List.mem_cons, List.not_mem_nil, or_false] at h
    rcases h with rfl | rfl
    · exact cont_h
    · exact parse_h) none Tryd.func19 (by kernel_rfl) (c := code 19) (by kernel_rfl) (rs := res 19) (by kernel_rfl) (by kernel_rfl) fun args v hG => by
  obtain ⟨⟨k, s, g, t⟩, h1, h⟩ := ob_some hG
  obtain ⟨hp, rfl⟩ := Prod.mk.inj (Option.some.inj h)
  rw [t1_some h1]
  refine ⟨rfl, rfl, rfl, 0, (VK19 k s g t _ _).trans ?_⟩
  simp only [show Sp.short2 s = true from hp, ite2_true]
  simp only [Sp.numM, Sp.numP, Sp.numB, Sp.isN, Sp.gate, Sp.isNum, Sp.nM, Sp.nS, Sp.nB, neI, neS]
  generalize eqS g Sp.nil = e
  generalize eqS t Sp.xInt = x
  generalize eqS t Sp.xDec = d
  generalize Sp.has s = p
  cases eqI k 3 <;> cases e <;> cases x <;> cases d <;> cases p <;> rfl
theorem rn_loop {k : Int} {s g t : ByteArray} (hs : (strL s).length < 2000000000) (ht : eqS t Sp.xInt = true) : ∀ (n i f : Nat), i + n = (strL s).length → n < f →
    ∃ (e : Ex) (j : Int) (tp : Al), (ltow Tryd.prog (fiAt fis 22) (kcall [(29, parseS)]) none f).lp (codeAt (code 22) [1, 1, 0, 1, 0, 0]) (vst22_4_0 k s g t false (i : Int) 0 0 k s t g) = some (e, vex22_0 k s g t false j 0 0 k s t g tp) ∧
      ((e = .exit 0 ∧ ((strL s).drop i).any (fun b => decide (b = 46)) = false) ∨ (e = .ret ∧ ((strL s).drop i).any (fun b => decide (b = 46)) = true)) := by
  intro n
  induction n with
  | zero =>
    intro i f hi hf
    obtain ⟨f, rfl⟩ : ∃ g, f = g + 1 := ⟨f - 1, by omega⟩
    rw [← ob_id ((ltow ..).lp _ _), lp_round, VR22_4_0, ite2_neg (show ltI (i : Int) (Int.ofNat (lenS s)) = false from by rw [ltI_eq]; exact decide_eq_false (by show ¬ (i : Int) < ((strL s).length : Int); omega))]
    exact ⟨_, _, _, rfl, .inl ⟨rfl, by rw [List.drop_eq_nil_of_le (by omega)]; rfl⟩⟩
  | succ n ih =>
    intro i f hi hf
    obtain ⟨f, rfl⟩ : ∃ g, f = g + 1 := ⟨f - 1, by omega⟩
    have hi0 : i < (strL s).length := by omega
    rw [← ob_id ((ltow ..).lp _ _), lp_round, VR22_4_0, ite2_pos (show ltI (i : Int) (Int.ofNat (lenS s)) = true from by rw [ltI_eq]; exact decide_eq_true (by show (i : Int) < ((strL s).length : Int); omega)), ite2_pos ht, byteS_at s i hi0, ob_of]
    have hd : (strL s).drop i = (strL s)[i] :: (strL s).drop (i + 1) := List.drop_eq_getElem_cons hi0
    rw [hd, List.any_cons]
    by_cases hb : (strL s)[i] = 46
    · rw [ite2_pos (show eqI (Int.ofNat ((strL s)[i]).toNat) 46 = true from by rw [hb]; rfl), hb]
      exact ⟨_, _, _, rfl, .inr ⟨rfl, rfl⟩⟩
    · have h46 : eqI (Int.ofNat ((strL s)[i]).toNat) 46 = false := by
        rw [eqI_dec]
        refine decide_eq_false fun h => hb ?_
        have h2 : ((strL s)[i]).toNat = 46 := by have h3 : (((strL s)[i]).toNat : Int) = 46 := h; omega
        exact UInt8.toNat_inj.1 h2
      rw [ite2_neg h46, show wrapA IntKind.i64 (Int.add (i : Int) 1) = ((i + 1 : Nat) : Int) from wrapA_i64 (show _ ≤ (i : Int) + 1 by omega) (show (i : Int) + 1 < _ by omega), ob_id, decide_eq_false hb, Bool.false_or]
      exact ih (i + 1) f (by omega) (by omega)
theorem rnum_h : Holds Tryd.prog (22, numS false) := holds_of_K masks (s := [(29, parseS)]) (fun x h => by rw [List.mem_singleton.1 h]; exact rparse_h) none Tryd.func22 (by kernel_rfl) (c := code 22) (by kernel_rfl) (rs := res 22) (by kernel_rfl) (by kernel_rfl) fun args v hG => by
  obtain ⟨⟨k, s, g, t⟩, h1, h⟩ := ob_some hG
  obtain ⟨hp, rfl⟩ := Prod.mk.inj (Option.some.inj h)
  rw [t1_some h1]
  have hs : (strL s).length < 2000000000 := of_decide_eq_true hp
  refine ⟨rfl, rfl, rfl, (strL s).length + 1, (VK22 k s g t _ _).trans ?_⟩
  have hsh : Sp.short2 s = true := hp
  simp only [Sp.numM, Sp.numP, Sp.numB, Sp.isN, Sp.gate, Sp.isNum, Sp.nM, Sp.nS, Sp.nB, neI, neS]
  cases hk : eqI k 3 with
  | false => rfl
  | true =>
    cases hx : eqS t Sp.xInt with
    | true =>
      obtain ⟨e, j, tp, h1, h2⟩ := rn_loop (k := k) (g := g) hs hx (strL s).length 0 ((strL s).length + 1) (by omega) (by omega)
      refine (congrArg (fun q => ob q _) h1).trans ?_
      rcases h2 with ⟨rfl, hz⟩ | ⟨rfl, hz⟩
      · refine (VC22_0_0 _ _ _ _ _ _ _ _ _ _ _ _ _ _ _).trans ?_
        rw [ite2_pos hsh, show Sp.has s = false from by rw [List.drop_zero] at hz; exact hz]
        rfl
      · refine (VC22_0_1 _ _ _ _ _ _ _ _ _ _ _ _ _ _ _).trans ?_
        rw [show Sp.has s = true from by rw [List.drop_zero] at hz; exact hz]
        rfl
    | false =>
      cases hd : eqS t Sp.xDec with
      | false => rfl
      | true =>
        have h1 : ∃ (j : Int) (tp : Al), (ltow Tryd.prog (fiAt fis 22) (kcall [(29, parseS)]) none ((strL s).length + 1)).lp (codeAt (code 22) [1, 1, 0, 1, 0, 0]) (vst22_4_0 k s g t false 0 0 0 k s t g) = some (.exit 0, vex22_0 k s g t false j 0 0 k s t g tp) := by
          rw [← ob_id ((ltow ..).lp _ _), lp_round, VR22_4_0]
          cases ltI 0 (Int.ofNat (lenS s)) with
          | true => rw [ite2_true, ite2_neg hx]; exact ⟨_, _, rfl⟩
          | false => exact ⟨_, _, rfl⟩
        obtain ⟨j, tp, h1⟩ := h1
        refine (congrArg (fun q => ob q _) h1).trans ?_
        refine (VC22_0_0 _ _ _ _ _ _ _ _ _ _ _ _ _ _ _).trans ?_
        rw [ite2_pos hsh]
        rfl
theorem gd_nonneg : ∀ (n : Nat) (m s : Int), 0 ≤ s → 0 ≤ (Sp.gd n m s).2
  | 0, _, _, h => h
  | n + 1, m, s, h => by
    unfold Sp.gd
    split
    · exact gd_nonneg n _ _ (by omega)
    · exact h
theorem num_ok {c : Bool} {k : Int} {s g t : ByteArray} (h : Sp.numB c k s g t = true) : Sp.ok (Sp.numM c k s g t) (Sp.numP c k s g t) = true := by
  have h' : (Sp.isN c k s g t && (Sp.pOk s && Sp.rOk (Sp.pN s) ((Sp.part s).length : Int))) = true := h
  rw [Bool.and_eq_true, Bool.and_eq_true] at h'
  obtain ⟨h1, h2, h3⟩ := h'
  have e1 : Sp.numM c k s g t = (Sp.gd 13 (Sp.pN s) ((Sp.part s).length : Int)).1 := by
    show ite2 (Sp.isN c k s g t) (Sp.pM s) 0 = _
    rw [h1]
    show Sp.pM s = _
    unfold Sp.pM Sp.rM
    rw [if_pos h2, if_pos h3]
  have e2 : Sp.numP c k s g t = (Sp.gd 13 (Sp.pN s) ((Sp.part s).length : Int)).2 := by
    show ite2 (Sp.isN c k s g t) (Sp.pS s) 0 = _
    rw [h1]
    show Sp.pS s = _
    unfold Sp.pS Sp.rS
    rw [if_pos h2, if_pos h3]
  rw [e1, e2]
  have h4 := rOk_iff.1 h3
  exact decide_eq_true ⟨h4.2.1, h4.2.2, gd_nonneg _ _ _ (by omega), h4.1⟩
theorem num_lt {c : Bool} {k : Int} {s g t : ByteArray} (h : Sp.numB c k s g t = true) : fcmpB .neq .f64 (FloatKind.nearest .f64 (Sp.numM c k s g t)) 0 = neI (Sp.numM c k s g t) 0 := by
  have := of_decide_eq_true (show decide _ = true from num_ok h)
  exact fnz _ (by omega) (by omega)
theorem eqS_self (s : ByteArray) : eqS s s = true := by unfold eqS; rw [eqL_eq]; simp
theorem truth_h : Holds Tryd.prog (8, truthS true) := holds_of_K masks (s := [(18, truS true), (19, numS true), (20, plainS)]) (fun x h => by
    simp only [List.mem_cons, List.not_mem_nil, or_false] at h
    rcases h with rfl | rfl | rfl
    · exact tru_h
    · exact num_h
    · exact plain_h) none Tryd.func8 (by kernel_rfl) (c := code 8) (by kernel_rfl) (rs := res 8) (by kernel_rfl) (by kernel_rfl) fun args v hG => by
  obtain ⟨⟨k, s, g, t⟩, h1, h⟩ := ob_some hG
  obtain ⟨hp, rfl⟩ := Prod.mk.inj (Option.some.inj h)
  rw [t1_some h1]
  refine ⟨rfl, rfl, rfl, 0, (VK8 k s g t _ _).trans ?_⟩
  simp only [show Sp.short2 s = true from hp, ite2_true, eqI_self, eqS_self, Sp.trV, Sp.trO, Sp.tV]
  cases hb : Sp.isB true k s g t with
  | true => rfl
  | false =>
    cases hn : Sp.numB true k s g t with
    | true => rw [num_lt hn]; rfl
    | false => cases Sp.plain k g t <;> rfl
theorem rtruth_h : Holds Tryd.prog (9, truthS false) := holds_of_K masks (s := [(21, truS false), (22, numS false), (23, plainS)]) (fun x h => by
    simp only [List.mem_cons, List.not_mem_nil, or_false] at h
    rcases h with rfl | rfl | rfl
    · exact bool_h
    · exact rnum_h
    · exact rplain_h) none Tryd.func9 (by kernel_rfl) (c := code 9) (by kernel_rfl) (rs := res 9) (by kernel_rfl) (by kernel_rfl) fun args v hG => by
  obtain ⟨⟨k, s, g, t⟩, h1, h⟩ := ob_some hG
  obtain ⟨hp, rfl⟩ := Prod.mk.inj (Option.some.inj h)
  rw [t1_some h1]
  refine ⟨rfl, rfl, rfl, 0, (VK9 k s g t _ _).trans ?_⟩
  simp only [show Sp.short2 s = true from hp, ite2_true, Sp.trV, Sp.trO, Sp.tV]
  cases hb : Sp.isB false k s g t with
  | true => rfl
  | false =>
    cases hn : Sp.numB false k s g t with
    | true => rfl
    | false => cases Sp.plain k g t <;> rfl
theorem knownT_h : Holds Tryd.prog (26, knownTS) := holds_of_K masks (s := [(23, plainS), (21, truS false)]) (fun x h => by
    simp only [List.mem_cons, List.not_mem_nil, or_false] at h
    rcases h with rfl | rfl
    · exact rplain_h
    · exact bool_h) none Tryd.func26 (by kernel_rfl) (c := code 26) (by kernel_rfl) (rs := res 26) (by kernel_rfl) (by kernel_rfl) fun args v hG => by
  obtain ⟨⟨⟨k, s, g, t⟩, ⟨k2, s2, g2, t2⟩⟩, h1, h⟩ := ob_some hG
  obtain ⟨-, rfl⟩ := Prod.mk.inj (Option.some.inj h)
  rw [t2_some h1]
  refine ⟨rfl, rfl, rfl, 0, (VK26 k s g t k2 s2 g2 t2 _ _).trans ?_⟩
  simp only [Sp.kn, Sp.bothP, Sp.bothB]
  generalize Sp.isB false k s g t = a1
  generalize Sp.isB false k2 s2 g2 t2 = a2
  generalize Sp.plain k g t = p1
  generalize Sp.plain k2 g2 t2 = p2
  generalize neS g Sp.nil = g1
  generalize neS g2 Sp.nil = g3
  cases neI k 3 <;> cases neI k2 3 <;> cases p1 <;> cases p2 <;> cases g1 <;> cases g3 <;> cases a1 <;> rfl
theorem and4 (a b c d : Bool) : ite2 a (ite2 b (ite2 c (ite2 d true false) false) false) false = (a && (b && (c && d))) := by cases a <;> cases b <;> cases c <;> cases d <;> rfl
theorem less_h : Holds Tryd.prog (12, lessS true) := holds_of_K masks (s := [(18, truS true), (19, numS true), (20, plainS), (24, cmpS)]) (fun x h => by
    simp only [List.mem_cons, List.not_mem_nil, or_false] at h
    rcases h with rfl | rfl | rfl | rfl
    · exact tru_h
    · exact num_h
    · exact plain_h
    · exact cmp_h) none Tryd.func12 (by kernel_rfl) (c := code 12) (by kernel_rfl) (rs := res 12) (by kernel_rfl) (by kernel_rfl) fun args v hG => by
  obtain ⟨⟨⟨k, s, g, t⟩, ⟨k2, s2, g2, t2⟩⟩, h1, h⟩ := ob_some hG
  obtain ⟨hp, rfl⟩ := Prod.mk.inj (Option.some.inj h)
  rw [t2_some h1]
  rw [Bool.and_eq_true] at hp
  refine ⟨rfl, rfl, rfl, 0, (VK12 k s g t k2 s2 g2 t2 _ _).trans ?_⟩
  rw [ite2_pos hp.1, ite2_pos hp.2]
  simp only [Sp.leV, Sp.leO, Sp.bothN, Sp.bothP, Sp.bothB, Sp.cmpT]
  have o1 := @num_ok true k s g t
  have o2 := @num_ok true k2 s2 g2 t2
  generalize Sp.cmp _ _ = cc
  generalize Sp.ok (Sp.numM true k s g t) (Sp.numP true k s g t) = k1 at o1
  generalize Sp.ok (Sp.numM true k2 s2 g2 t2) (Sp.numP true k2 s2 g2 t2) = k3 at o2
  generalize Sp.numB true k s g t = n1 at o1
  generalize Sp.numB true k2 s2 g2 t2 = n2 at o2
  generalize Sp.isB true k s g t = a1
  generalize Sp.isB true k2 s2 g2 t2 = a2
  generalize Sp.plain k g t = p1
  generalize Sp.plain k2 g2 t2 = p2
  generalize Sp.tV true k s g t = v1
  generalize Sp.tV true k2 s2 g2 t2 = v2
  generalize ltS s s2 = ls
  cases n1
  · cases p1 <;> cases p2 <;> cases a1 <;> cases a2 <;> cases v1 <;> rfl
  · cases n2
    · cases p1 <;> cases p2 <;> cases a1 <;> cases a2 <;> cases v1 <;> rfl
    · rw [o1 rfl, o2 rfl]; rfl
theorem rless_h : Holds Tryd.prog (13, lessS false) := holds_of_K masks (s := [(21, truS false), (22, numS false), (23, plainS), (25, cmpS)]) (fun x h => by
    simp only [List.mem_cons, List.not_mem_nil, or_false] at h
    rcases h with rfl | rfl | rfl | rfl
    · exact bool_h
    · exact rnum_h
    · exact rplain_h
    · exact refcmp_h) none Tryd.func13 (by kernel_rfl) (c := code 13) (by kernel_rfl) (rs := res 13) (by kernel_rfl) (by kernel_rfl) fun args v hG => by
  obtain ⟨⟨⟨k, s, g, t⟩, ⟨k2, s2, g2, t2⟩⟩, h1, h⟩ := ob_some hG
  obtain ⟨hp, rfl⟩ := Prod.mk.inj (Option.some.inj h)
  rw [t2_some h1]
  rw [Bool.and_eq_true] at hp
  refine ⟨rfl, rfl, rfl, 0, (VK13 k s g t k2 s2 g2 t2 _ _).trans ?_⟩
  rw [ite2_pos hp.1, ite2_pos hp.2]
  simp only [Sp.leV, Sp.leO, Sp.bothN, Sp.bothP, Sp.bothB, Sp.cmpT]
  have o1 := @num_ok false k s g t
  have o2 := @num_ok false k2 s2 g2 t2
  generalize Sp.cmp _ _ = cc
  generalize Sp.ok (Sp.numM false k s g t) (Sp.numP false k s g t) = k1 at o1
  generalize Sp.ok (Sp.numM false k2 s2 g2 t2) (Sp.numP false k2 s2 g2 t2) = k3 at o2
  generalize Sp.numB false k s g t = n1 at o1
  generalize Sp.numB false k2 s2 g2 t2 = n2 at o2
  generalize Sp.isB false k s g t = a1
  generalize Sp.isB false k2 s2 g2 t2 = a2
  generalize Sp.plain k g t = p1
  generalize Sp.plain k2 g2 t2 = p2
  generalize Sp.tV false k s g t = v1
  generalize Sp.tV false k2 s2 g2 t2 = v2
  generalize ltS s s2 = ls
  cases n1
  · cases p1 <;> cases p2 <;> cases a1 <;> cases a2 <;> cases v1 <;> rfl
  · cases n2
    · cases p1 <;> cases p2 <;> cases a1 <;> cases a2 <;> cases v1 <;> rfl
    · rw [o1 rfl, o2 rfl]; rfl
theorem equal_h : Holds Tryd.prog (10, equalS true) := holds_of_K masks (s := [(18, truS true), (19, numS true), (20, plainS), (24, cmpS)]) (fun x h => by
    simp only [List.mem_cons, List.not_mem_nil, or_false] at h
    rcases h with rfl | rfl | rfl | rfl
    · exact tru_h
    · exact num_h
    · exact plain_h
    · exact cmp_h) none Tryd.func10 (by kernel_rfl) (c := code 10) (by kernel_rfl) (rs := res 10) (by kernel_rfl) (by kernel_rfl) fun args v hG => by
  obtain ⟨⟨⟨k, s, g, t⟩, ⟨k2, s2, g2, t2⟩⟩, h1, h⟩ := ob_some hG
  obtain ⟨hp, rfl⟩ := Prod.mk.inj (Option.some.inj h)
  rw [t2_some h1]
  rw [Bool.and_eq_true] at hp
  refine ⟨rfl, rfl, rfl, 0, (VK10 k s g t k2 s2 g2 t2 _ _).trans ?_⟩
  rw [ite2_pos hp.1, ite2_pos hp.2]
  simp only [and4, Sp.eqV', Sp.eqO, Sp.kn, Sp.bothN, Sp.bothP, Sp.bothB, Sp.cmpT, Sp.same]
  have o1 := @num_ok true k s g t
  have o2 := @num_ok true k2 s2 g2 t2
  generalize Sp.cmp _ _ = cc
  generalize Sp.ok (Sp.numM true k s g t) (Sp.numP true k s g t) = k1 at o1
  generalize Sp.ok (Sp.numM true k2 s2 g2 t2) (Sp.numP true k2 s2 g2 t2) = k3 at o2
  generalize Sp.numB true k s g t = n1 at o1
  generalize Sp.numB true k2 s2 g2 t2 = n2 at o2
  generalize Sp.isB true k s g t = a1
  generalize Sp.isB true k2 s2 g2 t2 = a2
  generalize Sp.plain k g t = p1
  generalize Sp.plain k2 g2 t2 = p2
  generalize (eqI k k2 && (eqS s s2 && (eqS g g2 && eqS t t2))) = sm
  generalize neS g Sp.nil = g1
  generalize neS g2 Sp.nil = g3
  generalize neI k 3 = q1
  generalize neI k2 3 = q2
  cases n1
  · cases sm <;> cases q1 <;> cases q2 <;> cases p1 <;> cases p2 <;> cases a1 <;> cases a2 <;> cases g1 <;> cases g3 <;> rfl
  · cases n2
    · cases sm <;> cases q1 <;> cases q2 <;> cases p1 <;> cases p2 <;> cases a1 <;> cases a2 <;> cases g1 <;> cases g3 <;> rfl
    · rw [o1 rfl, o2 rfl]; rfl
theorem requal_h : Holds Tryd.prog (11, equalS false) := holds_of_K masks (s := [(22, numS false), (26, knownTS), (25, cmpS)]) (fun x h => by
    simp only [List.mem_cons, List.not_mem_nil, or_false] at h
    rcases h with rfl | rfl | rfl
    · exact rnum_h
    · exact knownT_h
    · exact refcmp_h) none Tryd.func11 (by kernel_rfl) (c := code 11) (by kernel_rfl) (rs := res 11) (by kernel_rfl) (by kernel_rfl) fun args v hG => by
  obtain ⟨⟨⟨k, s, g, t⟩, ⟨k2, s2, g2, t2⟩⟩, h1, h⟩ := ob_some hG
  obtain ⟨hp, rfl⟩ := Prod.mk.inj (Option.some.inj h)
  rw [t2_some h1]
  rw [Bool.and_eq_true] at hp
  refine ⟨rfl, rfl, rfl, 0, (VK11 k s g t k2 s2 g2 t2 _ _).trans ?_⟩
  rw [ite2_pos hp.1, ite2_pos hp.2]
  simp only [and4, Sp.eqV', Sp.eqO, Sp.bothN, Sp.cmpT, Sp.same]
  have o1 := @num_ok false k s g t
  have o2 := @num_ok false k2 s2 g2 t2
  generalize Sp.cmp _ _ = cc
  generalize Sp.ok (Sp.numM false k s g t) (Sp.numP false k s g t) = k1 at o1
  generalize Sp.ok (Sp.numM false k2 s2 g2 t2) (Sp.numP false k2 s2 g2 t2) = k3 at o2
  generalize Sp.numB false k s g t = n1 at o1
  generalize Sp.numB false k2 s2 g2 t2 = n2 at o2
  generalize Sp.kn false (k, s, g, t) (k2, s2, g2, t2) = q1
  generalize (eqI k k2 && (eqS s s2 && (eqS g g2 && eqS t t2))) = sm
  cases n1
  · cases sm <;> cases q1 <;> rfl
  · cases n2
    · cases sm <;> cases q1 <;> rfl
    · rw [o1 rfl, o2 rfl]; rfl

end
end Go.Proofs.YtnoppcnfdnkhbaaDoor
