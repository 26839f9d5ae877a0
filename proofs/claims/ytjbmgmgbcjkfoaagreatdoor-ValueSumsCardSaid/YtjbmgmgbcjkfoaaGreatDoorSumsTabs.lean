/- Tables of what the functions that reckon answer: terms, the numbers that they are, sums, products, how they are printed. -/
import Derived.Test.YtjbmgmgbcjkfoaaGreatDoorSumsBase
namespace Go.Proofs.YtjbmgmgbcjkfoaaGreatDoor
open Go.RowKit Go.Am
set_option maxRecDepth 100000
def xNo : Value := .string ⟨⟨[]⟩⟩
def xInt : Value := .string ⟨⟨[104, 116, 116, 112, 58, 47, 47, 119, 119, 119, 46, 119, 51, 46, 111, 114, 103, 47, 50, 48, 48, 49, 47, 88, 77, 76, 83, 99, 104, 101, 109, 97, 35, 105, 110, 116, 101, 103, 101, 114]⟩⟩
def xDec : Value := .string ⟨⟨[104, 116, 116, 112, 58, 47, 47, 119, 119, 119, 46, 119, 51, 46, 111, 114, 103, 47, 50, 48, 48, 49, 47, 88, 77, 76, 83, 99, 104, 101, 109, 97, 35, 100, 101, 99, 105, 109, 97, 108]⟩⟩
def xBool : Value := .string ⟨⟨[104, 116, 116, 112, 58, 47, 47, 119, 119, 119, 46, 119, 51, 46, 111, 114, 103, 47, 50, 48, 48, 49, 47, 88, 77, 76, 83, 99, 104, 101, 109, 97, 35, 98, 111, 111, 108, 101, 97, 110]⟩⟩
noncomputable def terms : List Value := [.agg ⟨[.int .i64 3, .string ⟨⟨[48]⟩⟩, xNo, xInt]⟩, .agg ⟨[.int .i64 3, .string ⟨⟨[49]⟩⟩, xNo, xInt]⟩, .agg ⟨[.int .i64 3, .string ⟨⟨[45, 55]⟩⟩, xNo, xInt]⟩, .agg ⟨[.int .i64 3, .string ⟨⟨[48, 48, 55]⟩⟩, xNo, xInt]⟩, .agg ⟨[.int .i64 3, .string ⟨⟨[49, 46, 48]⟩⟩, xNo, xDec]⟩, .agg ⟨[.int .i64 3, .string ⟨⟨[50, 46, 53, 48]⟩⟩, xNo, xDec]⟩, .agg ⟨[.int .i64 3, .string ⟨⟨[57, 57, 57, 57, 57, 57, 57, 57, 57, 57, 57, 57, 57, 57, 57]⟩⟩, xNo, xInt]⟩, .agg ⟨[.int .i64 3, .string ⟨⟨[120]⟩⟩, xNo, xInt]⟩, .agg ⟨[.int .i64 3, .string ⟨⟨[49, 46, 53]⟩⟩, xNo, xInt]⟩, .agg ⟨[.int .i64 3, .string ⟨⟨[97]⟩⟩, xNo, xNo]⟩, .agg ⟨[.int .i64 3, .string ⟨⟨[97, 98]⟩⟩, xNo, xNo]⟩, .agg ⟨[.int .i64 3, xNo, xNo, xNo]⟩, .agg ⟨[.int .i64 3, .string ⟨⟨[97]⟩⟩, .string ⟨⟨[101, 110]⟩⟩, xNo]⟩, .agg ⟨[.int .i64 3, .string ⟨⟨[97]⟩⟩, .string ⟨⟨[100, 101]⟩⟩, xNo]⟩, .agg ⟨[.int .i64 3, .string ⟨⟨[116, 114, 117, 101]⟩⟩, xNo, xBool]⟩, .agg ⟨[.int .i64 3, .string ⟨⟨[102, 97, 108, 115, 101]⟩⟩, xNo, xBool]⟩, .agg ⟨[.int .i64 3, .string ⟨⟨[109, 97, 121, 98, 101]⟩⟩, xNo, xBool]⟩, .agg ⟨[.int .i64 3, .string ⟨⟨[97]⟩⟩, xNo, .string ⟨⟨[116, 58, 116]⟩⟩]⟩, .agg ⟨[.int .i64 3, .string ⟨⟨[98]⟩⟩, xNo, .string ⟨⟨[116, 58, 116]⟩⟩]⟩, .agg ⟨[.int .i64 1, .string ⟨⟨[97]⟩⟩, xNo, xNo]⟩, .agg ⟨[.int .i64 1, .string ⟨⟨[98]⟩⟩, xNo, xNo]⟩, .agg ⟨[.int .i64 2, .string ⟨⟨[97]⟩⟩, xNo, xNo]⟩, .agg ⟨[.int .i64 3, .string ⟨⟨[48, 46, 48, 48, 48, 48, 48, 49]⟩⟩, xNo, xDec]⟩, .agg ⟨[.int .i64 3, .string ⟨⟨[45, 48]⟩⟩, xNo, xInt]⟩]
noncomputable def term (x : Nat) : Value := op2 (terms[x]?) undef fun v => v
noncomputable def termIs (x : Nat) : Bool := flat2 (term x) && answers (term x) (run Tryz.prog (picks [⟨0, 24, x⟩]) 1000 11 (ghosts Tryz.prog 1) (mem0 Tryz.prog 1))
theorem terms_are : (List.range 24).all termIs = true := by kernel_rfl
theorem term_says {n : Int} {x : Nat} (hx : x < 24) (h : n % (24 : Int) = (x : Int)) : flat2 (term x) = true ∧ Says Tryz.prog 11 #[.int .i64 n] (term x) := by
  have ht : termIs x = true := List.all_eq_true.1 terms_are x (List.mem_range.2 hx)
  unfold termIs at ht
  rw [Bool.and_eq_true] at ht
  refine ⟨ht.1, says_of_ghosts (vs := [.int .i64 n]) (fun w d => picks_ok (l := [⟨0, 24, x⟩]) ?_ _ _ _) rfl Tryz.func11 (by kernel_rfl) (by kernel_rfl) ht.1 ht.2⟩
  intro q hq
  rw [List.mem_singleton.1 hq]
  exact ⟨n, rfl, h⟩
noncomputable def numT : List (List Value × Value) := [([.agg ⟨[.int .i64 3, .string ⟨⟨[48]⟩⟩, xNo, xInt]⟩], .tuple ⟨[.agg ⟨[.int .i64 (.ofNat 0), .int .i64 (.ofNat 0)]⟩, .bool true]⟩), ([.agg ⟨[.int .i64 3, .string ⟨⟨[49]⟩⟩, xNo, xInt]⟩], .tuple ⟨[.agg ⟨[.int .i64 (.ofNat 1), .int .i64 (.ofNat 0)]⟩, .bool true]⟩), ([.agg ⟨[.int .i64 3, .string ⟨⟨[45, 55]⟩⟩, xNo, xInt]⟩], .tuple ⟨[.agg ⟨[.int .i64 (.negSucc 6), .int .i64 (.ofNat 0)]⟩, .bool true]⟩), ([.agg ⟨[.int .i64 3, .string ⟨⟨[48, 48, 55]⟩⟩, xNo, xInt]⟩], .tuple ⟨[.agg ⟨[.int .i64 (.ofNat 7), .int .i64 (.ofNat 0)]⟩, .bool true]⟩), ([.agg ⟨[.int .i64 3, .string ⟨⟨[49, 46, 48]⟩⟩, xNo, xDec]⟩], .tuple ⟨[.agg ⟨[.int .i64 (.ofNat 1), .int .i64 (.ofNat 0)]⟩, .bool true]⟩), ([.agg ⟨[.int .i64 3, .string ⟨⟨[50, 46, 53, 48]⟩⟩, xNo, xDec]⟩], .tuple ⟨[.agg ⟨[.int .i64 (.ofNat 25), .int .i64 (.ofNat 1)]⟩, .bool true]⟩), ([.agg ⟨[.int .i64 3, .string ⟨⟨[57, 57, 57, 57, 57, 57, 57, 57, 57, 57, 57, 57, 57, 57, 57]⟩⟩, xNo, xInt]⟩], .tuple ⟨[.agg ⟨[.int .i64 (.ofNat 999999999999999), .int .i64 (.ofNat 0)]⟩, .bool true]⟩), ([.agg ⟨[.int .i64 3, .string ⟨⟨[120]⟩⟩, xNo, xInt]⟩], .tuple ⟨[.agg ⟨[.int .i64 (.ofNat 0), .int .i64 (.ofNat 0)]⟩, .bool false]⟩), ([.agg ⟨[.int .i64 3, .string ⟨⟨[49, 46, 53]⟩⟩, xNo, xInt]⟩], .tuple ⟨[.agg ⟨[.int .i64 (.ofNat 0), .int .i64 (.ofNat 0)]⟩, .bool false]⟩), ([.agg ⟨[.int .i64 3, .string ⟨⟨[97]⟩⟩, xNo, xNo]⟩], .tuple ⟨[.agg ⟨[.int .i64 (.ofNat 0), .int .i64 (.ofNat 0)]⟩, .bool false]⟩), ([.agg ⟨[.int .i64 3, .string ⟨⟨[97, 98]⟩⟩, xNo, xNo]⟩], .tuple ⟨[.agg ⟨[.int .i64 (.ofNat 0), .int .i64 (.ofNat 0)]⟩, .bool false]⟩), ([.agg ⟨[.int .i64 3, xNo, xNo, xNo]⟩], .tuple ⟨[.agg ⟨[.int .i64 (.ofNat 0), .int .i64 (.ofNat 0)]⟩, .bool false]⟩), ([.agg ⟨[.int .i64 3, .string ⟨⟨[97]⟩⟩, .string ⟨⟨[101, 110]⟩⟩, xNo]⟩], .tuple ⟨[.agg ⟨[.int .i64 (.ofNat 0), .int .i64 (.ofNat 0)]⟩, .bool false]⟩), ([.agg ⟨[.int .i64 3, .string ⟨⟨[97]⟩⟩, .string ⟨⟨[100, 101]⟩⟩, xNo]⟩], .tuple ⟨[.agg ⟨[.int .i64 (.ofNat 0), .int .i64 (.ofNat 0)]⟩, .bool false]⟩), ([.agg ⟨[.int .i64 3, .string ⟨⟨[116, 114, 117, 101]⟩⟩, xNo, xBool]⟩], .tuple ⟨[.agg ⟨[.int .i64 (.ofNat 0), .int .i64 (.ofNat 0)]⟩, .bool false]⟩), ([.agg ⟨[.int .i64 3, .string ⟨⟨[102, 97, 108, 115, 101]⟩⟩, xNo, xBool]⟩], .tuple ⟨[.agg ⟨[.int .i64 (.ofNat 0), .int .i64 (.ofNat 0)]⟩, .bool false]⟩), ([.agg ⟨[.int .i64 3, .string ⟨⟨[109, 97, 121, 98, 101]⟩⟩, xNo, xBool]⟩], .tuple ⟨[.agg ⟨[.int .i64 (.ofNat 0), .int .i64 (.ofNat 0)]⟩, .bool false]⟩), ([.agg ⟨[.int .i64 3, .string ⟨⟨[97]⟩⟩, xNo, .string ⟨⟨[116, 58, 116]⟩⟩]⟩], .tuple ⟨[.agg ⟨[.int .i64 (.ofNat 0), .int .i64 (.ofNat 0)]⟩, .bool false]⟩), ([.agg ⟨[.int .i64 3, .string ⟨⟨[98]⟩⟩, xNo, .string ⟨⟨[116, 58, 116]⟩⟩]⟩], .tuple ⟨[.agg ⟨[.int .i64 (.ofNat 0), .int .i64 (.ofNat 0)]⟩, .bool false]⟩), ([.agg ⟨[.int .i64 1, .string ⟨⟨[97]⟩⟩, xNo, xNo]⟩], .tuple ⟨[.agg ⟨[.int .i64 (.ofNat 0), .int .i64 (.ofNat 0)]⟩, .bool false]⟩), ([.agg ⟨[.int .i64 1, .string ⟨⟨[98]⟩⟩, xNo, xNo]⟩], .tuple ⟨[.agg ⟨[.int .i64 (.ofNat 0), .int .i64 (.ofNat 0)]⟩, .bool false]⟩), ([.agg ⟨[.int .i64 2, .string ⟨⟨[97]⟩⟩, xNo, xNo]⟩], .tuple ⟨[.agg ⟨[.int .i64 (.ofNat 0), .int .i64 (.ofNat 0)]⟩, .bool false]⟩), ([.agg ⟨[.int .i64 3, .string ⟨⟨[48, 46, 48, 48, 48, 48, 48, 49]⟩⟩, xNo, xDec]⟩], .tuple ⟨[.agg ⟨[.int .i64 (.ofNat 1), .int .i64 (.ofNat 6)]⟩, .bool true]⟩), ([.agg ⟨[.int .i64 3, .string ⟨⟨[45, 48]⟩⟩, xNo, xInt]⟩], .tuple ⟨[.agg ⟨[.int .i64 (.ofNat 0), .int .i64 (.ofNat 0)]⟩, .bool true]⟩)]
noncomputable def addT : List (List Value × Value) := [([.agg ⟨[.int .i64 (.ofNat 0), .int .i64 (.ofNat 0)]⟩, .agg ⟨[.int .i64 (.ofNat 0), .int .i64 (.ofNat 0)]⟩], .tuple ⟨[.agg ⟨[.int .i64 (.ofNat 0), .int .i64 (.ofNat 0)]⟩, .bool true]⟩), ([.agg ⟨[.int .i64 (.ofNat 0), .int .i64 (.ofNat 0)]⟩, .agg ⟨[.int .i64 (.ofNat 1), .int .i64 (.ofNat 0)]⟩], .tuple ⟨[.agg ⟨[.int .i64 (.ofNat 1), .int .i64 (.ofNat 0)]⟩, .bool true]⟩), ([.agg ⟨[.int .i64 (.ofNat 0), .int .i64 (.ofNat 0)]⟩, .agg ⟨[.int .i64 (.negSucc 6), .int .i64 (.ofNat 0)]⟩], .tuple ⟨[.agg ⟨[.int .i64 (.negSucc 6), .int .i64 (.ofNat 0)]⟩, .bool true]⟩), ([.agg ⟨[.int .i64 (.ofNat 0), .int .i64 (.ofNat 0)]⟩, .agg ⟨[.int .i64 (.ofNat 7), .int .i64 (.ofNat 0)]⟩], .tuple ⟨[.agg ⟨[.int .i64 (.ofNat 7), .int .i64 (.ofNat 0)]⟩, .bool true]⟩), ([.agg ⟨[.int .i64 (.ofNat 0), .int .i64 (.ofNat 0)]⟩, .agg ⟨[.int .i64 (.ofNat 25), .int .i64 (.ofNat 1)]⟩], .tuple ⟨[.agg ⟨[.int .i64 (.ofNat 25), .int .i64 (.ofNat 1)]⟩, .bool true]⟩), ([.agg ⟨[.int .i64 (.ofNat 0), .int .i64 (.ofNat 0)]⟩, .agg ⟨[.int .i64 (.ofNat 999999999999999), .int .i64 (.ofNat 0)]⟩], .tuple ⟨[.agg ⟨[.int .i64 (.ofNat 999999999999999), .int .i64 (.ofNat 0)]⟩, .bool true]⟩), ([.agg ⟨[.int .i64 (.ofNat 0), .int .i64 (.ofNat 0)]⟩, .agg ⟨[.int .i64 (.ofNat 1), .int .i64 (.ofNat 6)]⟩], .tuple ⟨[.agg ⟨[.int .i64 (.ofNat 1), .int .i64 (.ofNat 6)]⟩, .bool true]⟩), ([.agg ⟨[.int .i64 (.ofNat 0), .int .i64 (.ofNat 0)]⟩, .agg ⟨[.int .i64 (.negSucc 0), .int .i64 (.ofNat 0)]⟩], .tuple ⟨[.agg ⟨[.int .i64 (.negSucc 0), .int .i64 (.ofNat 0)]⟩, .bool true]⟩), ([.agg ⟨[.int .i64 (.ofNat 0), .int .i64 (.ofNat 0)]⟩, .agg ⟨[.int .i64 (.negSucc 24), .int .i64 (.ofNat 1)]⟩], .tuple ⟨[.agg ⟨[.int .i64 (.negSucc 24), .int .i64 (.ofNat 1)]⟩, .bool true]⟩), ([.agg ⟨[.int .i64 (.ofNat 0), .int .i64 (.ofNat 0)]⟩, .agg ⟨[.int .i64 (.negSucc 999999999999998), .int .i64 (.ofNat 0)]⟩], .tuple ⟨[.agg ⟨[.int .i64 (.negSucc 999999999999998), .int .i64 (.ofNat 0)]⟩, .bool true]⟩), ([.agg ⟨[.int .i64 (.ofNat 0), .int .i64 (.ofNat 0)]⟩, .agg ⟨[.int .i64 (.negSucc 0), .int .i64 (.ofNat 6)]⟩], .tuple ⟨[.agg ⟨[.int .i64 (.negSucc 0), .int .i64 (.ofNat 6)]⟩, .bool true]⟩), ([.agg ⟨[.int .i64 (.ofNat 1), .int .i64 (.ofNat 0)]⟩, .agg ⟨[.int .i64 (.ofNat 0), .int .i64 (.ofNat 0)]⟩], .tuple ⟨[.agg ⟨[.int .i64 (.ofNat 1), .int .i64 (.ofNat 0)]⟩, .bool true]⟩), ([.agg ⟨[.int .i64 (.ofNat 1), .int .i64 (.ofNat 0)]⟩, .agg ⟨[.int .i64 (.ofNat 1), .int .i64 (.ofNat 0)]⟩], .tuple ⟨[.agg ⟨[.int .i64 (.ofNat 2), .int .i64 (.ofNat 0)]⟩, .bool true]⟩), ([.agg ⟨[.int .i64 (.ofNat 1), .int .i64 (.ofNat 0)]⟩, .agg ⟨[.int .i64 (.negSucc 6), .int .i64 (.ofNat 0)]⟩], .tuple ⟨[.agg ⟨[.int .i64 (.negSucc 5), .int .i64 (.ofNat 0)]⟩, .bool true]⟩), ([.agg ⟨[.int .i64 (.ofNat 1), .int .i64 (.ofNat 0)]⟩, .agg ⟨[.int .i64 (.ofNat 7), .int .i64 (.ofNat 0)]⟩], .tuple ⟨[.agg ⟨[.int .i64 (.ofNat 8), .int .i64 (.ofNat 0)]⟩, .bool true]⟩), ([.agg ⟨[.int .i64 (.ofNat 1), .int .i64 (.ofNat 0)]⟩, .agg ⟨[.int .i64 (.ofNat 25), .int .i64 (.ofNat 1)]⟩], .tuple ⟨[.agg ⟨[.int .i64 (.ofNat 35), .int .i64 (.ofNat 1)]⟩, .bool true]⟩), ([.agg ⟨[.int .i64 (.ofNat 1), .int .i64 (.ofNat 0)]⟩, .agg ⟨[.int .i64 (.ofNat 999999999999999), .int .i64 (.ofNat 0)]⟩], .tuple ⟨[.agg ⟨[.int .i64 (.ofNat 0), .int .i64 (.ofNat 0)]⟩, .bool false]⟩), ([.agg ⟨[.int .i64 (.ofNat 1), .int .i64 (.ofNat 0)]⟩, .agg ⟨[.int .i64 (.ofNat 1), .int .i64 (.ofNat 6)]⟩], .tuple ⟨[.agg ⟨[.int .i64 (.ofNat 1000001), .int .i64 (.ofNat 6)]⟩, .bool true]⟩), ([.agg ⟨[.int .i64 (.ofNat 1), .int .i64 (.ofNat 0)]⟩, .agg ⟨[.int .i64 (.negSucc 0), .int .i64 (.ofNat 0)]⟩], .tuple ⟨[.agg ⟨[.int .i64 (.ofNat 0), .int .i64 (.ofNat 0)]⟩, .bool true]⟩), ([.agg ⟨[.int .i64 (.ofNat 1), .int .i64 (.ofNat 0)]⟩, .agg ⟨[.int .i64 (.negSucc 24), .int .i64 (.ofNat 1)]⟩], .tuple ⟨[.agg ⟨[.int .i64 (.negSucc 14), .int .i64 (.ofNat 1)]⟩, .bool true]⟩), ([.agg ⟨[.int .i64 (.ofNat 1), .int .i64 (.ofNat 0)]⟩, .agg ⟨[.int .i64 (.negSucc 999999999999998), .int .i64 (.ofNat 0)]⟩], .tuple ⟨[.agg ⟨[.int .i64 (.negSucc 999999999999997), .int .i64 (.ofNat 0)]⟩, .bool true]⟩), ([.agg ⟨[.int .i64 (.ofNat 1), .int .i64 (.ofNat 0)]⟩, .agg ⟨[.int .i64 (.negSucc 0), .int .i64 (.ofNat 6)]⟩], .tuple ⟨[.agg ⟨[.int .i64 (.ofNat 999999), .int .i64 (.ofNat 6)]⟩, .bool true]⟩), ([.agg ⟨[.int .i64 (.negSucc 6), .int .i64 (.ofNat 0)]⟩, .agg ⟨[.int .i64 (.ofNat 0), .int .i64 (.ofNat 0)]⟩], .tuple ⟨[.agg ⟨[.int .i64 (.negSucc 6), .int .i64 (.ofNat 0)]⟩, .bool true]⟩), ([.agg ⟨[.int .i64 (.negSucc 6), .int .i64 (.ofNat 0)]⟩, .agg ⟨[.int .i64 (.ofNat 1), .int .i64 (.ofNat 0)]⟩], .tuple ⟨[.agg ⟨[.int .i64 (.negSucc 5), .int .i64 (.ofNat 0)]⟩, .bool true]⟩), ([.agg ⟨[.int .i64 (.negSucc 6), .int .i64 (.ofNat 0)]⟩, .agg ⟨[.int .i64 (.negSucc 6), .int .i64 (.ofNat 0)]⟩], .tuple ⟨[.agg ⟨[.int .i64 (.negSucc 13), .int .i64 (.ofNat 0)]⟩, .bool true]⟩), ([.agg ⟨[.int .i64 (.negSucc 6), .int .i64 (.ofNat 0)]⟩, .agg ⟨[.int .i64 (.ofNat 7), .int .i64 (.ofNat 0)]⟩], .tuple ⟨[.agg ⟨[.int .i64 (.ofNat 0), .int .i64 (.ofNat 0)]⟩, .bool true]⟩), ([.agg ⟨[.int .i64 (.negSucc 6), .int .i64 (.ofNat 0)]⟩, .agg ⟨[.int .i64 (.ofNat 25), .int .i64 (.ofNat 1)]⟩], .tuple ⟨[.agg ⟨[.int .i64 (.negSucc 44), .int .i64 (.ofNat 1)]⟩, .bool true]⟩), ([.agg ⟨[.int .i64 (.negSucc 6), .int .i64 (.ofNat 0)]⟩, .agg ⟨[.int .i64 (.ofNat 999999999999999), .int .i64 (.ofNat 0)]⟩], .tuple ⟨[.agg ⟨[.int .i64 (.ofNat 999999999999992), .int .i64 (.ofNat 0)]⟩, .bool true]⟩), ([.agg ⟨[.int .i64 (.negSucc 6), .int .i64 (.ofNat 0)]⟩, .agg ⟨[.int .i64 (.ofNat 1), .int .i64 (.ofNat 6)]⟩], .tuple ⟨[.agg ⟨[.int .i64 (.negSucc 6999998), .int .i64 (.ofNat 6)]⟩, .bool true]⟩), ([.agg ⟨[.int .i64 (.negSucc 6), .int .i64 (.ofNat 0)]⟩, .agg ⟨[.int .i64 (.negSucc 0), .int .i64 (.ofNat 0)]⟩], .tuple ⟨[.agg ⟨[.int .i64 (.negSucc 7), .int .i64 (.ofNat 0)]⟩, .bool true]⟩), ([.agg ⟨[.int .i64 (.negSucc 6), .int .i64 (.ofNat 0)]⟩, .agg ⟨[.int .i64 (.negSucc 24), .int .i64 (.ofNat 1)]⟩], .tuple ⟨[.agg ⟨[.int .i64 (.negSucc 94), .int .i64 (.ofNat 1)]⟩, .bool true]⟩), ([.agg ⟨[.int .i64 (.negSucc 6), .int .i64 (.ofNat 0)]⟩, .agg ⟨[.int .i64 (.negSucc 999999999999998), .int .i64 (.ofNat 0)]⟩], .tuple ⟨[.agg ⟨[.int .i64 (.ofNat 0), .int .i64 (.ofNat 0)]⟩, .bool false]⟩), ([.agg ⟨[.int .i64 (.negSucc 6), .int .i64 (.ofNat 0)]⟩, .agg ⟨[.int .i64 (.negSucc 0), .int .i64 (.ofNat 6)]⟩], .tuple ⟨[.agg ⟨[.int .i64 (.negSucc 7000000), .int .i64 (.ofNat 6)]⟩, .bool true]⟩), ([.agg ⟨[.int .i64 (.ofNat 7), .int .i64 (.ofNat 0)]⟩, .agg ⟨[.int .i64 (.ofNat 0), .int .i64 (.ofNat 0)]⟩], .tuple ⟨[.agg ⟨[.int .i64 (.ofNat 7), .int .i64 (.ofNat 0)]⟩, .bool true]⟩), ([.agg ⟨[.int .i64 (.ofNat 7), .int .i64 (.ofNat 0)]⟩, .agg ⟨[.int .i64 (.ofNat 1), .int .i64 (.ofNat 0)]⟩], .tuple ⟨[.agg ⟨[.int .i64 (.ofNat 8), .int .i64 (.ofNat 0)]⟩, .bool true]⟩), ([.agg ⟨[.int .i64 (.ofNat 7), .int .i64 (.ofNat 0)]⟩, .agg ⟨[.int .i64 (.negSucc 6), .int .i64 (.ofNat 0)]⟩], .tuple ⟨[.agg ⟨[.int .i64 (.ofNat 0), .int .i64 (.ofNat 0)]⟩, .bool true]⟩), ([.agg ⟨[.int .i64 (.ofNat 7), .int .i64 (.ofNat 0)]⟩, .agg ⟨[.int .i64 (.ofNat 7), .int .i64 (.ofNat 0)]⟩], .tuple ⟨[.agg ⟨[.int .i64 (.ofNat 14), .int .i64 (.ofNat 0)]⟩, .bool true]⟩), ([.agg ⟨[.int .i64 (.ofNat 7), .int .i64 (.ofNat 0)]⟩, .agg ⟨[.int .i64 (.ofNat 25), .int .i64 (.ofNat 1)]⟩], .tuple ⟨[.agg ⟨[.int .i64 (.ofNat 95), .int .i64 (.ofNat 1)]⟩, .bool true]⟩), ([.agg ⟨[.int .i64 (.ofNat 7), .int .i64 (.ofNat 0)]⟩, .agg ⟨[.int .i64 (.ofNat 999999999999999), .int .i64 (.ofNat 0)]⟩], .tuple ⟨[.agg ⟨[.int .i64 (.ofNat 0), .int .i64 (.ofNat 0)]⟩, .bool false]⟩), ([.agg ⟨[.int .i64 (.ofNat 7), .int .i64 (.ofNat 0)]⟩, .agg ⟨[.int .i64 (.ofNat 1), .int .i64 (.ofNat 6)]⟩], .tuple ⟨[.agg ⟨[.int .i64 (.ofNat 7000001), .int .i64 (.ofNat 6)]⟩, .bool true]⟩), ([.agg ⟨[.int .i64 (.ofNat 7), .int .i64 (.ofNat 0)]⟩, .agg ⟨[.int .i64 (.negSucc 0), .int .i64 (.ofNat 0)]⟩], .tuple ⟨[.agg ⟨[.int .i64 (.ofNat 6), .int .i64 (.ofNat 0)]⟩, .bool true]⟩), ([.agg ⟨[.int .i64 (.ofNat 7), .int .i64 (.ofNat 0)]⟩, .agg ⟨[.int .i64 (.negSucc 24), .int .i64 (.ofNat 1)]⟩], .tuple ⟨[.agg ⟨[.int .i64 (.ofNat 45), .int .i64 (.ofNat 1)]⟩, .bool true]⟩), ([.agg ⟨[.int .i64 (.ofNat 7), .int .i64 (.ofNat 0)]⟩, .agg ⟨[.int .i64 (.negSucc 999999999999998), .int .i64 (.ofNat 0)]⟩], .tuple ⟨[.agg ⟨[.int .i64 (.negSucc 999999999999991), .int .i64 (.ofNat 0)]⟩, .bool true]⟩), ([.agg ⟨[.int .i64 (.ofNat 7), .int .i64 (.ofNat 0)]⟩, .agg ⟨[.int .i64 (.negSucc 0), .int .i64 (.ofNat 6)]⟩], .tuple ⟨[.agg ⟨[.int .i64 (.ofNat 6999999), .int .i64 (.ofNat 6)]⟩, .bool true]⟩), ([.agg ⟨[.int .i64 (.ofNat 25), .int .i64 (.ofNat 1)]⟩, .agg ⟨[.int .i64 (.ofNat 0), .int .i64 (.ofNat 0)]⟩], .tuple ⟨[.agg ⟨[.int .i64 (.ofNat 25), .int .i64 (.ofNat 1)]⟩, .bool true]⟩), ([.agg ⟨[.int .i64 (.ofNat 25), .int .i64 (.ofNat 1)]⟩, .agg ⟨[.int .i64 (.ofNat 1), .int .i64 (.ofNat 0)]⟩], .tuple ⟨[.agg ⟨[.int .i64 (.ofNat 35), .int .i64 (.ofNat 1)]⟩, .bool true]⟩), ([.agg ⟨[.int .i64 (.ofNat 25), .int .i64 (.ofNat 1)]⟩, .agg ⟨[.int .i64 (.negSucc 6), .int .i64 (.ofNat 0)]⟩], .tuple ⟨[.agg ⟨[.int .i64 (.negSucc 44), .int .i64 (.ofNat 1)]⟩, .bool true]⟩), ([.agg ⟨[.int .i64 (.ofNat 25), .int .i64 (.ofNat 1)]⟩, .agg ⟨[.int .i64 (.ofNat 7), .int .i64 (.ofNat 0)]⟩], .tuple ⟨[.agg ⟨[.int .i64 (.ofNat 95), .int .i64 (.ofNat 1)]⟩, .bool true]⟩), ([.agg ⟨[.int .i64 (.ofNat 25), .int .i64 (.ofNat 1)]⟩, .agg ⟨[.int .i64 (.ofNat 25), .int .i64 (.ofNat 1)]⟩], .tuple ⟨[.agg ⟨[.int .i64 (.ofNat 5), .int .i64 (.ofNat 0)]⟩, .bool true]⟩), ([.agg ⟨[.int .i64 (.ofNat 25), .int .i64 (.ofNat 1)]⟩, .agg ⟨[.int .i64 (.ofNat 999999999999999), .int .i64 (.ofNat 0)]⟩], .tuple ⟨[.agg ⟨[.int .i64 (.ofNat 0), .int .i64 (.ofNat 0)]⟩, .bool false]⟩), ([.agg ⟨[.int .i64 (.ofNat 25), .int .i64 (.ofNat 1)]⟩, .agg ⟨[.int .i64 (.ofNat 1), .int .i64 (.ofNat 6)]⟩], .tuple ⟨[.agg ⟨[.int .i64 (.ofNat 2500001), .int .i64 (.ofNat 6)]⟩, .bool true]⟩), ([.agg ⟨[.int .i64 (.ofNat 25), .int .i64 (.ofNat 1)]⟩, .agg ⟨[.int .i64 (.negSucc 0), .int .i64 (.ofNat 0)]⟩], .tuple ⟨[.agg ⟨[.int .i64 (.ofNat 15), .int .i64 (.ofNat 1)]⟩, .bool true]⟩), ([.agg ⟨[.int .i64 (.ofNat 25), .int .i64 (.ofNat 1)]⟩, .agg ⟨[.int .i64 (.negSucc 24), .int .i64 (.ofNat 1)]⟩], .tuple ⟨[.agg ⟨[.int .i64 (.ofNat 0), .int .i64 (.ofNat 0)]⟩, .bool true]⟩), ([.agg ⟨[.int .i64 (.ofNat 25), .int .i64 (.ofNat 1)]⟩, .agg ⟨[.int .i64 (.negSucc 999999999999998), .int .i64 (.ofNat 0)]⟩], .tuple ⟨[.agg ⟨[.int .i64 (.ofNat 0), .int .i64 (.ofNat 0)]⟩, .bool false]⟩), ([.agg ⟨[.int .i64 (.ofNat 25), .int .i64 (.ofNat 1)]⟩, .agg ⟨[.int .i64 (.negSucc 0), .int .i64 (.ofNat 6)]⟩], .tuple ⟨[.agg ⟨[.int .i64 (.ofNat 2499999), .int .i64 (.ofNat 6)]⟩, .bool true]⟩), ([.agg ⟨[.int .i64 (.ofNat 999999999999999), .int .i64 (.ofNat 0)]⟩, .agg ⟨[.int .i64 (.ofNat 0), .int .i64 (.ofNat 0)]⟩], .tuple ⟨[.agg ⟨[.int .i64 (.ofNat 999999999999999), .int .i64 (.ofNat 0)]⟩, .bool true]⟩), ([.agg ⟨[.int .i64 (.ofNat 999999999999999), .int .i64 (.ofNat 0)]⟩, .agg ⟨[.int .i64 (.ofNat 1), .int .i64 (.ofNat 0)]⟩], .tuple ⟨[.agg ⟨[.int .i64 (.ofNat 0), .int .i64 (.ofNat 0)]⟩, .bool false]⟩), ([.agg ⟨[.int .i64 (.ofNat 999999999999999), .int .i64 (.ofNat 0)]⟩, .agg ⟨[.int .i64 (.negSucc 6), .int .i64 (.ofNat 0)]⟩], .tuple ⟨[.agg ⟨[.int .i64 (.ofNat 999999999999992), .int .i64 (.ofNat 0)]⟩, .bool true]⟩), ([.agg ⟨[.int .i64 (.ofNat 999999999999999), .int .i64 (.ofNat 0)]⟩, .agg ⟨[.int .i64 (.ofNat 7), .int .i64 (.ofNat 0)]⟩], .tuple ⟨[.agg ⟨[.int .i64 (.ofNat 0), .int .i64 (.ofNat 0)]⟩, .bool false]⟩), ([.agg ⟨[.int .i64 (.ofNat 999999999999999), .int .i64 (.ofNat 0)]⟩, .agg ⟨[.int .i64 (.ofNat 25), .int .i64 (.ofNat 1)]⟩], .tuple ⟨[.agg ⟨[.int .i64 (.ofNat 0), .int .i64 (.ofNat 0)]⟩, .bool false]⟩), ([.agg ⟨[.int .i64 (.ofNat 999999999999999), .int .i64 (.ofNat 0)]⟩, .agg ⟨[.int .i64 (.ofNat 999999999999999), .int .i64 (.ofNat 0)]⟩], .tuple ⟨[.agg ⟨[.int .i64 (.ofNat 0), .int .i64 (.ofNat 0)]⟩, .bool false]⟩), ([.agg ⟨[.int .i64 (.ofNat 999999999999999), .int .i64 (.ofNat 0)]⟩, .agg ⟨[.int .i64 (.ofNat 1), .int .i64 (.ofNat 6)]⟩], .tuple ⟨[.agg ⟨[.int .i64 (.ofNat 0), .int .i64 (.ofNat 0)]⟩, .bool false]⟩), ([.agg ⟨[.int .i64 (.ofNat 999999999999999), .int .i64 (.ofNat 0)]⟩, .agg ⟨[.int .i64 (.negSucc 0), .int .i64 (.ofNat 0)]⟩], .tuple ⟨[.agg ⟨[.int .i64 (.ofNat 999999999999998), .int .i64 (.ofNat 0)]⟩, .bool true]⟩), ([.agg ⟨[.int .i64 (.ofNat 999999999999999), .int .i64 (.ofNat 0)]⟩, .agg ⟨[.int .i64 (.negSucc 24), .int .i64 (.ofNat 1)]⟩], .tuple ⟨[.agg ⟨[.int .i64 (.ofNat 0), .int .i64 (.ofNat 0)]⟩, .bool false]⟩), ([.agg ⟨[.int .i64 (.ofNat 999999999999999), .int .i64 (.ofNat 0)]⟩, .agg ⟨[.int .i64 (.negSucc 999999999999998), .int .i64 (.ofNat 0)]⟩], .tuple ⟨[.agg ⟨[.int .i64 (.ofNat 0), .int .i64 (.ofNat 0)]⟩, .bool true]⟩), ([.agg ⟨[.int .i64 (.ofNat 999999999999999), .int .i64 (.ofNat 0)]⟩, .agg ⟨[.int .i64 (.negSucc 0), .int .i64 (.ofNat 6)]⟩], .tuple ⟨[.agg ⟨[.int .i64 (.ofNat 0), .int .i64 (.ofNat 0)]⟩, .bool false]⟩), ([.agg ⟨[.int .i64 (.ofNat 1), .int .i64 (.ofNat 6)]⟩, .agg ⟨[.int .i64 (.ofNat 0), .int .i64 (.ofNat 0)]⟩], .tuple ⟨[.agg ⟨[.int .i64 (.ofNat 1), .int .i64 (.ofNat 6)]⟩, .bool true]⟩), ([.agg ⟨[.int .i64 (.ofNat 1), .int .i64 (.ofNat 6)]⟩, .agg ⟨[.int .i64 (.ofNat 1), .int .i64 (.ofNat 0)]⟩], .tuple ⟨[.agg ⟨[.int .i64 (.ofNat 1000001), .int .i64 (.ofNat 6)]⟩, .bool true]⟩), ([.agg ⟨[.int .i64 (.ofNat 1), .int .i64 (.ofNat 6)]⟩, .agg ⟨[.int .i64 (.negSucc 6), .int .i64 (.ofNat 0)]⟩], .tuple ⟨[.agg ⟨[.int .i64 (.negSucc 6999998), .int .i64 (.ofNat 6)]⟩, .bool true]⟩), ([.agg ⟨[.int .i64 (.ofNat 1), .int .i64 (.ofNat 6)]⟩, .agg ⟨[.int .i64 (.ofNat 7), .int .i64 (.ofNat 0)]⟩], .tuple ⟨[.agg ⟨[.int .i64 (.ofNat 7000001), .int .i64 (.ofNat 6)]⟩, .bool true]⟩), ([.agg ⟨[.int .i64 (.ofNat 1), .int .i64 (.ofNat 6)]⟩, .agg ⟨[.int .i64 (.ofNat 25), .int .i64 (.ofNat 1)]⟩], .tuple ⟨[.agg ⟨[.int .i64 (.ofNat 2500001), .int .i64 (.ofNat 6)]⟩, .bool true]⟩), ([.agg ⟨[.int .i64 (.ofNat 1), .int .i64 (.ofNat 6)]⟩, .agg ⟨[.int .i64 (.ofNat 999999999999999), .int .i64 (.ofNat 0)]⟩], .tuple ⟨[.agg ⟨[.int .i64 (.ofNat 0), .int .i64 (.ofNat 0)]⟩, .bool false]⟩), ([.agg ⟨[.int .i64 (.ofNat 1), .int .i64 (.ofNat 6)]⟩, .agg ⟨[.int .i64 (.ofNat 1), .int .i64 (.ofNat 6)]⟩], .tuple ⟨[.agg ⟨[.int .i64 (.ofNat 2), .int .i64 (.ofNat 6)]⟩, .bool true]⟩), ([.agg ⟨[.int .i64 (.ofNat 1), .int .i64 (.ofNat 6)]⟩, .agg ⟨[.int .i64 (.negSucc 0), .int .i64 (.ofNat 0)]⟩], .tuple ⟨[.agg ⟨[.int .i64 (.negSucc 999998), .int .i64 (.ofNat 6)]⟩, .bool true]⟩), ([.agg ⟨[.int .i64 (.ofNat 1), .int .i64 (.ofNat 6)]⟩, .agg ⟨[.int .i64 (.negSucc 24), .int .i64 (.ofNat 1)]⟩], .tuple ⟨[.agg ⟨[.int .i64 (.negSucc 2499998), .int .i64 (.ofNat 6)]⟩, .bool true]⟩), ([.agg ⟨[.int .i64 (.ofNat 1), .int .i64 (.ofNat 6)]⟩, .agg ⟨[.int .i64 (.negSucc 999999999999998), .int .i64 (.ofNat 0)]⟩], .tuple ⟨[.agg ⟨[.int .i64 (.ofNat 0), .int .i64 (.ofNat 0)]⟩, .bool false]⟩), ([.agg ⟨[.int .i64 (.ofNat 1), .int .i64 (.ofNat 6)]⟩, .agg ⟨[.int .i64 (.negSucc 0), .int .i64 (.ofNat 6)]⟩], .tuple ⟨[.agg ⟨[.int .i64 (.ofNat 0), .int .i64 (.ofNat 0)]⟩, .bool true]⟩)]
noncomputable def mulT : List (List Value × Value) := [([.agg ⟨[.int .i64 (.ofNat 0), .int .i64 (.ofNat 0)]⟩, .agg ⟨[.int .i64 (.ofNat 0), .int .i64 (.ofNat 0)]⟩], .tuple ⟨[.agg ⟨[.int .i64 (.ofNat 0), .int .i64 (.ofNat 0)]⟩, .bool true]⟩), ([.agg ⟨[.int .i64 (.ofNat 0), .int .i64 (.ofNat 0)]⟩, .agg ⟨[.int .i64 (.ofNat 1), .int .i64 (.ofNat 0)]⟩], .tuple ⟨[.agg ⟨[.int .i64 (.ofNat 0), .int .i64 (.ofNat 0)]⟩, .bool true]⟩), ([.agg ⟨[.int .i64 (.ofNat 0), .int .i64 (.ofNat 0)]⟩, .agg ⟨[.int .i64 (.negSucc 6), .int .i64 (.ofNat 0)]⟩], .tuple ⟨[.agg ⟨[.int .i64 (.ofNat 0), .int .i64 (.ofNat 0)]⟩, .bool true]⟩), ([.agg ⟨[.int .i64 (.ofNat 0), .int .i64 (.ofNat 0)]⟩, .agg ⟨[.int .i64 (.ofNat 7), .int .i64 (.ofNat 0)]⟩], .tuple ⟨[.agg ⟨[.int .i64 (.ofNat 0), .int .i64 (.ofNat 0)]⟩, .bool true]⟩), ([.agg ⟨[.int .i64 (.ofNat 0), .int .i64 (.ofNat 0)]⟩, .agg ⟨[.int .i64 (.ofNat 25), .int .i64 (.ofNat 1)]⟩], .tuple ⟨[.agg ⟨[.int .i64 (.ofNat 0), .int .i64 (.ofNat 0)]⟩, .bool true]⟩), ([.agg ⟨[.int .i64 (.ofNat 0), .int .i64 (.ofNat 0)]⟩, .agg ⟨[.int .i64 (.ofNat 999999999999999), .int .i64 (.ofNat 0)]⟩], .tuple ⟨[.agg ⟨[.int .i64 (.ofNat 0), .int .i64 (.ofNat 0)]⟩, .bool true]⟩), ([.agg ⟨[.int .i64 (.ofNat 0), .int .i64 (.ofNat 0)]⟩, .agg ⟨[.int .i64 (.ofNat 1), .int .i64 (.ofNat 6)]⟩], .tuple ⟨[.agg ⟨[.int .i64 (.ofNat 0), .int .i64 (.ofNat 0)]⟩, .bool true]⟩), ([.agg ⟨[.int .i64 (.ofNat 1), .int .i64 (.ofNat 0)]⟩, .agg ⟨[.int .i64 (.ofNat 0), .int .i64 (.ofNat 0)]⟩], .tuple ⟨[.agg ⟨[.int .i64 (.ofNat 0), .int .i64 (.ofNat 0)]⟩, .bool true]⟩), ([.agg ⟨[.int .i64 (.ofNat 1), .int .i64 (.ofNat 0)]⟩, .agg ⟨[.int .i64 (.ofNat 1), .int .i64 (.ofNat 0)]⟩], .tuple ⟨[.agg ⟨[.int .i64 (.ofNat 1), .int .i64 (.ofNat 0)]⟩, .bool true]⟩), ([.agg ⟨[.int .i64 (.ofNat 1), .int .i64 (.ofNat 0)]⟩, .agg ⟨[.int .i64 (.negSucc 6), .int .i64 (.ofNat 0)]⟩], .tuple ⟨[.agg ⟨[.int .i64 (.negSucc 6), .int .i64 (.ofNat 0)]⟩, .bool true]⟩), ([.agg ⟨[.int .i64 (.ofNat 1), .int .i64 (.ofNat 0)]⟩, .agg ⟨[.int .i64 (.ofNat 7), .int .i64 (.ofNat 0)]⟩], .tuple ⟨[.agg ⟨[.int .i64 (.ofNat 7), .int .i64 (.ofNat 0)]⟩, .bool true]⟩), ([.agg ⟨[.int .i64 (.ofNat 1), .int .i64 (.ofNat 0)]⟩, .agg ⟨[.int .i64 (.ofNat 25), .int .i64 (.ofNat 1)]⟩], .tuple ⟨[.agg ⟨[.int .i64 (.ofNat 25), .int .i64 (.ofNat 1)]⟩, .bool true]⟩), ([.agg ⟨[.int .i64 (.ofNat 1), .int .i64 (.ofNat 0)]⟩, .agg ⟨[.int .i64 (.ofNat 999999999999999), .int .i64 (.ofNat 0)]⟩], .tuple ⟨[.agg ⟨[.int .i64 (.ofNat 999999999999999), .int .i64 (.ofNat 0)]⟩, .bool true]⟩), ([.agg ⟨[.int .i64 (.ofNat 1), .int .i64 (.ofNat 0)]⟩, .agg ⟨[.int .i64 (.ofNat 1), .int .i64 (.ofNat 6)]⟩], .tuple ⟨[.agg ⟨[.int .i64 (.ofNat 1), .int .i64 (.ofNat 6)]⟩, .bool true]⟩), ([.agg ⟨[.int .i64 (.negSucc 6), .int .i64 (.ofNat 0)]⟩, .agg ⟨[.int .i64 (.ofNat 0), .int .i64 (.ofNat 0)]⟩], .tuple ⟨[.agg ⟨[.int .i64 (.ofNat 0), .int .i64 (.ofNat 0)]⟩, .bool true]⟩), ([.agg ⟨[.int .i64 (.negSucc 6), .int .i64 (.ofNat 0)]⟩, .agg ⟨[.int .i64 (.ofNat 1), .int .i64 (.ofNat 0)]⟩], .tuple ⟨[.agg ⟨[.int .i64 (.negSucc 6), .int .i64 (.ofNat 0)]⟩, .bool true]⟩), ([.agg ⟨[.int .i64 (.negSucc 6), .int .i64 (.ofNat 0)]⟩, .agg ⟨[.int .i64 (.negSucc 6), .int .i64 (.ofNat 0)]⟩], .tuple ⟨[.agg ⟨[.int .i64 (.ofNat 49), .int .i64 (.ofNat 0)]⟩, .bool true]⟩), ([.agg ⟨[.int .i64 (.negSucc 6), .int .i64 (.ofNat 0)]⟩, .agg ⟨[.int .i64 (.ofNat 7), .int .i64 (.ofNat 0)]⟩], .tuple ⟨[.agg ⟨[.int .i64 (.negSucc 48), .int .i64 (.ofNat 0)]⟩, .bool true]⟩), ([.agg ⟨[.int .i64 (.negSucc 6), .int .i64 (.ofNat 0)]⟩, .agg ⟨[.int .i64 (.ofNat 25), .int .i64 (.ofNat 1)]⟩], .tuple ⟨[.agg ⟨[.int .i64 (.negSucc 174), .int .i64 (.ofNat 1)]⟩, .bool true]⟩), ([.agg ⟨[.int .i64 (.negSucc 6), .int .i64 (.ofNat 0)]⟩, .agg ⟨[.int .i64 (.ofNat 999999999999999), .int .i64 (.ofNat 0)]⟩], .tuple ⟨[.agg ⟨[.int .i64 (.ofNat 0), .int .i64 (.ofNat 0)]⟩, .bool false]⟩), ([.agg ⟨[.int .i64 (.negSucc 6), .int .i64 (.ofNat 0)]⟩, .agg ⟨[.int .i64 (.ofNat 1), .int .i64 (.ofNat 6)]⟩], .tuple ⟨[.agg ⟨[.int .i64 (.negSucc 6), .int .i64 (.ofNat 6)]⟩, .bool true]⟩), ([.agg ⟨[.int .i64 (.ofNat 7), .int .i64 (.ofNat 0)]⟩, .agg ⟨[.int .i64 (.ofNat 0), .int .i64 (.ofNat 0)]⟩], .tuple ⟨[.agg ⟨[.int .i64 (.ofNat 0), .int .i64 (.ofNat 0)]⟩, .bool true]⟩), ([.agg ⟨[.int .i64 (.ofNat 7), .int .i64 (.ofNat 0)]⟩, .agg ⟨[.int .i64 (.ofNat 1), .int .i64 (.ofNat 0)]⟩], .tuple ⟨[.agg ⟨[.int .i64 (.ofNat 7), .int .i64 (.ofNat 0)]⟩, .bool true]⟩), ([.agg ⟨[.int .i64 (.ofNat 7), .int .i64 (.ofNat 0)]⟩, .agg ⟨[.int .i64 (.negSucc 6), .int .i64 (.ofNat 0)]⟩], .tuple ⟨[.agg ⟨[.int .i64 (.negSucc 48), .int .i64 (.ofNat 0)]⟩, .bool true]⟩), ([.agg ⟨[.int .i64 (.ofNat 7), .int .i64 (.ofNat 0)]⟩, .agg ⟨[.int .i64 (.ofNat 7), .int .i64 (.ofNat 0)]⟩], .tuple ⟨[.agg ⟨[.int .i64 (.ofNat 49), .int .i64 (.ofNat 0)]⟩, .bool true]⟩), ([.agg ⟨[.int .i64 (.ofNat 7), .int .i64 (.ofNat 0)]⟩, .agg ⟨[.int .i64 (.ofNat 25), .int .i64 (.ofNat 1)]⟩], .tuple ⟨[.agg ⟨[.int .i64 (.ofNat 175), .int .i64 (.ofNat 1)]⟩, .bool true]⟩), ([.agg ⟨[.int .i64 (.ofNat 7), .int .i64 (.ofNat 0)]⟩, .agg ⟨[.int .i64 (.ofNat 999999999999999), .int .i64 (.ofNat 0)]⟩], .tuple ⟨[.agg ⟨[.int .i64 (.ofNat 0), .int .i64 (.ofNat 0)]⟩, .bool false]⟩), ([.agg ⟨[.int .i64 (.ofNat 7), .int .i64 (.ofNat 0)]⟩, .agg ⟨[.int .i64 (.ofNat 1), .int .i64 (.ofNat 6)]⟩], .tuple ⟨[.agg ⟨[.int .i64 (.ofNat 7), .int .i64 (.ofNat 6)]⟩, .bool true]⟩), ([.agg ⟨[.int .i64 (.ofNat 25), .int .i64 (.ofNat 1)]⟩, .agg ⟨[.int .i64 (.ofNat 0), .int .i64 (.ofNat 0)]⟩], .tuple ⟨[.agg ⟨[.int .i64 (.ofNat 0), .int .i64 (.ofNat 0)]⟩, .bool true]⟩), ([.agg ⟨[.int .i64 (.ofNat 25), .int .i64 (.ofNat 1)]⟩, .agg ⟨[.int .i64 (.ofNat 1), .int .i64 (.ofNat 0)]⟩], .tuple ⟨[.agg ⟨[.int .i64 (.ofNat 25), .int .i64 (.ofNat 1)]⟩, .bool true]⟩), ([.agg ⟨[.int .i64 (.ofNat 25), .int .i64 (.ofNat 1)]⟩, .agg ⟨[.int .i64 (.negSucc 6), .int .i64 (.ofNat 0)]⟩], .tuple ⟨[.agg ⟨[.int .i64 (.negSucc 174), .int .i64 (.ofNat 1)]⟩, .bool true]⟩), ([.agg ⟨[.int .i64 (.ofNat 25), .int .i64 (.ofNat 1)]⟩, .agg ⟨[.int .i64 (.ofNat 7), .int .i64 (.ofNat 0)]⟩], .tuple ⟨[.agg ⟨[.int .i64 (.ofNat 175), .int .i64 (.ofNat 1)]⟩, .bool true]⟩), ([.agg ⟨[.int .i64 (.ofNat 25), .int .i64 (.ofNat 1)]⟩, .agg ⟨[.int .i64 (.ofNat 25), .int .i64 (.ofNat 1)]⟩], .tuple ⟨[.agg ⟨[.int .i64 (.ofNat 625), .int .i64 (.ofNat 2)]⟩, .bool true]⟩), ([.agg ⟨[.int .i64 (.ofNat 25), .int .i64 (.ofNat 1)]⟩, .agg ⟨[.int .i64 (.ofNat 999999999999999), .int .i64 (.ofNat 0)]⟩], .tuple ⟨[.agg ⟨[.int .i64 (.ofNat 0), .int .i64 (.ofNat 0)]⟩, .bool false]⟩), ([.agg ⟨[.int .i64 (.ofNat 25), .int .i64 (.ofNat 1)]⟩, .agg ⟨[.int .i64 (.ofNat 1), .int .i64 (.ofNat 6)]⟩], .tuple ⟨[.agg ⟨[.int .i64 (.ofNat 0), .int .i64 (.ofNat 0)]⟩, .bool false]⟩), ([.agg ⟨[.int .i64 (.ofNat 999999999999999), .int .i64 (.ofNat 0)]⟩, .agg ⟨[.int .i64 (.ofNat 0), .int .i64 (.ofNat 0)]⟩], .tuple ⟨[.agg ⟨[.int .i64 (.ofNat 0), .int .i64 (.ofNat 0)]⟩, .bool true]⟩), ([.agg ⟨[.int .i64 (.ofNat 999999999999999), .int .i64 (.ofNat 0)]⟩, .agg ⟨[.int .i64 (.ofNat 1), .int .i64 (.ofNat 0)]⟩], .tuple ⟨[.agg ⟨[.int .i64 (.ofNat 999999999999999), .int .i64 (.ofNat 0)]⟩, .bool true]⟩), ([.agg ⟨[.int .i64 (.ofNat 999999999999999), .int .i64 (.ofNat 0)]⟩, .agg ⟨[.int .i64 (.negSucc 6), .int .i64 (.ofNat 0)]⟩], .tuple ⟨[.agg ⟨[.int .i64 (.ofNat 0), .int .i64 (.ofNat 0)]⟩, .bool false]⟩), ([.agg ⟨[.int .i64 (.ofNat 999999999999999), .int .i64 (.ofNat 0)]⟩, .agg ⟨[.int .i64 (.ofNat 7), .int .i64 (.ofNat 0)]⟩], .tuple ⟨[.agg ⟨[.int .i64 (.ofNat 0), .int .i64 (.ofNat 0)]⟩, .bool false]⟩), ([.agg ⟨[.int .i64 (.ofNat 999999999999999), .int .i64 (.ofNat 0)]⟩, .agg ⟨[.int .i64 (.ofNat 25), .int .i64 (.ofNat 1)]⟩], .tuple ⟨[.agg ⟨[.int .i64 (.ofNat 0), .int .i64 (.ofNat 0)]⟩, .bool false]⟩), ([.agg ⟨[.int .i64 (.ofNat 999999999999999), .int .i64 (.ofNat 0)]⟩, .agg ⟨[.int .i64 (.ofNat 999999999999999), .int .i64 (.ofNat 0)]⟩], .tuple ⟨[.agg ⟨[.int .i64 (.ofNat 0), .int .i64 (.ofNat 0)]⟩, .bool false]⟩), ([.agg ⟨[.int .i64 (.ofNat 999999999999999), .int .i64 (.ofNat 0)]⟩, .agg ⟨[.int .i64 (.ofNat 1), .int .i64 (.ofNat 6)]⟩], .tuple ⟨[.agg ⟨[.int .i64 (.ofNat 999999999999999), .int .i64 (.ofNat 6)]⟩, .bool true]⟩), ([.agg ⟨[.int .i64 (.ofNat 1), .int .i64 (.ofNat 6)]⟩, .agg ⟨[.int .i64 (.ofNat 0), .int .i64 (.ofNat 0)]⟩], .tuple ⟨[.agg ⟨[.int .i64 (.ofNat 0), .int .i64 (.ofNat 0)]⟩, .bool true]⟩), ([.agg ⟨[.int .i64 (.ofNat 1), .int .i64 (.ofNat 6)]⟩, .agg ⟨[.int .i64 (.ofNat 1), .int .i64 (.ofNat 0)]⟩], .tuple ⟨[.agg ⟨[.int .i64 (.ofNat 1), .int .i64 (.ofNat 6)]⟩, .bool true]⟩), ([.agg ⟨[.int .i64 (.ofNat 1), .int .i64 (.ofNat 6)]⟩, .agg ⟨[.int .i64 (.negSucc 6), .int .i64 (.ofNat 0)]⟩], .tuple ⟨[.agg ⟨[.int .i64 (.negSucc 6), .int .i64 (.ofNat 6)]⟩, .bool true]⟩), ([.agg ⟨[.int .i64 (.ofNat 1), .int .i64 (.ofNat 6)]⟩, .agg ⟨[.int .i64 (.ofNat 7), .int .i64 (.ofNat 0)]⟩], .tuple ⟨[.agg ⟨[.int .i64 (.ofNat 7), .int .i64 (.ofNat 6)]⟩, .bool true]⟩), ([.agg ⟨[.int .i64 (.ofNat 1), .int .i64 (.ofNat 6)]⟩, .agg ⟨[.int .i64 (.ofNat 25), .int .i64 (.ofNat 1)]⟩], .tuple ⟨[.agg ⟨[.int .i64 (.ofNat 0), .int .i64 (.ofNat 0)]⟩, .bool false]⟩), ([.agg ⟨[.int .i64 (.ofNat 1), .int .i64 (.ofNat 6)]⟩, .agg ⟨[.int .i64 (.ofNat 999999999999999), .int .i64 (.ofNat 0)]⟩], .tuple ⟨[.agg ⟨[.int .i64 (.ofNat 999999999999999), .int .i64 (.ofNat 6)]⟩, .bool true]⟩), ([.agg ⟨[.int .i64 (.ofNat 1), .int .i64 (.ofNat 6)]⟩, .agg ⟨[.int .i64 (.ofNat 1), .int .i64 (.ofNat 6)]⟩], .tuple ⟨[.agg ⟨[.int .i64 (.ofNat 0), .int .i64 (.ofNat 0)]⟩, .bool false]⟩)]
noncomputable def printT : List (List Value × Value) := [([.agg ⟨[.int .i64 (.ofNat 0), .int .i64 (.ofNat 0)]⟩], .string ⟨⟨[48]⟩⟩), ([.agg ⟨[.int .i64 (.ofNat 1), .int .i64 (.ofNat 0)]⟩], .string ⟨⟨[49]⟩⟩), ([.agg ⟨[.int .i64 (.negSucc 6), .int .i64 (.ofNat 0)]⟩], .string ⟨⟨[45, 55]⟩⟩), ([.agg ⟨[.int .i64 (.ofNat 7), .int .i64 (.ofNat 0)]⟩], .string ⟨⟨[55]⟩⟩), ([.agg ⟨[.int .i64 (.ofNat 25), .int .i64 (.ofNat 1)]⟩], .string ⟨⟨[50, 46, 53]⟩⟩), ([.agg ⟨[.int .i64 (.ofNat 999999999999999), .int .i64 (.ofNat 0)]⟩], .string ⟨⟨[57, 57, 57, 57, 57, 57, 57, 57, 57, 57, 57, 57, 57, 57, 57]⟩⟩), ([.agg ⟨[.int .i64 (.ofNat 1), .int .i64 (.ofNat 6)]⟩], .string ⟨⟨[48, 46, 48, 48, 48, 48, 48, 49]⟩⟩), ([.agg ⟨[.int .i64 (.negSucc 0), .int .i64 (.ofNat 0)]⟩], .string ⟨⟨[45, 49]⟩⟩), ([.agg ⟨[.int .i64 (.negSucc 24), .int .i64 (.ofNat 1)]⟩], .string ⟨⟨[45, 50, 46, 53]⟩⟩), ([.agg ⟨[.int .i64 (.negSucc 999999999999998), .int .i64 (.ofNat 0)]⟩], .string ⟨⟨[45, 57, 57, 57, 57, 57, 57, 57, 57, 57, 57, 57, 57, 57, 57, 57]⟩⟩), ([.agg ⟨[.int .i64 (.negSucc 0), .int .i64 (.ofNat 6)]⟩], .string ⟨⟨[45, 48, 46, 48, 48, 48, 48, 48, 49]⟩⟩), ([.agg ⟨[.int .i64 (.ofNat 2), .int .i64 (.ofNat 0)]⟩], .string ⟨⟨[50]⟩⟩), ([.agg ⟨[.int .i64 (.negSucc 5), .int .i64 (.ofNat 0)]⟩], .string ⟨⟨[45, 54]⟩⟩), ([.agg ⟨[.int .i64 (.ofNat 8), .int .i64 (.ofNat 0)]⟩], .string ⟨⟨[56]⟩⟩), ([.agg ⟨[.int .i64 (.ofNat 35), .int .i64 (.ofNat 1)]⟩], .string ⟨⟨[51, 46, 53]⟩⟩), ([.agg ⟨[.int .i64 (.ofNat 1000001), .int .i64 (.ofNat 6)]⟩], .string ⟨⟨[49, 46, 48, 48, 48, 48, 48, 49]⟩⟩), ([.agg ⟨[.int .i64 (.negSucc 14), .int .i64 (.ofNat 1)]⟩], .string ⟨⟨[45, 49, 46, 53]⟩⟩), ([.agg ⟨[.int .i64 (.negSucc 999999999999997), .int .i64 (.ofNat 0)]⟩], .string ⟨⟨[45, 57, 57, 57, 57, 57, 57, 57, 57, 57, 57, 57, 57, 57, 57, 56]⟩⟩), ([.agg ⟨[.int .i64 (.ofNat 999999), .int .i64 (.ofNat 6)]⟩], .string ⟨⟨[48, 46, 57, 57, 57, 57, 57, 57]⟩⟩), ([.agg ⟨[.int .i64 (.negSucc 13), .int .i64 (.ofNat 0)]⟩], .string ⟨⟨[45, 49, 52]⟩⟩), ([.agg ⟨[.int .i64 (.negSucc 44), .int .i64 (.ofNat 1)]⟩], .string ⟨⟨[45, 52, 46, 53]⟩⟩), ([.agg ⟨[.int .i64 (.ofNat 999999999999992), .int .i64 (.ofNat 0)]⟩], .string ⟨⟨[57, 57, 57, 57, 57, 57, 57, 57, 57, 57, 57, 57, 57, 57, 50]⟩⟩), ([.agg ⟨[.int .i64 (.negSucc 6999998), .int .i64 (.ofNat 6)]⟩], .string ⟨⟨[45, 54, 46, 57, 57, 57, 57, 57, 57]⟩⟩), ([.agg ⟨[.int .i64 (.negSucc 7), .int .i64 (.ofNat 0)]⟩], .string ⟨⟨[45, 56]⟩⟩), ([.agg ⟨[.int .i64 (.negSucc 94), .int .i64 (.ofNat 1)]⟩], .string ⟨⟨[45, 57, 46, 53]⟩⟩), ([.agg ⟨[.int .i64 (.negSucc 7000000), .int .i64 (.ofNat 6)]⟩], .string ⟨⟨[45, 55, 46, 48, 48, 48, 48, 48, 49]⟩⟩), ([.agg ⟨[.int .i64 (.ofNat 14), .int .i64 (.ofNat 0)]⟩], .string ⟨⟨[49, 52]⟩⟩), ([.agg ⟨[.int .i64 (.ofNat 95), .int .i64 (.ofNat 1)]⟩], .string ⟨⟨[57, 46, 53]⟩⟩), ([.agg ⟨[.int .i64 (.ofNat 7000001), .int .i64 (.ofNat 6)]⟩], .string ⟨⟨[55, 46, 48, 48, 48, 48, 48, 49]⟩⟩), ([.agg ⟨[.int .i64 (.ofNat 6), .int .i64 (.ofNat 0)]⟩], .string ⟨⟨[54]⟩⟩), ([.agg ⟨[.int .i64 (.ofNat 45), .int .i64 (.ofNat 1)]⟩], .string ⟨⟨[52, 46, 53]⟩⟩), ([.agg ⟨[.int .i64 (.negSucc 999999999999991), .int .i64 (.ofNat 0)]⟩], .string ⟨⟨[45, 57, 57, 57, 57, 57, 57, 57, 57, 57, 57, 57, 57, 57, 57, 50]⟩⟩), ([.agg ⟨[.int .i64 (.ofNat 6999999), .int .i64 (.ofNat 6)]⟩], .string ⟨⟨[54, 46, 57, 57, 57, 57, 57, 57]⟩⟩), ([.agg ⟨[.int .i64 (.ofNat 5), .int .i64 (.ofNat 0)]⟩], .string ⟨⟨[53]⟩⟩), ([.agg ⟨[.int .i64 (.ofNat 2500001), .int .i64 (.ofNat 6)]⟩], .string ⟨⟨[50, 46, 53, 48, 48, 48, 48, 49]⟩⟩), ([.agg ⟨[.int .i64 (.ofNat 15), .int .i64 (.ofNat 1)]⟩], .string ⟨⟨[49, 46, 53]⟩⟩), ([.agg ⟨[.int .i64 (.ofNat 2499999), .int .i64 (.ofNat 6)]⟩], .string ⟨⟨[50, 46, 52, 57, 57, 57, 57, 57]⟩⟩), ([.agg ⟨[.int .i64 (.ofNat 999999999999998), .int .i64 (.ofNat 0)]⟩], .string ⟨⟨[57, 57, 57, 57, 57, 57, 57, 57, 57, 57, 57, 57, 57, 57, 56]⟩⟩), ([.agg ⟨[.int .i64 (.ofNat 2), .int .i64 (.ofNat 6)]⟩], .string ⟨⟨[48, 46, 48, 48, 48, 48, 48, 50]⟩⟩), ([.agg ⟨[.int .i64 (.negSucc 999998), .int .i64 (.ofNat 6)]⟩], .string ⟨⟨[45, 48, 46, 57, 57, 57, 57, 57, 57]⟩⟩), ([.agg ⟨[.int .i64 (.negSucc 2499998), .int .i64 (.ofNat 6)]⟩], .string ⟨⟨[45, 50, 46, 52, 57, 57, 57, 57, 57]⟩⟩), ([.agg ⟨[.int .i64 (.ofNat 49), .int .i64 (.ofNat 0)]⟩], .string ⟨⟨[52, 57]⟩⟩), ([.agg ⟨[.int .i64 (.negSucc 48), .int .i64 (.ofNat 0)]⟩], .string ⟨⟨[45, 52, 57]⟩⟩), ([.agg ⟨[.int .i64 (.negSucc 174), .int .i64 (.ofNat 1)]⟩], .string ⟨⟨[45, 49, 55, 46, 53]⟩⟩), ([.agg ⟨[.int .i64 (.negSucc 6), .int .i64 (.ofNat 6)]⟩], .string ⟨⟨[45, 48, 46, 48, 48, 48, 48, 48, 55]⟩⟩), ([.agg ⟨[.int .i64 (.ofNat 175), .int .i64 (.ofNat 1)]⟩], .string ⟨⟨[49, 55, 46, 53]⟩⟩), ([.agg ⟨[.int .i64 (.ofNat 7), .int .i64 (.ofNat 6)]⟩], .string ⟨⟨[48, 46, 48, 48, 48, 48, 48, 55]⟩⟩), ([.agg ⟨[.int .i64 (.ofNat 625), .int .i64 (.ofNat 2)]⟩], .string ⟨⟨[54, 46, 50, 53]⟩⟩), ([.agg ⟨[.int .i64 (.ofNat 999999999999999), .int .i64 (.ofNat 6)]⟩], .string ⟨⟨[57, 57, 57, 57, 57, 57, 57, 57, 57, 46, 57, 57, 57, 57, 57, 57]⟩⟩)]
noncomputable def rowIs (f : FuncId) (p : List Value × Value) : Bool := (p.1.all flat && flat2 p.2) && answers p.2 (run Tryz.prog plain 1000 f p.1 (mem0 Tryz.prog 0))
theorem rows_ok {f : FuncId} {fn : Func} {l : List (List Value × Value)} (h : l.all (rowIs f) = true) (hf : Tryz.prog.funcs[f]? = some fn) (hn : (fn.name == "runtime.NumGoroutine") = false) (hb : fn.body.isNone = false) (base : Nat) (wo : Orig) : HintOk Tryz.prog base wo f (tabF l) := by
  refine tabF_ok hf hn hb fun p hp => ?_
  have hr := List.all_eq_true.1 h p hp
  unfold rowIs at hr
  rw [Bool.and_eq_true, Bool.and_eq_true] at hr
  exact ⟨hr.1.1, hr.1.2, says_of_run (fun _ _ => plain_ok _ _) hf hn hb hr.1.1 hr.1.2 hr.2⟩
theorem all_cut {α : Type} {p : α → Bool} (k : Nat) (l : List α) (h1 : (l.take k).all p = true) (h2 : (l.drop k).all p = true) : l.all p = true := by
  rw [← List.take_append_drop k l, List.all_append, h1, h2]; rfl
theorem are12_0 : ((numT.drop 0).take 8).all (rowIs 12) = true := by kernel_rfl
theorem are12_8 : ((numT.drop 8).take 8).all (rowIs 12) = true := by kernel_rfl
theorem are12_16 : ((numT.drop 16).take 8).all (rowIs 12) = true := by kernel_rfl
theorem are12 : numT.all (rowIs 12) = true := by
  refine all_cut 8 _ are12_0 ?_
  refine all_cut 8 _ are12_8 ?_
  rw [List.drop_drop]
  refine all_cut 8 _ are12_16 ?_
  kernel_rfl
theorem are39_0 : ((numT.drop 0).take 8).all (rowIs 39) = true := by kernel_rfl
theorem are39_8 : ((numT.drop 8).take 8).all (rowIs 39) = true := by kernel_rfl
theorem are39_16 : ((numT.drop 16).take 8).all (rowIs 39) = true := by kernel_rfl
theorem are39 : numT.all (rowIs 39) = true := by
  refine all_cut 8 _ are39_0 ?_
  refine all_cut 8 _ are39_8 ?_
  rw [List.drop_drop]
  refine all_cut 8 _ are39_16 ?_
  kernel_rfl
theorem are14_0 : ((addT.drop 0).take 11).all (rowIs 14) = true := by kernel_rfl
theorem are14_11 : ((addT.drop 11).take 11).all (rowIs 14) = true := by kernel_rfl
theorem are14_22 : ((addT.drop 22).take 11).all (rowIs 14) = true := by kernel_rfl
theorem are14_33 : ((addT.drop 33).take 11).all (rowIs 14) = true := by kernel_rfl
theorem are14_44 : ((addT.drop 44).take 11).all (rowIs 14) = true := by kernel_rfl
theorem are14_55 : ((addT.drop 55).take 11).all (rowIs 14) = true := by kernel_rfl
theorem are14_66 : ((addT.drop 66).take 11).all (rowIs 14) = true := by kernel_rfl
theorem are14 : addT.all (rowIs 14) = true := by
  refine all_cut 11 _ are14_0 ?_
  refine all_cut 11 _ are14_11 ?_
  rw [List.drop_drop]
  refine all_cut 11 _ are14_22 ?_
  rw [List.drop_drop]
  refine all_cut 11 _ are14_33 ?_
  rw [List.drop_drop]
  refine all_cut 11 _ are14_44 ?_
  rw [List.drop_drop]
  refine all_cut 11 _ are14_55 ?_
  rw [List.drop_drop]
  refine all_cut 11 _ are14_66 ?_
  kernel_rfl
theorem are18_0 : ((printT.drop 0).take 17).all (rowIs 18) = true := by kernel_rfl
theorem are18_17 : ((printT.drop 17).take 17).all (rowIs 18) = true := by kernel_rfl
theorem are18_34 : ((printT.drop 34).take 17).all (rowIs 18) = true := by kernel_rfl
theorem are18 : printT.all (rowIs 18) = true := by
  refine all_cut 17 _ are18_0 ?_
  refine all_cut 17 _ are18_17 ?_
  rw [List.drop_drop]
  refine all_cut 17 _ are18_34 ?_
  kernel_rfl
theorem are72_0 : ((printT.drop 0).take 17).all (rowIs 72) = true := by kernel_rfl
theorem are72_17 : ((printT.drop 17).take 17).all (rowIs 72) = true := by kernel_rfl
theorem are72_34 : ((printT.drop 34).take 17).all (rowIs 72) = true := by kernel_rfl
theorem are72 : printT.all (rowIs 72) = true := by
  refine all_cut 17 _ are72_0 ?_
  refine all_cut 17 _ are72_17 ?_
  rw [List.drop_drop]
  refine all_cut 17 _ are72_34 ?_
  kernel_rfl
theorem are70_0 : ((addT.drop 0).take 7).all (rowIs 70) = true := by kernel_rfl
theorem are70_7 : ((addT.drop 7).take 7).all (rowIs 70) = true := by kernel_rfl
theorem are70_14 : ((addT.drop 14).take 7).all (rowIs 70) = true := by kernel_rfl
theorem are70_21 : ((addT.drop 21).take 7).all (rowIs 70) = true := by kernel_rfl
theorem are70_28 : ((addT.drop 28).take 7).all (rowIs 70) = true := by kernel_rfl
theorem are70_35 : ((addT.drop 35).take 7).all (rowIs 70) = true := by kernel_rfl
theorem are70_42 : ((addT.drop 42).take 7).all (rowIs 70) = true := by kernel_rfl
theorem are70_49 : ((addT.drop 49).take 7).all (rowIs 70) = true := by kernel_rfl
theorem are70_56 : ((addT.drop 56).take 7).all (rowIs 70) = true := by kernel_rfl
theorem are70_63 : ((addT.drop 63).take 7).all (rowIs 70) = true := by kernel_rfl
theorem are70_70 : ((addT.drop 70).take 7).all (rowIs 70) = true := by kernel_rfl
theorem are70 : addT.all (rowIs 70) = true := by
  refine all_cut 7 _ are70_0 ?_
  refine all_cut 7 _ are70_7 ?_
  rw [List.drop_drop]
  refine all_cut 7 _ are70_14 ?_
  rw [List.drop_drop]
  refine all_cut 7 _ are70_21 ?_
  rw [List.drop_drop]
  refine all_cut 7 _ are70_28 ?_
  rw [List.drop_drop]
  refine all_cut 7 _ are70_35 ?_
  rw [List.drop_drop]
  refine all_cut 7 _ are70_42 ?_
  rw [List.drop_drop]
  refine all_cut 7 _ are70_49 ?_
  rw [List.drop_drop]
  refine all_cut 7 _ are70_56 ?_
  rw [List.drop_drop]
  refine all_cut 7 _ are70_63 ?_
  rw [List.drop_drop]
  refine all_cut 7 _ are70_70 ?_
  kernel_rfl
theorem are71_0 : ((mulT.drop 0).take 5).all (rowIs 71) = true := by kernel_rfl
theorem are71_5 : ((mulT.drop 5).take 5).all (rowIs 71) = true := by kernel_rfl
theorem are71_10 : ((mulT.drop 10).take 5).all (rowIs 71) = true := by kernel_rfl
theorem are71_15 : ((mulT.drop 15).take 5).all (rowIs 71) = true := by kernel_rfl
theorem are71_20 : ((mulT.drop 20).take 5).all (rowIs 71) = true := by kernel_rfl
theorem are71_25 : ((mulT.drop 25).take 5).all (rowIs 71) = true := by kernel_rfl
theorem are71_30 : ((mulT.drop 30).take 5).all (rowIs 71) = true := by kernel_rfl
theorem are71_35 : ((mulT.drop 35).take 5).all (rowIs 71) = true := by kernel_rfl
theorem are71_40 : ((mulT.drop 40).take 5).all (rowIs 71) = true := by kernel_rfl
theorem are71_45 : ((mulT.drop 45).take 5).all (rowIs 71) = true := by kernel_rfl
theorem are71 : mulT.all (rowIs 71) = true := by
  refine all_cut 5 _ are71_0 ?_
  refine all_cut 5 _ are71_5 ?_
  rw [List.drop_drop]
  refine all_cut 5 _ are71_10 ?_
  rw [List.drop_drop]
  refine all_cut 5 _ are71_15 ?_
  rw [List.drop_drop]
  refine all_cut 5 _ are71_20 ?_
  rw [List.drop_drop]
  refine all_cut 5 _ are71_25 ?_
  rw [List.drop_drop]
  refine all_cut 5 _ are71_30 ?_
  rw [List.drop_drop]
  refine all_cut 5 _ are71_35 ?_
  rw [List.drop_drop]
  refine all_cut 5 _ are71_40 ?_
  rw [List.drop_drop]
  refine all_cut 5 _ are71_45 ?_
  kernel_rfl
theorem are16_0 : ((mulT.drop 0).take 1).all (rowIs 16) = true := by kernel_rfl
theorem are16_1 : ((mulT.drop 1).take 1).all (rowIs 16) = true := by kernel_rfl
theorem are16_2 : ((mulT.drop 2).take 1).all (rowIs 16) = true := by kernel_rfl
theorem are16_3 : ((mulT.drop 3).take 1).all (rowIs 16) = true := by kernel_rfl
theorem are16_4 : ((mulT.drop 4).take 1).all (rowIs 16) = true := by kernel_rfl
theorem are16_5 : ((mulT.drop 5).take 1).all (rowIs 16) = true := by kernel_rfl
theorem are16_6 : ((mulT.drop 6).take 1).all (rowIs 16) = true := by kernel_rfl
theorem are16_7 : ((mulT.drop 7).take 1).all (rowIs 16) = true := by kernel_rfl
theorem are16_8 : ((mulT.drop 8).take 1).all (rowIs 16) = true := by kernel_rfl
theorem are16_9 : ((mulT.drop 9).take 1).all (rowIs 16) = true := by kernel_rfl
theorem are16_10 : ((mulT.drop 10).take 1).all (rowIs 16) = true := by kernel_rfl
theorem are16_11 : ((mulT.drop 11).take 1).all (rowIs 16) = true := by kernel_rfl
theorem are16_12 : ((mulT.drop 12).take 1).all (rowIs 16) = true := by kernel_rfl
theorem are16_13 : ((mulT.drop 13).take 1).all (rowIs 16) = true := by kernel_rfl
theorem are16_14 : ((mulT.drop 14).take 1).all (rowIs 16) = true := by kernel_rfl
theorem are16_15 : ((mulT.drop 15).take 1).all (rowIs 16) = true := by kernel_rfl
theorem are16_16 : ((mulT.drop 16).take 1).all (rowIs 16) = true := by kernel_rfl
theorem are16_17 : ((mulT.drop 17).take 1).all (rowIs 16) = true := by kernel_rfl
theorem are16_18 : ((mulT.drop 18).take 1).all (rowIs 16) = true := by kernel_rfl
theorem are16_19 : ((mulT.drop 19).take 1).all (rowIs 16) = true := by kernel_rfl
theorem are16_20 : ((mulT.drop 20).take 1).all (rowIs 16) = true := by kernel_rfl
theorem are16_21 : ((mulT.drop 21).take 1).all (rowIs 16) = true := by kernel_rfl
theorem are16_22 : ((mulT.drop 22).take 1).all (rowIs 16) = true := by kernel_rfl
theorem are16_23 : ((mulT.drop 23).take 1).all (rowIs 16) = true := by kernel_rfl
theorem are16_24 : ((mulT.drop 24).take 1).all (rowIs 16) = true := by kernel_rfl
theorem are16_25 : ((mulT.drop 25).take 1).all (rowIs 16) = true := by kernel_rfl
theorem are16_26 : ((mulT.drop 26).take 1).all (rowIs 16) = true := by kernel_rfl
theorem are16_27 : ((mulT.drop 27).take 1).all (rowIs 16) = true := by kernel_rfl
theorem are16_28 : ((mulT.drop 28).take 1).all (rowIs 16) = true := by kernel_rfl
theorem are16_29 : ((mulT.drop 29).take 1).all (rowIs 16) = true := by kernel_rfl
theorem are16_30 : ((mulT.drop 30).take 1).all (rowIs 16) = true := by kernel_rfl
theorem are16_31 : ((mulT.drop 31).take 1).all (rowIs 16) = true := by kernel_rfl
theorem are16_32 : ((mulT.drop 32).take 1).all (rowIs 16) = true := by kernel_rfl
theorem are16_33 : ((mulT.drop 33).take 1).all (rowIs 16) = true := by kernel_rfl
theorem are16_34 : ((mulT.drop 34).take 1).all (rowIs 16) = true := by kernel_rfl
theorem are16_35 : ((mulT.drop 35).take 1).all (rowIs 16) = true := by kernel_rfl
theorem are16_36 : ((mulT.drop 36).take 1).all (rowIs 16) = true := by kernel_rfl
theorem are16_37 : ((mulT.drop 37).take 1).all (rowIs 16) = true := by kernel_rfl
theorem are16_38 : ((mulT.drop 38).take 1).all (rowIs 16) = true := by kernel_rfl
theorem are16_39 : ((mulT.drop 39).take 1).all (rowIs 16) = true := by kernel_rfl
theorem are16_40 : ((mulT.drop 40).take 1).all (rowIs 16) = true := by kernel_rfl
theorem are16_41 : ((mulT.drop 41).take 1).all (rowIs 16) = true := by kernel_rfl
theorem are16_42 : ((mulT.drop 42).take 1).all (rowIs 16) = true := by kernel_rfl
theorem are16_43 : ((mulT.drop 43).take 1).all (rowIs 16) = true := by kernel_rfl
theorem are16_44 : ((mulT.drop 44).take 1).all (rowIs 16) = true := by kernel_rfl
theorem are16_45 : ((mulT.drop 45).take 1).all (rowIs 16) = true := by kernel_rfl
theorem are16_46 : ((mulT.drop 46).take 1).all (rowIs 16) = true := by kernel_rfl
theorem are16_47 : ((mulT.drop 47).take 1).all (rowIs 16) = true := by kernel_rfl
theorem are16_48 : ((mulT.drop 48).take 1).all (rowIs 16) = true := by kernel_rfl
theorem are16 : mulT.all (rowIs 16) = true := by
  refine all_cut 1 _ are16_0 ?_
  refine all_cut 1 _ are16_1 ?_
  rw [List.drop_drop]
  refine all_cut 1 _ are16_2 ?_
  rw [List.drop_drop]
  refine all_cut 1 _ are16_3 ?_
  rw [List.drop_drop]
  refine all_cut 1 _ are16_4 ?_
  rw [List.drop_drop]
  refine all_cut 1 _ are16_5 ?_
  rw [List.drop_drop]
  refine all_cut 1 _ are16_6 ?_
  rw [List.drop_drop]
  refine all_cut 1 _ are16_7 ?_
  rw [List.drop_drop]
  refine all_cut 1 _ are16_8 ?_
  rw [List.drop_drop]
  refine all_cut 1 _ are16_9 ?_
  rw [List.drop_drop]
  refine all_cut 1 _ are16_10 ?_
  rw [List.drop_drop]
  refine all_cut 1 _ are16_11 ?_
  rw [List.drop_drop]
  refine all_cut 1 _ are16_12 ?_
  rw [List.drop_drop]
  refine all_cut 1 _ are16_13 ?_
  rw [List.drop_drop]
  refine all_cut 1 _ are16_14 ?_
  rw [List.drop_drop]
  refine all_cut 1 _ are16_15 ?_
  rw [List.drop_drop]
  refine all_cut 1 _ are16_16 ?_
  rw [List.drop_drop]
  refine all_cut 1 _ are16_17 ?_
  rw [List.drop_drop]
  refine all_cut 1 _ are16_18 ?_
  rw [List.drop_drop]
  refine all_cut 1 _ are16_19 ?_
  rw [List.drop_drop]
  refine all_cut 1 _ are16_20 ?_
  rw [List.drop_drop]
  refine all_cut 1 _ are16_21 ?_
  rw [List.drop_drop]
  refine all_cut 1 _ are16_22 ?_
  rw [List.drop_drop]
  refine all_cut 1 _ are16_23 ?_
  rw [List.drop_drop]
  refine all_cut 1 _ are16_24 ?_
  rw [List.drop_drop]
  refine all_cut 1 _ are16_25 ?_
  rw [List.drop_drop]
  refine all_cut 1 _ are16_26 ?_
  rw [List.drop_drop]
  refine all_cut 1 _ are16_27 ?_
  rw [List.drop_drop]
  refine all_cut 1 _ are16_28 ?_
  rw [List.drop_drop]
  refine all_cut 1 _ are16_29 ?_
  rw [List.drop_drop]
  refine all_cut 1 _ are16_30 ?_
  rw [List.drop_drop]
  refine all_cut 1 _ are16_31 ?_
  rw [List.drop_drop]
  refine all_cut 1 _ are16_32 ?_
  rw [List.drop_drop]
  refine all_cut 1 _ are16_33 ?_
  rw [List.drop_drop]
  refine all_cut 1 _ are16_34 ?_
  rw [List.drop_drop]
  refine all_cut 1 _ are16_35 ?_
  rw [List.drop_drop]
  refine all_cut 1 _ are16_36 ?_
  rw [List.drop_drop]
  refine all_cut 1 _ are16_37 ?_
  rw [List.drop_drop]
  refine all_cut 1 _ are16_38 ?_
  rw [List.drop_drop]
  refine all_cut 1 _ are16_39 ?_
  rw [List.drop_drop]
  refine all_cut 1 _ are16_40 ?_
  rw [List.drop_drop]
  refine all_cut 1 _ are16_41 ?_
  rw [List.drop_drop]
  refine all_cut 1 _ are16_42 ?_
  rw [List.drop_drop]
  refine all_cut 1 _ are16_43 ?_
  rw [List.drop_drop]
  refine all_cut 1 _ are16_44 ?_
  rw [List.drop_drop]
  refine all_cut 1 _ are16_45 ?_
  rw [List.drop_drop]
  refine all_cut 1 _ are16_46 ?_
  rw [List.drop_drop]
  refine all_cut 1 _ are16_47 ?_
  rw [List.drop_drop]
  refine all_cut 1 _ are16_48 ?_
  kernel_rfl
end Go.Proofs.YtjbmgmgbcjkfoaaGreatDoor
