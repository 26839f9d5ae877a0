/- Tables: the pieces, and what tokens each is by itself. -/
import Derived.Test.YtfgokimdbodjaaaDoorLexBase
namespace Go.Proofs.YtfgokimdbodjaaaDoor
open Go.RowKit Go.Am
set_option maxRecDepth 100000
noncomputable def pieces : List Value := [.string ⟨⟨[60, 97, 62]⟩⟩, .string ⟨⟨[60, 104, 116, 116, 112, 58, 47, 47, 120, 47, 121, 62]⟩⟩, .string ⟨⟨[120, 58, 121]⟩⟩, .string ⟨⟨[58, 122]⟩⟩, .string ⟨⟨[95, 58, 98, 49]⟩⟩, .string ⟨⟨[63, 118]⟩⟩, .string ⟨⟨[36, 119]⟩⟩, .string ⟨⟨[34, 116, 92, 110, 34]⟩⟩, .string ⟨⟨[39, 117, 39]⟩⟩, .string ⟨⟨[64, 101, 110]⟩⟩, .string ⟨⟨[49, 50]⟩⟩, .string ⟨⟨[51, 46, 53, 48]⟩⟩, .string ⟨⟨[83, 69, 76, 69, 67, 84]⟩⟩, .string ⟨⟨[97]⟩⟩, .string ⟨⟨[116, 114, 117, 101]⟩⟩, .string ⟨⟨[38, 38]⟩⟩, .string ⟨⟨[124, 124]⟩⟩, .string ⟨⟨[33, 61]⟩⟩, .string ⟨⟨[60, 61]⟩⟩, .string ⟨⟨[62, 61]⟩⟩, .string ⟨⟨[94, 94]⟩⟩, .string ⟨⟨[123]⟩⟩, .string ⟨⟨[125]⟩⟩, .string ⟨⟨[40]⟩⟩, .string ⟨⟨[41]⟩⟩, .string ⟨⟨[91]⟩⟩, .string ⟨⟨[93]⟩⟩, .string ⟨⟨[46]⟩⟩, .string ⟨⟨[59]⟩⟩, .string ⟨⟨[44]⟩⟩, .string ⟨⟨[61]⟩⟩, .string ⟨⟨[60]⟩⟩, .string ⟨⟨[62]⟩⟩, .string ⟨⟨[33]⟩⟩, .string ⟨⟨[43]⟩⟩, .string ⟨⟨[45]⟩⟩, .string ⟨⟨[42]⟩⟩, .string ⟨⟨[47]⟩⟩, .string ⟨⟨[124]⟩⟩, .string ⟨⟨[94]⟩⟩, .string ⟨⟨[63]⟩⟩, .string ⟨⟨[32]⟩⟩, .string ⟨⟨[10]⟩⟩, .string ⟨⟨[35, 32, 99, 10]⟩⟩, .string ⟨⟨[34]⟩⟩, .string ⟨⟨[120, 58]⟩⟩, .string ⟨⟨[120, 58, 121, 46]⟩⟩, .string ⟨⟨[49, 46]⟩⟩, .string ⟨⟨[60, 97, 32, 98, 62]⟩⟩, .string ⟨⟨[95, 58]⟩⟩, .string ⟨⟨[64]⟩⟩, .string ⟨⟨[92]⟩⟩, .string ⟨⟨[38]⟩⟩, .string ⟨⟨[195, 169]⟩⟩]
noncomputable def piece (x : Nat) : Value := op2 (pieces[x]?) undef fun v => v
noncomputable def pieceIs (x : Nat) : Bool := flat2 (piece x) && answers (piece x) (run Tryd.prog (picks [⟨0, 54, x⟩]) 1000 7 (ghosts Tryd.prog 1) (mem0 Tryd.prog 1))
theorem pieces_are : (List.range 54).all pieceIs = true := by kernel_rfl
theorem piece_says {n : Int} {x : Nat} (hx : x < 54) (h : n % (54 : Int) = (x : Int)) : flat2 (piece x) = true ∧ Says Tryd.prog 7 #[.int .i64 n] (piece x) := by
  have ht : pieceIs x = true := List.all_eq_true.1 pieces_are x (List.mem_range.2 hx)
  unfold pieceIs at ht
  rw [Bool.and_eq_true] at ht
  refine ⟨ht.1, says_of_ghosts (vs := [.int .i64 n]) (fun w d => picks_ok (l := [⟨0, 54, x⟩]) ?_ _ _ _) rfl Tryd.func7 (by kernel_rfl) (by kernel_rfl) ht.1 ht.2⟩
  intro q hq
  rw [List.mem_singleton.1 hq]
  exact ⟨n, rfl, h⟩
noncomputable def made0 : Made := ⟨(.tuple ⟨[(.slice (some ⟨4, 0, none⟩) 1 1), (.int .i64 (.ofNat 0))]⟩), [([(.int .i64 (.ofNat 1)), (.string ⟨⟨[97]⟩⟩)], 2)]⟩
noncomputable def made1 : Made := ⟨(.tuple ⟨[(.slice (some ⟨4, 0, none⟩) 1 1), (.int .i64 (.ofNat 0))]⟩), [([(.int .i64 (.ofNat 1)), (.string ⟨⟨[104, 116, 116, 112, 58, 47, 47, 120, 47, 121]⟩⟩)], 2)]⟩
noncomputable def made2 : Made := ⟨(.tuple ⟨[(.slice (some ⟨4, 0, none⟩) 1 1), (.int .i64 (.ofNat 0))]⟩), [([(.int .i64 (.ofNat 2)), (.string ⟨⟨[120, 58, 121]⟩⟩)], 2)]⟩
noncomputable def made3 : Made := ⟨(.tuple ⟨[(.slice (some ⟨4, 0, none⟩) 1 1), (.int .i64 (.ofNat 0))]⟩), [([(.int .i64 (.ofNat 2)), (.string ⟨⟨[58, 122]⟩⟩)], 2)]⟩
noncomputable def made4 : Made := ⟨(.tuple ⟨[(.slice (some ⟨4, 0, none⟩) 1 1), (.int .i64 (.ofNat 0))]⟩), [([(.int .i64 (.ofNat 3)), (.string ⟨⟨[98, 49]⟩⟩)], 2)]⟩
noncomputable def made5 : Made := ⟨(.tuple ⟨[(.slice (some ⟨4, 0, none⟩) 1 1), (.int .i64 (.ofNat 0))]⟩), [([(.int .i64 (.ofNat 4)), (.string ⟨⟨[118]⟩⟩)], 2)]⟩
noncomputable def made6 : Made := ⟨(.tuple ⟨[(.slice (some ⟨4, 0, none⟩) 1 1), (.int .i64 (.ofNat 0))]⟩), [([(.int .i64 (.ofNat 4)), (.string ⟨⟨[119]⟩⟩)], 2)]⟩
noncomputable def made7 : Made := ⟨(.tuple ⟨[(.slice (some ⟨4, 0, none⟩) 1 1), (.int .i64 (.ofNat 0))]⟩), [([(.int .i64 (.ofNat 5)), (.string ⟨⟨[116, 10]⟩⟩)], 2)]⟩
noncomputable def made8 : Made := ⟨(.tuple ⟨[(.slice (some ⟨4, 0, none⟩) 1 1), (.int .i64 (.ofNat 0))]⟩), [([(.int .i64 (.ofNat 5)), (.string ⟨⟨[117]⟩⟩)], 2)]⟩
noncomputable def made9 : Made := ⟨(.tuple ⟨[(.slice (some ⟨4, 0, none⟩) 1 1), (.int .i64 (.ofNat 0))]⟩), [([(.int .i64 (.ofNat 6)), (.string ⟨⟨[101, 110]⟩⟩)], 2)]⟩
noncomputable def made10 : Made := ⟨(.tuple ⟨[(.slice (some ⟨4, 0, none⟩) 1 1), (.int .i64 (.ofNat 0))]⟩), [([(.int .i64 (.ofNat 7)), (.string ⟨⟨[49, 50]⟩⟩)], 2)]⟩
noncomputable def made11 : Made := ⟨(.tuple ⟨[(.slice (some ⟨4, 0, none⟩) 1 1), (.int .i64 (.ofNat 0))]⟩), [([(.int .i64 (.ofNat 7)), (.string ⟨⟨[51, 46, 53, 48]⟩⟩)], 2)]⟩
noncomputable def made12 : Made := ⟨(.tuple ⟨[(.slice (some ⟨4, 0, none⟩) 1 1), (.int .i64 (.ofNat 0))]⟩), [([(.int .i64 (.ofNat 8)), (.string ⟨⟨[83, 69, 76, 69, 67, 84]⟩⟩)], 2)]⟩
noncomputable def made13 : Made := ⟨(.tuple ⟨[(.slice (some ⟨4, 0, none⟩) 1 1), (.int .i64 (.ofNat 0))]⟩), [([(.int .i64 (.ofNat 8)), (.string ⟨⟨[97]⟩⟩)], 2)]⟩
noncomputable def made14 : Made := ⟨(.tuple ⟨[(.slice (some ⟨4, 0, none⟩) 1 1), (.int .i64 (.ofNat 0))]⟩), [([(.int .i64 (.ofNat 8)), (.string ⟨⟨[116, 114, 117, 101]⟩⟩)], 2)]⟩
noncomputable def made15 : Made := ⟨(.tuple ⟨[(.slice (some ⟨4, 0, none⟩) 1 1), (.int .i64 (.ofNat 0))]⟩), [([(.int .i64 (.ofNat 9)), (.string ⟨⟨[38, 38]⟩⟩)], 2)]⟩
noncomputable def made16 : Made := ⟨(.tuple ⟨[(.slice (some ⟨4, 0, none⟩) 1 1), (.int .i64 (.ofNat 0))]⟩), [([(.int .i64 (.ofNat 9)), (.string ⟨⟨[124, 124]⟩⟩)], 2)]⟩
noncomputable def made17 : Made := ⟨(.tuple ⟨[(.slice (some ⟨4, 0, none⟩) 1 1), (.int .i64 (.ofNat 0))]⟩), [([(.int .i64 (.ofNat 9)), (.string ⟨⟨[33, 61]⟩⟩)], 2)]⟩
noncomputable def made18 : Made := ⟨(.tuple ⟨[(.slice (some ⟨4, 0, none⟩) 1 1), (.int .i64 (.ofNat 0))]⟩), [([(.int .i64 (.ofNat 9)), (.string ⟨⟨[60, 61]⟩⟩)], 2)]⟩
noncomputable def made19 : Made := ⟨(.tuple ⟨[(.slice (some ⟨4, 0, none⟩) 1 1), (.int .i64 (.ofNat 0))]⟩), [([(.int .i64 (.ofNat 9)), (.string ⟨⟨[62, 61]⟩⟩)], 2)]⟩
noncomputable def made20 : Made := ⟨(.tuple ⟨[(.slice (some ⟨4, 0, none⟩) 1 1), (.int .i64 (.ofNat 0))]⟩), [([(.int .i64 (.ofNat 9)), (.string ⟨⟨[94, 94]⟩⟩)], 2)]⟩
noncomputable def made21 : Made := ⟨(.tuple ⟨[(.slice (some ⟨4, 0, none⟩) 1 1), (.int .i64 (.ofNat 0))]⟩), [([(.int .i64 (.ofNat 9)), (.string ⟨⟨[123]⟩⟩)], 2)]⟩
noncomputable def made22 : Made := ⟨(.tuple ⟨[(.slice (some ⟨4, 0, none⟩) 1 1), (.int .i64 (.ofNat 0))]⟩), [([(.int .i64 (.ofNat 9)), (.string ⟨⟨[125]⟩⟩)], 2)]⟩
noncomputable def made23 : Made := ⟨(.tuple ⟨[(.slice (some ⟨4, 0, none⟩) 1 1), (.int .i64 (.ofNat 0))]⟩), [([(.int .i64 (.ofNat 9)), (.string ⟨⟨[40]⟩⟩)], 2)]⟩
noncomputable def made24 : Made := ⟨(.tuple ⟨[(.slice (some ⟨4, 0, none⟩) 1 1), (.int .i64 (.ofNat 0))]⟩), [([(.int .i64 (.ofNat 9)), (.string ⟨⟨[41]⟩⟩)], 2)]⟩
noncomputable def made25 : Made := ⟨(.tuple ⟨[(.slice (some ⟨4, 0, none⟩) 1 1), (.int .i64 (.ofNat 0))]⟩), [([(.int .i64 (.ofNat 9)), (.string ⟨⟨[91]⟩⟩)], 2)]⟩
noncomputable def made26 : Made := ⟨(.tuple ⟨[(.slice (some ⟨4, 0, none⟩) 1 1), (.int .i64 (.ofNat 0))]⟩), [([(.int .i64 (.ofNat 9)), (.string ⟨⟨[93]⟩⟩)], 2)]⟩
noncomputable def made27 : Made := ⟨(.tuple ⟨[(.slice (some ⟨4, 0, none⟩) 1 1), (.int .i64 (.ofNat 0))]⟩), [([(.int .i64 (.ofNat 9)), (.string ⟨⟨[46]⟩⟩)], 2)]⟩
noncomputable def made28 : Made := ⟨(.tuple ⟨[(.slice (some ⟨4, 0, none⟩) 1 1), (.int .i64 (.ofNat 0))]⟩), [([(.int .i64 (.ofNat 9)), (.string ⟨⟨[59]⟩⟩)], 2)]⟩
noncomputable def made29 : Made := ⟨(.tuple ⟨[(.slice (some ⟨4, 0, none⟩) 1 1), (.int .i64 (.ofNat 0))]⟩), [([(.int .i64 (.ofNat 9)), (.string ⟨⟨[44]⟩⟩)], 2)]⟩
noncomputable def made30 : Made := ⟨(.tuple ⟨[(.slice (some ⟨4, 0, none⟩) 1 1), (.int .i64 (.ofNat 0))]⟩), [([(.int .i64 (.ofNat 9)), (.string ⟨⟨[61]⟩⟩)], 2)]⟩
noncomputable def made31 : Made := ⟨(.tuple ⟨[(.slice (some ⟨4, 0, none⟩) 1 1), (.int .i64 (.ofNat 0))]⟩), [([(.int .i64 (.ofNat 9)), (.string ⟨⟨[60]⟩⟩)], 2)]⟩
noncomputable def made32 : Made := ⟨(.tuple ⟨[(.slice (some ⟨4, 0, none⟩) 1 1), (.int .i64 (.ofNat 0))]⟩), [([(.int .i64 (.ofNat 9)), (.string ⟨⟨[62]⟩⟩)], 2)]⟩
noncomputable def made33 : Made := ⟨(.tuple ⟨[(.slice (some ⟨4, 0, none⟩) 1 1), (.int .i64 (.ofNat 0))]⟩), [([(.int .i64 (.ofNat 9)), (.string ⟨⟨[33]⟩⟩)], 2)]⟩
noncomputable def made34 : Made := ⟨(.tuple ⟨[(.slice (some ⟨4, 0, none⟩) 1 1), (.int .i64 (.ofNat 0))]⟩), [([(.int .i64 (.ofNat 9)), (.string ⟨⟨[43]⟩⟩)], 2)]⟩
noncomputable def made35 : Made := ⟨(.tuple ⟨[(.slice (some ⟨4, 0, none⟩) 1 1), (.int .i64 (.ofNat 0))]⟩), [([(.int .i64 (.ofNat 9)), (.string ⟨⟨[45]⟩⟩)], 2)]⟩
noncomputable def made36 : Made := ⟨(.tuple ⟨[(.slice (some ⟨4, 0, none⟩) 1 1), (.int .i64 (.ofNat 0))]⟩), [([(.int .i64 (.ofNat 9)), (.string ⟨⟨[42]⟩⟩)], 2)]⟩
noncomputable def made37 : Made := ⟨(.tuple ⟨[(.slice (some ⟨4, 0, none⟩) 1 1), (.int .i64 (.ofNat 0))]⟩), [([(.int .i64 (.ofNat 9)), (.string ⟨⟨[47]⟩⟩)], 2)]⟩
noncomputable def made38 : Made := ⟨(.tuple ⟨[(.slice (some ⟨4, 0, none⟩) 1 1), (.int .i64 (.ofNat 0))]⟩), [([(.int .i64 (.ofNat 9)), (.string ⟨⟨[124]⟩⟩)], 2)]⟩
noncomputable def made39 : Made := ⟨(.tuple ⟨[(.slice (some ⟨4, 0, none⟩) 1 1), (.int .i64 (.ofNat 0))]⟩), [([(.int .i64 (.ofNat 9)), (.string ⟨⟨[94]⟩⟩)], 2)]⟩
noncomputable def made40 : Made := ⟨(.tuple ⟨[(.slice (some ⟨4, 0, none⟩) 1 1), (.int .i64 (.ofNat 0))]⟩), [([(.int .i64 (.ofNat 9)), (.string ⟨⟨[63]⟩⟩)], 2)]⟩
noncomputable def made41 : Made := ⟨(.tuple ⟨[(.slice none 0 0), (.int .i64 (.ofNat 0))]⟩), []⟩
noncomputable def made42 : Made := ⟨(.tuple ⟨[(.slice none 0 0), (.int .i64 (.ofNat 0))]⟩), []⟩
noncomputable def made43 : Made := ⟨(.tuple ⟨[(.slice none 0 0), (.int .i64 (.ofNat 0))]⟩), []⟩
noncomputable def made44 : Made := ⟨(.tuple ⟨[(.slice none 0 0), (.int .i64 (.ofNat 6))]⟩), []⟩
noncomputable def made45 : Made := ⟨(.tuple ⟨[(.slice (some ⟨4, 0, none⟩) 1 1), (.int .i64 (.ofNat 0))]⟩), [([(.int .i64 (.ofNat 2)), (.string ⟨⟨[120, 58]⟩⟩)], 2)]⟩
noncomputable def made46 : Made := ⟨(.tuple ⟨[(.slice (some ⟨4, 0, none⟩) 2 2), (.int .i64 (.ofNat 0))]⟩), [([(.int .i64 (.ofNat 2)), (.string ⟨⟨[120, 58, 121]⟩⟩), (.int .i64 (.ofNat 9)), (.string ⟨⟨[46]⟩⟩)], 2)]⟩
noncomputable def made47 : Made := ⟨(.tuple ⟨[(.slice (some ⟨4, 0, none⟩) 2 2), (.int .i64 (.ofNat 0))]⟩), [([(.int .i64 (.ofNat 7)), (.string ⟨⟨[49]⟩⟩), (.int .i64 (.ofNat 9)), (.string ⟨⟨[46]⟩⟩)], 2)]⟩
noncomputable def made48 : Made := ⟨(.tuple ⟨[(.slice (some ⟨4, 0, none⟩) 4 4), (.int .i64 (.ofNat 0))]⟩), [([(.int .i64 (.ofNat 9)), (.string ⟨⟨[60]⟩⟩), (.int .i64 (.ofNat 8)), (.string ⟨⟨[97]⟩⟩), (.int .i64 (.ofNat 8)), (.string ⟨⟨[98]⟩⟩), (.int .i64 (.ofNat 9)), (.string ⟨⟨[62]⟩⟩)], 2)]⟩
noncomputable def made49 : Made := ⟨(.tuple ⟨[(.slice none 0 0), (.int .i64 (.ofNat 6))]⟩), []⟩
noncomputable def made50 : Made := ⟨(.tuple ⟨[(.slice none 0 0), (.int .i64 (.ofNat 6))]⟩), []⟩
noncomputable def made51 : Made := ⟨(.tuple ⟨[(.slice none 0 0), (.int .i64 (.ofNat 6))]⟩), []⟩
noncomputable def made52 : Made := ⟨(.tuple ⟨[(.slice none 0 0), (.int .i64 (.ofNat 6))]⟩), []⟩
noncomputable def made53 : Made := ⟨(.tuple ⟨[(.slice none 0 0), (.int .i64 (.ofNat 6))]⟩), []⟩
noncomputable def madeT : List (List Value × List Nat × Made) := [([.string ⟨⟨[60, 97, 62]⟩⟩], [10], made0), ([.string ⟨⟨[60, 104, 116, 116, 112, 58, 47, 47, 120, 47, 121, 62]⟩⟩], [10], made1), ([.string ⟨⟨[120, 58, 121]⟩⟩], [11], made2), ([.string ⟨⟨[58, 122]⟩⟩], [11], made3), ([.string ⟨⟨[95, 58, 98, 49]⟩⟩], [10], made4), ([.string ⟨⟨[63, 118]⟩⟩], [10], made5), ([.string ⟨⟨[36, 119]⟩⟩], [10], made6), ([.string ⟨⟨[34, 116, 92, 110, 34]⟩⟩], [14], made7), ([.string ⟨⟨[39, 117, 39]⟩⟩], [12], made8), ([.string ⟨⟨[64, 101, 110]⟩⟩], [11], made9), ([.string ⟨⟨[49, 50]⟩⟩], [11], made10), ([.string ⟨⟨[51, 46, 53, 48]⟩⟩], [11], made11), ([.string ⟨⟨[83, 69, 76, 69, 67, 84]⟩⟩], [11], made12), ([.string ⟨⟨[97]⟩⟩], [11], made13), ([.string ⟨⟨[116, 114, 117, 101]⟩⟩], [11], made14), ([.string ⟨⟨[38, 38]⟩⟩], [12], made15), ([.string ⟨⟨[124, 124]⟩⟩], [12], made16), ([.string ⟨⟨[33, 61]⟩⟩], [12], made17), ([.string ⟨⟨[60, 61]⟩⟩], [12], made18), ([.string ⟨⟨[62, 61]⟩⟩], [12], made19), ([.string ⟨⟨[94, 94]⟩⟩], [12], made20), ([.string ⟨⟨[123]⟩⟩], [12], made21), ([.string ⟨⟨[125]⟩⟩], [12], made22), ([.string ⟨⟨[40]⟩⟩], [12], made23), ([.string ⟨⟨[41]⟩⟩], [12], made24), ([.string ⟨⟨[91]⟩⟩], [12], made25), ([.string ⟨⟨[93]⟩⟩], [12], made26), ([.string ⟨⟨[46]⟩⟩], [12], made27), ([.string ⟨⟨[59]⟩⟩], [12], made28), ([.string ⟨⟨[44]⟩⟩], [12], made29), ([.string ⟨⟨[61]⟩⟩], [12], made30), ([.string ⟨⟨[60]⟩⟩], [12], made31), ([.string ⟨⟨[62]⟩⟩], [12], made32), ([.string ⟨⟨[33]⟩⟩], [12], made33), ([.string ⟨⟨[43]⟩⟩], [12], made34), ([.string ⟨⟨[45]⟩⟩], [12], made35), ([.string ⟨⟨[42]⟩⟩], [12], made36), ([.string ⟨⟨[47]⟩⟩], [12], made37), ([.string ⟨⟨[124]⟩⟩], [12], made38), ([.string ⟨⟨[94]⟩⟩], [12], made39), ([.string ⟨⟨[63]⟩⟩], [12], made40), ([.string ⟨⟨[32]⟩⟩], [], made41), ([.string ⟨⟨[10]⟩⟩], [], made42), ([.string ⟨⟨[35, 32, 99, 10]⟩⟩], [], made43), ([.string ⟨⟨[34]⟩⟩], [], made44), ([.string ⟨⟨[120, 58]⟩⟩], [11], made45), ([.string ⟨⟨[120, 58, 121, 46]⟩⟩], [17], made46), ([.string ⟨⟨[49, 46]⟩⟩], [17], made47), ([.string ⟨⟨[60, 97, 32, 98, 62]⟩⟩], [28], made48), ([.string ⟨⟨[95, 58]⟩⟩], [], made49), ([.string ⟨⟨[64]⟩⟩], [], made50), ([.string ⟨⟨[92]⟩⟩], [], made51), ([.string ⟨⟨[38]⟩⟩], [], made52), ([.string ⟨⟨[195, 169]⟩⟩], [], made53)]
noncomputable def madeIs (p : List Value × List Nat × Made) : Bool := p.1.all flat && isMade Tryd.prog p.2.1 p.2.2 (run Tryd.prog plain 1000 6 p.1 (mem0 Tryd.prog 0))
theorem all_cut {α : Type} {p : α → Bool} (k : Nat) (l : List α) (h1 : (l.take k).all p = true) (h2 : (l.drop k).all p = true) : l.all p = true := by
  rw [← List.take_append_drop k l, List.all_append, h1, h2]; rfl
theorem made_0 : ((madeT.drop 0).take 9).all madeIs = true := by kernel_rfl
theorem made_9 : ((madeT.drop 9).take 9).all madeIs = true := by kernel_rfl
theorem made_18 : ((madeT.drop 18).take 9).all madeIs = true := by kernel_rfl
theorem made_27 : ((madeT.drop 27).take 9).all madeIs = true := by kernel_rfl
theorem made_36 : ((madeT.drop 36).take 9).all madeIs = true := by kernel_rfl
theorem made_45 : ((madeT.drop 45).take 9).all madeIs = true := by kernel_rfl
theorem made_all : madeT.all madeIs = true := by
  refine all_cut 9 _ made_0 ?_
  refine all_cut 9 _ made_9 ?_
  rw [List.drop_drop]
  refine all_cut 9 _ made_18 ?_
  rw [List.drop_drop]
  refine all_cut 9 _ made_27 ?_
  rw [List.drop_drop]
  refine all_cut 9 _ made_36 ?_
  rw [List.drop_drop]
  refine all_cut 9 _ made_45 ?_
  kernel_rfl
noncomputable def madeL : List (List Value × Made) := madeT.map fun p => (p.1, p.2.2)
theorem madeL_ok (base : Nat) (wo : Orig) : HintOk Tryd.prog base wo 6 (madeG Tryd.prog.globals.size madeL) := by
  refine madeG_ok Tryd.func6 (by kernel_rfl) (by kernel_rfl) fun p hp => ?_
  obtain ⟨q, hq, rfl⟩ := List.mem_map.1 hp
  have h := List.all_eq_true.1 made_all q hq
  unfold madeIs at h
  rw [Bool.and_eq_true] at h
  obtain ⟨h1, h2⟩ := makes_of_run (fun _ _ => plain_ok _ _) Tryd.func6 (by kernel_rfl) (by kernel_rfl) h.1 h.2
  exact ⟨h.1, h1, h2⟩
noncomputable def twoL (x y : Nat) : List Hint := (7, ghostG Tryd.prog.globals.size [⟨0, piece x⟩, ⟨1, piece y⟩]) :: (6, madeG Tryd.prog.globals.size madeL) :: pickL []
noncomputable def twoRun (x y : Nat) : Bool := yes (run Tryd.prog (hints masks (twoL x y)) 1000 3 (ghosts Tryd.prog 2) (mem0 Tryd.prog 2))
end Go.Proofs.YtfgokimdbodjaaaDoor
