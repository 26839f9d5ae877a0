/- What the seat's statements share: the hints, 'within', the chapter's example. -/
import Derived.Test.YtcjjmgggjigjiaaGreatDoorAmE
import Derived.WalkKit
import Derived.Test.YtcjjmgggjigjiaaGreatDoorProg
import Derived.Test.YtcjjmgggjigjiaaGreatDoorShelf
namespace Go.Proofs.YtcjjmgggjigjiaaGreatDoor
open Go.RowKit Go.Am
theorem mod_cases (n k : Int) (h1 : 0 < k) : (n.tmod k < 0 → n % k = n.tmod k + k) ∧ (0 ≤ n.tmod k → n % k = n.tmod k) ∧ -k < n.tmod k ∧ n.tmod k < k := by
  have h := Int.tmod_eq_emod (a := n) (b := k)
  have a := Int.emod_nonneg n (show k ≠ 0 by omega)
  have b := Int.emod_lt_of_pos n h1
  have c := Int.tmod_lt_of_pos n h1
  split at h
  · exact ⟨by omega, by omega, by omega, c⟩
  · rename_i hn
    have hp : n % k ≠ 0 := fun e => hn (.inr (Int.dvd_of_emod_eq_zero e))
    exact ⟨by omega, by omega, by omega, c⟩
theorem within_calls : Within Tryz.prog 7 := by
  intro n k w h1 h2
  obtain ⟨hA, hB, hlo, hhi⟩ := mod_cases n k h1
  go_enter Tryz.func7, Tryz.ntmps7
  go_wp2
  all_goals (rename_i h; go_ret)
  · exact ⟨by rw [hA h]; rfl, rfl⟩
  · exact ⟨by rw [hB h]; rfl, rfl⟩
def fis : List FI := [⟨0, [], false⟩, ⟨0, [], false⟩, ⟨0, [], true⟩, ⟨21, [], true⟩, ⟨8135, [], true⟩, ⟨53, [], true⟩, ⟨1, [], true⟩, ⟨19, [], true⟩, ⟨221, [(23, [0, 0, 2, 6, 14, 1, 63])], true⟩, ⟨29, [], true⟩, ⟨93, [(17, [0, 0, 2, 6, 14, 1, 63])], true⟩, ⟨4941, [], true⟩, ⟨19, [], true⟩, ⟨51, [], true⟩, ⟨5, [], true⟩, ⟨71, [], true⟩, ⟨3, [], true⟩, ⟨7219, [], true⟩, ⟨458871, [], true⟩, ⟨7, [], true⟩, ⟨29, [], true⟩, ⟨115, [], true⟩, ⟨115, [], true⟩, ⟨19, [], true⟩, ⟨51, [(6, [0, 0, 2, 6, 14, 0, 32, 96, 254, 511, 1023, 2047]), (12, [0, 0, 2, 6, 14, 0, 32, 96, 254, 511, 1023, 2047])], true⟩, ⟨3, [], true⟩, ⟨61, [], true⟩, ⟨61, [], true⟩, ⟨13, [], true⟩, ⟨3, [], true⟩, ⟨3, [], true⟩, ⟨3, [], true⟩, ⟨120259084301, [(10, [0, 0, 2, 6, 14, 30, 0, 126, 255, 511, 1023])], true⟩, ⟨141, [], true⟩, ⟨13, [], true⟩, ⟨240518168607, [], true⟩, ⟨7341837, [], true⟩, ⟨1, [], true⟩, ⟨61, [(6, [0, 0, 3, 7, 0, 0, 32, 112, 240, 511]), (11, [0, 0, 3, 7, 0, 0, 32, 112, 240, 511])], true⟩, ⟨5, [], true⟩, ⟨5, [], true⟩, ⟨19, [], true⟩, ⟨5, [], true⟩, ⟨19, [], true⟩, ⟨11, [], true⟩, ⟨1, [(2, [0, 0, 2, 6, 14, 0, 32, 126, 255, 511, 1023])], true⟩, ⟨13, [], true⟩, ⟨13, [], true⟩, ⟨5, [], true⟩, ⟨125, [], true⟩, ⟨5, [(2, [0, 1, 3, 7, 15, 15, 47, 127, 255, 511])], true⟩, ⟨13, [], true⟩, ⟨13, [], true⟩, ⟨5, [], true⟩, ⟨229, [], true⟩, ⟨5, [], true⟩, ⟨5, [], true⟩, ⟨115, [(3, [0, 0, 3, 0, 0, 0, 32, 112, 248, 7, 1023, 2047])], true⟩, ⟨147573952589676424691, [], true⟩, ⟨19, [], true⟩, ⟨461, [], true⟩, ⟨29, [], true⟩, ⟨5, [], true⟩, ⟨77, [], true⟩, ⟨19, [], true⟩, ⟨13, [], true⟩, ⟨19, [], true⟩, ⟨3, [(2, [0, 1, 3, 7, 0, 31, 63, 127])], true⟩, ⟨3, [(13, [0, 1, 3, 7, 0, 16, 15, 0, 255, 511, 1023, 511, 2559, 6655])], true⟩, ⟨5, [], true⟩, ⟨507, [(6, [0, 0, 0, 0, 8, 0, 62, 126, 255, 511])], true⟩, ⟨417551, [(17, [0, 1, 3, 7, 7, 23, 63, 127, 7, 7, 775, 1799, 4095, 8191, 16383])], true⟩, ⟨5, [], true⟩, ⟨403, [], true⟩, ⟨403, [], true⟩, ⟨19, [], true⟩, ⟨19, [], true⟩, ⟨199, [], true⟩, ⟨5, [], true⟩, ⟨5, [], true⟩, ⟨19, [], true⟩, ⟨19, [], true⟩, ⟨271, [], true⟩, ⟨5, [], true⟩, ⟨5, [], true⟩, ⟨5, [], true⟩, ⟨5, [], true⟩, ⟨11, [], true⟩, ⟨5, [], true⟩, ⟨5, [], true⟩, ⟨5, [], true⟩, ⟨2035, [], true⟩, ⟨13, [], true⟩, ⟨29, [], true⟩, ⟨1, [], true⟩, ⟨19, [], true⟩, ⟨985162418487405, [], true⟩, ⟨3103, [], true⟩, ⟨13, [(3, [0, 0, 2, 7, 15, 31])], true⟩, ⟨7, [(1, [0, 0, 0, 0, 8, 24, 56, 0, 248, 508, 1021, 2045, 4093, 8191, 16383, 32767])], true⟩, ⟨51, [(7, [0, 0, 0, 4, 12, 28, 60, 0, 0, 508, 1021, 2045, 4093, 8191, 16383, 32767])], true⟩, ⟨13, [], true⟩, ⟨5, [], true⟩, ⟨19, [], true⟩, ⟨77, [], true⟩, ⟨77, [(9, [0, 0, 1, 7])], true⟩, ⟨13, [], true⟩, ⟨199, [(4, [0, 0, 3, 7, 15, 15, 63, 127, 15, 15, 527, 1807, 3855, 8191, 16383]), (6, [0, 0, 0, 0, 8, 0, 0, 64, 224, 480, 0, 0, 3072, 7168, 16355, 32739, 65535, 131071])], true⟩, ⟨60129544135, [(10, [0, 0, 0, 0, 0, 24, 0, 0, 0, 384, 960, 1984, 0, 0, 12288, 28672, 65475, 131011, 262143, 524287])], true⟩, ⟨985162418489287, [(10, [0, 0, 0, 0, 0, 24, 0, 0, 0, 384, 960, 1984, 0, 0, 12288, 28672, 65475, 131011, 262143, 524287])], true⟩, ⟨8135, [], true⟩, ⟨199, [(3, [0, 0, 0, 0, 0, 0, 48, 112, 0, 0, 768, 1792, 4083, 8179, 16383, 32767])], true⟩, ⟨1991, [(5, [0, 0, 3, 7, 15, 15, 63, 127, 15, 15, 527, 1807, 3855, 8191, 16383, 32767]), (11, [0, 0, 0, 0, 8, 0, 0, 64, 224, 480, 0, 0, 3072, 7168, 16355, 32739, 65535, 131071]), (16, [0, 0, 3, 7, 0, 0, 32, 112, 240, 511, 1023]), (17, [0, 0, 0, 0, 8, 0, 0, 64, 224, 480, 0, 0, 3072, 7168, 16355, 32739, 65535, 131071]), (22, [0, 0, 3, 7, 0, 0, 32, 112, 240, 511, 1023]), (23, [0, 0, 0, 0, 8, 0, 0, 64, 224, 480, 0, 0, 3072, 7168, 16355, 32739, 65535, 131071])], true⟩, ⟨19, [], true⟩, ⟨1807, [(1, [0, 0, 0, 0, 0, 0, 48, 112, 0, 0, 768, 1792, 4083, 8179, 16383, 32767]), (3, [0, 0, 3, 7, 15, 15, 63, 127, 15, 15, 783, 1807, 4095, 8191, 16383]), (5, [0, 0, 3, 7, 15, 15, 63, 127, 15, 15, 783, 1807, 4095, 8191]), (8, [0, 0, 0, 0, 0, 0, 48, 112, 0, 0, 768, 1792, 4083, 8179, 16383, 32767])], true⟩, ⟨3855, [(1, [0, 0, 0, 0, 0, 0, 48, 112, 0, 0, 768, 1792, 4083, 8179, 16383, 32767]), (3, [0, 0, 3, 7, 15, 15, 63, 127, 15, 15, 783, 1807, 4095, 8191]), (5, [0, 0, 3, 7, 15, 15, 63, 127, 15, 15, 783, 1807, 4095, 8191, 16383]), (8, [0, 0, 0, 0, 0, 0, 48, 112, 0, 0, 768, 1792, 4083, 8179, 16383, 32767]), (10, [0, 0, 0, 0, 0, 0, 48, 112, 0, 0, 768, 1792, 4083, 8179, 16383, 32767]), (13, [0, 0, 3, 7, 15, 15, 63, 127, 15, 15, 783, 1807, 4095, 8191]), (15, [0, 0, 3, 7, 15, 15, 63, 127, 15, 15, 783, 1807, 4095, 8191, 16383]), (18, [0, 0, 0, 0, 0, 0, 48, 112, 0, 0, 768, 1792, 4083, 8179, 16383, 32767]), (21, [0, 0, 0, 0, 0, 0, 48, 112, 0, 0, 768, 1792, 4083, 8179, 16383, 32767])], true⟩, ⟨5, [], true⟩, ⟨5, [], true⟩, ⟨19, [], true⟩, ⟨29, [], true⟩, ⟨19, [], true⟩, ⟨19, [], true⟩, ⟨19, [], true⟩, ⟨19, [], true⟩, ⟨3, [], false⟩, ⟨5, [], true⟩, ⟨2035, [], true⟩, ⟨7549, [], true⟩, ⟨499, [], true⟩, ⟨199, [(3, [0, 1, 3, 7, 15, 0, 0, 64, 192, 448, 960, 2016, 4064, 0, 8192, 24576, 65504, 131071, 262143])], true⟩, ⟨1991, [], true⟩, ⟨19, [(1, [0, 0, 2, 0, 15, 31, 63])], true⟩, ⟨19, [(1, [0, 0, 2, 0, 15, 31, 63])], true⟩, ⟨71, [], true⟩, ⟨71, [], true⟩, ⟨231183, [(7, [0, 1, 0, 0, 8, 28, 63, 127])], true⟩, ⟨5, [], true⟩, ⟨31, [], true⟩, ⟨525, [], true⟩, ⟨29, [], true⟩, ⟨51, [], true⟩, ⟨29, [], true⟩, ⟨225179981370622735, [(3, [0, 1, 0, 7, 15, 31, 31, 31, 223, 511, 1023, 31, 31, 31, 12319, 28703, 63519, 129055, 262143, 524287]), (5, [0, 0, 0, 6, 15, 31, 0, 0, 0, 384, 960, 1984, 4095, 8191]), (6, [0, 0, 0, 6, 0, 0, 0, 96, 0, 0, 0, 1536, 3840, 7936, 0, 0, 0, 98304, 245760, 507904, 1048335, 2096911, 4194303, 8388607])], true⟩, ⟨5, [], true⟩, ⟨5, [(1, [0, 1, 3, 0, 8, 24, 56, 127, 255, 511]), (2, [0, 1, 3, 0, 8, 24, 56, 127, 255, 511]), (3, [0, 1, 3, 0, 8, 24, 56, 127, 255, 511])], true⟩, ⟨71, [], true⟩, ⟨1055, [], true⟩, ⟨5, [], true⟩, ⟨19, [], true⟩, ⟨19, [], true⟩, ⟨3, [], false⟩, ⟨509, [], true⟩, ⟨4436777100798802905238461333447, [], true⟩, ⟨5, [], true⟩, ⟨5, [], true⟩, ⟨5, [], true⟩, ⟨5, [], true⟩, ⟨101, [], true⟩, ⟨101, [], true⟩, ⟨205, [], true⟩, ⟨51, [], false⟩, ⟨51, [], true⟩, ⟨5, [], true⟩, ⟨19, [], true⟩, ⟨783, [(1, [0, 0, 3, 7, 0, 0, 48, 112, 255])], true⟩, ⟨47890485652059026823698344598447161988085597568358291, [(6, [0, 0, 3, 0, 0, 24, 63]), (7, [0, 0, 2, 7, 0, 0, 48, 127, 255]), (14, [0, 0, 0, 6, 15, 0, 0, 0, 192, 480, 1023]), (31, [0, 0, 0, 6, 15, 0, 0, 0, 192, 480, 1023])], true⟩, ⟨5, [], true⟩, ⟨147573952590213283901, [], true⟩, ⟨5, [], true⟩, ⟨5, [], true⟩, ⟨5, [], true⟩, ⟨5, [], true⟩, ⟨1805, [], true⟩, ⟨5, [], true⟩, ⟨51, [], true⟩, ⟨5, [], true⟩, ⟨11, [], true⟩, ⟨5, [], true⟩, ⟨5, [], true⟩, ⟨5, [], true⟩, ⟨24339, [(7, [0, 0, 2, 0, 0, 16, 0, 64, 192, 0, 512, 455, 2503, 8191, 16383]), (8, [0, 0, 2, 0, 0, 16, 0, 64, 192, 0, 512, 455, 2503, 8191, 16383]), (9, [0, 0, 2, 0, 0, 16, 0, 64, 192, 0, 512, 455, 2503, 8191, 16383]), (10, [0, 0, 2, 0, 0, 16, 0, 64, 192, 0, 512, 455, 2503, 8191, 16383]), (17, [0, 0, 2, 0, 0, 16, 0, 64, 192, 0, 512, 455, 2503, 8191, 16383]), (18, [0, 0, 2, 0, 0, 16, 0, 64, 192, 0, 512, 455, 2503, 8191, 16383]), (23, [0, 0, 2, 0, 0, 16, 0, 64, 192, 0, 512, 455, 2503, 8191, 16383])], true⟩, ⟨261151, [], true⟩, ⟨5, [], true⟩, ⟨3, [], true⟩, ⟨5, [], true⟩, ⟨5, [], true⟩, ⟨5, [], true⟩, ⟨5, [], true⟩, ⟨5, [], true⟩, ⟨3670023, [], true⟩, ⟨5, [], true⟩, ⟨5, [], true⟩, ⟨3, [], true⟩, ⟨1, [], true⟩, ⟨55, [], true⟩, ⟨15, [(4, [0, 1, 0, 4, 12, 28, 3, 0, 255, 511, 1023, 511, 2559]), (5, [0, 1, 0, 4, 3, 0, 63, 127, 255, 127, 639])], true⟩, ⟨1, [], false⟩, ⟨1, [], false⟩, ⟨1, [], false⟩, ⟨1, [], false⟩, ⟨1, [], false⟩, ⟨1, [], false⟩, ⟨1, [], false⟩, ⟨1, [], false⟩, ⟨1, [], false⟩, ⟨1, [], false⟩, ⟨1, [], false⟩, ⟨1, [], false⟩, ⟨1, [], false⟩, ⟨1, [], false⟩, ⟨1, [], false⟩, ⟨1, [], false⟩, ⟨1, [], false⟩, ⟨1, [], false⟩, ⟨1, [], false⟩, ⟨1, [], false⟩, ⟨0, [], false⟩, ⟨0, [], false⟩, ⟨0, [], false⟩, ⟨0, [], false⟩, ⟨0, [], false⟩, ⟨0, [], false⟩, ⟨0, [], false⟩, ⟨0, [], false⟩, ⟨0, [], false⟩, ⟨0, [], false⟩, ⟨0, [], false⟩, ⟨0, [], false⟩, ⟨4951760157141521099596492800, [], true⟩]
theorem fis_ok : fisOk Tryz.prog fis = true := by kernel_rfl
def masks : Masks Tryz.prog := ⟨fis, fis_ok⟩
noncomputable def libL : List Hint := [(123, pureG indexByteG), (80, pureG indexByteG), (76, pureG hasPrefixG), (75, pureG trimLeftG)]
theorem libL_ok (base : Nat) (wo : Orig) : ∀ p ∈ libL, HintOk Tryz.prog base wo p.1 p.2 := by
  intro p hp
  simp only [libL, List.mem_cons, List.not_mem_nil, or_false] at hp
  rcases hp with rfl | rfl | rfl | rfl
  · exact indexByte_ok Tryz.func123 (by kernel_rfl) (by kernel_rfl) Tryz.stringslite_IndexByte
  · exact indexByte_ok Tryz.func80 (by kernel_rfl) (by kernel_rfl) Tryz.strings_IndexByte
  · exact hasPrefix_ok Tryz.func76 (by kernel_rfl) (by kernel_rfl) Tryz.strings_HasPrefix
  · exact trimLeft_ok Tryz.func75 (by kernel_rfl) (by kernel_rfl) Tryz.strings_TrimLeft
noncomputable def plain : Hints := hints masks libL
theorem plain_ok (base : Nat) (wo : Orig) : KnownOk Tryz.prog base wo plain := hints_ok (libL_ok base wo)
theorem known_is : Says Tryz.prog 6 #[] (.bool true) :=
  says_of_run (fun _ _ => plain_ok _ _) Tryz.func6 (by kernel_rfl) (by kernel_rfl) rfl rfl (fuel := 1000) (by kernel_rfl)
/-- the hints of a law that knows the example and numbers taken within. -/
noncomputable def pickL (l : List Mod) : List Hint := (7, withinG Tryz.prog.globals.size l) :: (6, tabG [([], .bool true)]) :: libL
theorem pickL_ok {vs : List Value} {l : List Mod} (hl : ModsOk vs l) (base : Nat) (wo : World) (d : Nat → Prop) : ∀ p ∈ pickL l, HintOk Tryz.prog base ((orig Tryz.prog vs wo).at d) p.1 p.2 := by
  intro p hp
  rcases List.mem_cons.1 hp with rfl | hp
  · dsimp only
    exact hint_within Tryz.func7 (by kernel_rfl) (by kernel_rfl) within_calls hl
  · rcases List.mem_cons.1 hp with rfl | hp
    case inr => exact libL_ok _ _ p hp
    dsimp only
    refine tab_ok Tryz.func6 (by kernel_rfl) (by kernel_rfl) fun q hq => ?_
    rw [List.mem_singleton.1 hq]
    exact ⟨rfl, rfl, known_is⟩
noncomputable def picks (l : List Mod) : Hints := hints masks (pickL l)
theorem picks_ok {vs : List Value} {l : List Mod} (hl : ModsOk vs l) (base : Nat) (wo : World) (d : Nat → Prop) : KnownOk Tryz.prog base ((orig Tryz.prog vs wo).at d) (picks l) := hints_ok (pickL_ok hl base wo d)
theorem mod_ok {n : Int} {k : Nat} (hk : 0 < k) : (n % (k : Int)).toNat < k ∧ n % (k : Int) = (((n % (k : Int)).toNat : Nat) : Int) := by
  have h0 := Int.emod_nonneg n (show (k : Int) ≠ 0 by omega)
  have h1 := Int.emod_lt_of_pos n (show (0 : Int) < (k : Int) by omega)
  exact ⟨by omega, (Int.toNat_of_nonneg h0).symm⟩
theorem own : ownKnob Tryz.prog.godebug = none := by kernel_rfl
end Go.Proofs.YtcjjmgggjigjiaaGreatDoor
