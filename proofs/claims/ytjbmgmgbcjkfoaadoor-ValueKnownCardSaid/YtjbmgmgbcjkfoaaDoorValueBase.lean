/- What the seat's statements share: the hints, 'within', the chapter's example. -/
import Derived.Test.YtjbmgmgbcjkfoaaDoorAmE
import Derived.WalkKit
import Derived.Test.YtjbmgmgbcjkfoaaDoorProg
import Derived.Test.YtjbmgmgbcjkfoaaDoorShelf
namespace Go.Proofs.YtjbmgmgbcjkfoaaDoor
open Go.RowKit Go.Am
theorem mod_cases (n k : Int) (h1 : 0 < k) : (n.tmod k < 0 → n % k = n.tmod k + k) ∧ (0 ≤ n.tmod k → n % k = n.tmod k) ∧ -k < n.tmod k ∧ n.tmod k < k := by
  have h := Int.tmod_eq_emod (a := n) (b := k)
  have a := Int.emod_nonneg n (show k ≠ 0 by omega)
  have b := Int.emod_lt_of_pos n h1
  have c := Int.tmod_lt_of_pos n h1
  split at h
  · exact ⟨by omega, by omega, by omega, c⟩
  · rename_i hn
    have hp : n % k ≠ 0 := fun e => hn (.inr (Int.dvd_of_emod_eq_zero e))
    exact ⟨by omega, by omega, by omega, c⟩
theorem within_calls : Within Tryd.prog 17 := by
  intro n k w h1 h2
  obtain ⟨hA, hB, hlo, hhi⟩ := mod_cases n k h1
  go_enter Tryd.func17, Tryd.ntmps17
  go_wp2
  all_goals (rename_i h; go_ret)
  · exact ⟨by rw [hA h]; rfl, rfl⟩
  · exact ⟨by rw [hB h]; rfl, rfl⟩
def fis : List FI := [⟨0, [], false⟩, ⟨0, [], false⟩, ⟨0, [], true⟩, ⟨34361311039, [(5, [0, 1, 0, 7, 15, 0, 47, 0, 239, 495, 0, 1519, 0, 7663, 15855, 0, 48623, 0, 245231, 507375, 1048575, 2097151]), (9, [0, 0, 3, 7, 15, 0, 0, 96, 224, 480, 0, 0, 3103, 8191])], true⟩, ⟨1125899906844659, [(8, [0, 0, 3, 7, 0, 0, 48, 112, 255, 511, 1023, 0, 0, 2048, 14336, 30720, 65535, 131071, 262143, 262143, 1048575, 2097151, 262143, 262143, 12845055, 29622271, 67108863, 134217727, 268435455, 262143, 262143, 537133055, 3758358527, 8053325823, 17179869183, 34359738367, 68719476735, 137438953471, 137438953471, 549755813887, 1099511627775, 2199023255551, 4398046511103, 8796093022207, 137438953471, 17729624997887, 52913997086719, 140737488355327, 281474976710655, 562949953421311])], true⟩, ⟨43553484515635236212612003945691847073789, [(7, [0, 1, 3, 0, 8, 31, 0, 64, 255, 0, 512, 2047, 0, 4096, 16383, 32767, 65535, 131071, 0, 262144, 1048575, 0, 2097152, 8388607, 16777215, 33554431, 67108863, 0, 134217728, 536870911, 1073741823, 2147483647, 4294967295, 8589934591, 0, 17179869183, 68719476735, 137438953471, 0, 274877906944, 1099511627775, 0, 2199023255552, 8796093022207, 0, 17592186044416, 70368744177663, 140737488355327, 281474976710655, 562949953421311, 1125899906842623, 2251799813685247, 4503599627370495, 9007199254740991, 18014398509481983, 0, 0, 108086391056891904, 288230376151711743, 0, 0, 1729382256910270464, 4611686018427387903, 9223372036854775807, 18446744073709551615, 36893488147419103231, 73786976294838206463, 147573952589676412927, 295147905179352825855, 590295810358705651711, 1180591620717411303423, 0, 0, 7083549724304467820544, 18889465931478580854783, 37778931862957161709567, 75557863725914323419135, 151115727451828646838271, 302231454903657293676543, 604462909807314587353087, 1208925819614629174706175, 2417851639229258349412351, 4835703278458516698824703, 9671406556917033397649407, 19342813113834066795298815, 38685626227668133590597631, 77371252455336267181195263, 154742504910672534362390527, 309485009821345068724781055, 618970019642690137449562111, 0, 1237940039285380274899124224, 4951760157141521099596496895, 0, 9903520314283042199192993792, 39614081257132168796771975167, 79228162514264337593543950335, 158456325028528675187087900671]), (10, [0, 0, 0, 4, 0, 0, 0, 0, 12, 0, 0, 0, 0, 0, 0, 0, 0, 0, 0, 0, 0, 0, 0, 268, 8388876, 0, 0, 0, 268435455, 536870911]), (13, [0, 0, 0, 6, 14, 31, 63, 127, 127, 127, 895, 1919, 127, 8063, 16383, 32767, 65535])], true⟩, ⟨1, [], true⟩, ⟨5, [], true⟩, ⟨137438953487, [], true⟩, ⟨16373, [], true⟩, ⟨15, [(8, [0, 1, 3, 7, 15, 31, 63, 0, 135, 511, 1023])], true⟩, ⟨15, [], true⟩, ⟨11263, [], true⟩, ⟨63, [(7, [0, 0, 3, 0, 0, 24, 7, 127])], true⟩, ⟨16383, [], true⟩, ⟨63, [], true⟩, ⟨19, [], true⟩, ⟨19, [], true⟩, ⟨5, [], true⟩, ⟨71, [], true⟩, ⟨115, [(5, [0, 1, 0, 0, 12, 28, 60, 124, 255, 511, 1023])], true⟩, ⟨34662321099990656493268500983, [(29, [0, 1, 0, 4, 12, 31, 63, 63, 255, 511]), (30, [0, 1, 0, 4, 12, 0, 32, 96, 255, 511, 511, 2047, 4095])], true⟩, ⟨19, [], true⟩, ⟨115, [], true⟩, ⟨15, [], true⟩, ⟨31, [], true⟩, ⟨5, [], true⟩, ⟨15, [], true⟩, ⟨31, [], true⟩, ⟨5, [], true⟩, ⟨127, [(1, [0, 1, 0, 4, 12, 31, 0, 64, 0, 256, 796, 2012, 1855, 8191]), (3, [0, 1, 0, 4, 12, 31, 0, 64, 192, 476, 1023, 0, 2048, 0, 8192, 25564, 64476, 0, 131072, 393216, 975836, 2096092, 2025471, 8388607])], true⟩, ⟨243, [], true⟩, ⟨31, [], true⟩, ⟨131149, [], true⟩, ⟨51, [], true⟩, ⟨233935, [], true⟩, ⟨63, [(1, [0, 1, 3, 7, 0, 16, 63, 127, 255, 255, 0, 1535, 4095]), (8, [0, 1, 3, 7, 0, 16, 63, 127, 127, 511, 1023]), (9, [0, 1, 3, 7, 0, 16, 63, 127, 127, 511, 1023])], true⟩, ⟨127, [(4, [0, 1, 0, 7, 15, 0, 32, 127, 255, 511, 511, 0, 3071, 8191])], true⟩, ⟨119, [], true⟩, ⟨4219, [], true⟩, ⟨1271, [], true⟩, ⟨19, [], true⟩, ⟨2305843009213695213, [], true⟩, ⟨1021, [(3, [0, 1, 3, 0, 8, 7, 63])], true⟩, ⟨205, [], true⟩, ⟨15, [(1, [0, 1, 0, 4, 12, 3, 63])], true⟩, ⟨31, [], true⟩, ⟨51, [], true⟩, ⟨51, [], true⟩, ⟨17179882999, [(10, [0, 0, 2, 7, 15, 31, 31, 63, 255])], true⟩, ⟨5, [], true⟩, ⟨13, [], true⟩, ⟨5, [], true⟩, ⟨63, [], true⟩, ⟨19, [], true⟩, ⟨51, [], true⟩, ⟨19, [], true⟩, ⟨115, [], true⟩, ⟨19, [(4, [0, 0, 2, 7, 0, 16, 63, 127])], true⟩, ⟨19, [], true⟩, ⟨19, [], true⟩, ⟨783, [], true⟩, ⟨115, [], true⟩, ⟨13, [], true⟩, ⟨51, [], true⟩, ⟨19, [], true⟩, ⟨29, [], true⟩, ⟨1991, [], true⟩, ⟨19, [], true⟩, ⟨19, [], true⟩, ⟨5, [], true⟩, ⟨5, [], true⟩, ⟨63, [(3, [0, 1, 3, 0, 11, 27, 63]), (6, [0, 1, 3, 0, 8, 24, 56, 127]), (9, [0, 1, 0, 4, 0, 16, 63, 127, 127, 511, 1023])], true⟩, ⟨402653439, [(3, [0, 1, 3, 0, 8, 31, 63, 127, 255, 255, 511, 2047])], true⟩, ⟨119, [(9, [0, 0, 2, 0, 14, 31, 63, 0, 0, 256, 0, 1792, 3968, 8191, 16383])], true⟩, ⟨5, [], true⟩, ⟨2035, [], true⟩, ⟨51, [], true⟩, ⟨19, [], true⟩, ⟨115, [(3, [0, 0, 3, 0, 0, 0, 32, 112, 248, 7, 1023, 2047])], true⟩, ⟨19, [], true⟩, ⟨19, [], true⟩, ⟨29, [], true⟩, ⟨19, [], true⟩, ⟨19, [], true⟩, ⟨19, [], true⟩, ⟨83, [], true⟩, ⟨520135, [(6, [0, 0, 3, 0, 0, 24, 7, 127])], true⟩, ⟨5, [], true⟩, ⟨5, [], true⟩, ⟨19, [], true⟩, ⟨5, [], true⟩, ⟨7, [], true⟩, ⟨5, [], true⟩, ⟨755, [], true⟩, ⟨51, [], true⟩, ⟨19, [], true⟩, ⟨3, [], false⟩, ⟨5, [], true⟩, ⟨2035, [], true⟩, ⟨19, [], true⟩, ⟨19, [], true⟩, ⟨13, [], true⟩, ⟨19, [], true⟩, ⟨125, [], true⟩, ⟨5, [], true⟩, ⟨3, [], false⟩, ⟨5, [], true⟩, ⟨5, [], true⟩, ⟨24339, [(7, [0, 0, 2, 0, 0, 16, 0, 64, 192, 0, 512, 455, 2503, 8191, 16383]), (8, [0, 0, 2, 0, 0, 16, 0, 64, 192, 0, 512, 455, 2503, 8191, 16383]), (9, [0, 0, 2, 0, 0, 16, 0, 64, 192, 0, 512, 455, 2503, 8191, 16383]), (10, [0, 0, 2, 0, 0, 16, 0, 64, 192, 0, 512, 455, 2503, 8191, 16383]), (17, [0, 0, 2, 0, 0, 16, 0, 64, 192, 0, 512, 455, 2503, 8191, 16383]), (18, [0, 0, 2, 0, 0, 16, 0, 64, 192, 0, 512, 455, 2503, 8191, 16383]), (23, [0, 0, 2, 0, 0, 16, 0, 64, 192, 0, 512, 455, 2503, 8191, 16383])], true⟩, ⟨261151, [], true⟩, ⟨3, [], false⟩, ⟨509, [], true⟩, ⟨7549, [], true⟩, ⟨47890485652059026823698344598447161988085597568358291, [(6, [0, 0, 3, 0, 0, 24, 63]), (7, [0, 0, 2, 7, 0, 0, 48, 127, 255]), (14, [0, 0, 0, 6, 15, 0, 0, 0, 192, 480, 1023]), (31, [0, 0, 0, 6, 15, 0, 0, 0, 192, 480, 1023])], true⟩, ⟨5, [], true⟩, ⟨5, [], true⟩, ⟨5, [], true⟩, ⟨5, [], true⟩, ⟨5, [], true⟩, ⟨5, [], true⟩, ⟨19, [], true⟩, ⟨5, [], true⟩, ⟨5, [], true⟩, ⟨5, [], true⟩, ⟨1, [], false⟩, ⟨1, [], false⟩, ⟨1, [], false⟩, ⟨1, [], false⟩, ⟨1, [], false⟩, ⟨1, [], false⟩, ⟨1, [], false⟩, ⟨1, [], false⟩, ⟨1, [], false⟩, ⟨1, [], false⟩, ⟨1, [], false⟩, ⟨1, [], false⟩, ⟨1, [], false⟩, ⟨1, [], false⟩, ⟨1, [], false⟩, ⟨1, [], false⟩, ⟨1, [], false⟩, ⟨0, [], false⟩, ⟨0, [], false⟩, ⟨0, [], false⟩, ⟨0, [], false⟩, ⟨0, [], false⟩, ⟨0, [], false⟩, ⟨0, [], false⟩, ⟨0, [], true⟩]
theorem fis_ok : fisOk Tryd.prog fis = true := by kernel_rfl
def masks : Masks Tryd.prog := ⟨fis, fis_ok⟩
noncomputable def libL : List Hint := [(96, pureG indexByteG)]
theorem libL_ok (base : Nat) (wo : Orig) : ∀ p ∈ libL, HintOk Tryd.prog base wo p.1 p.2 := by
  intro p hp
  simp only [libL, List.mem_cons, List.not_mem_nil, or_false] at hp
  rcases hp with rfl
  · exact indexByte_ok Tryd.func96 (by kernel_rfl) (by kernel_rfl) Tryd.stringslite_IndexByte
noncomputable def plain : Hints := hints masks libL
theorem plain_ok (base : Nat) (wo : Orig) : KnownOk Tryd.prog base wo plain := hints_ok (libL_ok base wo)
theorem known_is : Says Tryd.prog 6 #[] (.bool true) :=
  says_of_run (fun _ _ => plain_ok _ _) Tryd.func6 (by kernel_rfl) (by kernel_rfl) rfl rfl (fuel := 1000) (by kernel_rfl)
/-- the hints of a law that knows the example and numbers taken within. -/
noncomputable def pickL (l : List Mod) : List Hint := (17, withinG Tryd.prog.globals.size l) :: (6, tabG [([], .bool true)]) :: libL
theorem pickL_ok {vs : List Value} {l : List Mod} (hl : ModsOk vs l) (base : Nat) (wo : World) (d : Nat → Prop) : ∀ p ∈ pickL l, HintOk Tryd.prog base ((orig Tryd.prog vs wo).at d) p.1 p.2 := by
  intro p hp
  rcases List.mem_cons.1 hp with rfl | hp
  · dsimp only
    exact hint_within Tryd.func17 (by kernel_rfl) (by kernel_rfl) within_calls hl
  · rcases List.mem_cons.1 hp with rfl | hp
    case inr => exact libL_ok _ _ p hp
    dsimp only
    refine tab_ok Tryd.func6 (by kernel_rfl) (by kernel_rfl) fun q hq => ?_
    rw [List.mem_singleton.1 hq]
    exact ⟨rfl, rfl, known_is⟩
noncomputable def picks (l : List Mod) : Hints := hints masks (pickL l)
theorem picks_ok {vs : List Value} {l : List Mod} (hl : ModsOk vs l) (base : Nat) (wo : World) (d : Nat → Prop) : KnownOk Tryd.prog base ((orig Tryd.prog vs wo).at d) (picks l) := hints_ok (pickL_ok hl base wo d)
theorem mod_ok {n : Int} {k : Nat} (hk : 0 < k) : (n % (k : Int)).toNat < k ∧ n % (k : Int) = (((n % (k : Int)).toNat : Nat) : Int) := by
  have h0 := Int.emod_nonneg n (show (k : Int) ≠ 0 by omega)
  have h1 := Int.emod_lt_of_pos n (show (0 : Int) < (k : Int) by omega)
  exact ⟨by omega, (Int.toNat_of_nonneg h0).symm⟩
theorem own : ownKnob Tryd.prog.godebug = none := by kernel_rfl
end Go.Proofs.YtjbmgmgbcjkfoaaDoor
