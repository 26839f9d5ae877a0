/- The hints of the seat's laws: find, a failing Atoi (which reads the variable ErrSyntax, that the row lays). -/
import Derived.Test.YtcjjmgggjigjiaaGreatDoorParBase
import Derived.Test.YtcjjmgggjigjiaaGreatDoorFind
import Derived.Stop.LaidErr
import Derived.LaidSub
import Derived.MakeChecks
namespace Go.Proofs.YtcjjmgggjigjiaaGreatDoor
open Go.RowKit Go.Am
theorem star : "*" ++ "errors.errorString" = "*errors.errorString" := by decide
theorem rowE (u : TypeId) (h : Tryz.prog.typeName? 3 u = some "*errors.errorString") : u = 221 :=
  typeName_ptr_named (nm := "errors.errorString") (by rw [star]; kernel_rfl) (by kernel_rfl) (by decide) u (by rw [star]; exact h)
def errSyntaxLaid : String × DataW Unit := ("strconv.ErrSyntax", .iface "*errors.errorString" (.ptr (.agg [.lit (.string [105, 110, 118, 97, 108, 105, 100, 32, 115, 121, 110, 116, 97, 120])])))
/-- what the row lays in ErrSyntax. -/
theorem err_cell {W : World} (h : laidMet Tryz.prog [errSyntaxLaid] W) : ∃ a, W.cell? ⟨6, 0, none⟩ = some (.iface 221 (.pointer (some a))) := by
  have gES : Tryz.prog.globalNamed "strconv.ErrSyntax" = some 6 := by kernel_rfl
  obtain ⟨a0, s0, hv0, -, -, -⟩ := laid_sentinel (ti := 108) (tp := 221) (te := 223) (ts := 9) h gES (by kernel_rfl) Tryz.underlying108 rowE Tryz.underlying221 Tryz.underlying223 rfl rfl Tryz.underlying9 (by kernel_rfl) (by kernel_rfl)
  exact ⟨a0, by have h0 := World.var?_cell gES hv0 0; simpa using h0⟩
theorem laid_err {l : List (String × DataW Unit)} {W : World} (h : laidMetH Tryz.prog l W) (hl : (l.filter fun x => x.1 == "strconv.ErrSyntax") = [errSyntaxLaid]) : laidMet Tryz.prog [errSyntaxLaid] W := by
  have := h.filter fun x => x.1 == "strconv.ErrSyntax"
  rw [hl, MakeChecks.laidMetH_plain _ _ _ (by kernel_rfl)] at this
  exact this
noncomputable def moreL (l : List Mod) : List Hint := (160, findG) :: (65, atoiErrG 178) :: pickL l
theorem moreL_ok {vs : List Value} {l : List Mod} (hl : ModsOk vs l) {W : World} (h : laidMet Tryz.prog [errSyntaxLaid] W) (d : Nat → Prop) : KnownOk Tryz.prog W.heap.size ((orig Tryz.prog vs W).at d) (hints masks (moreL l)) := by
  obtain ⟨a, ha⟩ := err_cell h
  refine hints_ok fun p hp => ?_
  rcases List.mem_cons.1 hp with rfl | hp
  · exact find_ok Tryz.func160 (by kernel_rfl) (by kernel_rfl) Find.finds
  · rcases List.mem_cons.1 hp with rfl | hp
    · refine atoiErr_ok Tryz.func65 (by kernel_rfl) (by kernel_rfl) fun s w hs hat hb => ?_
      have h6 : 6 < W.heap.size := by
        obtain ⟨x, h6, _⟩ := cells_of_cell ha
        exact (Array.getElem?_eq_some_iff.1 h6).1
      have ha' : w.cell? ⟨6, 0, none⟩ = some (.iface 221 (.pointer (some a))) := (hb.cell (p := ⟨6, 0, none⟩) h6).trans ha
      refine (Tryz.strconv_Atoi_err s hs hat _ w ha' (.inr ⟨_, _, rfl⟩)).mono ?_
      rintro e w' ⟨N, he, hN, _, hbl⟩
      exact ⟨N, he, hN, hbl⟩
    · exact pickL_ok hl _ _ d p hp
end Go.Proofs.YtcjjmgggjigjiaaGreatDoor
