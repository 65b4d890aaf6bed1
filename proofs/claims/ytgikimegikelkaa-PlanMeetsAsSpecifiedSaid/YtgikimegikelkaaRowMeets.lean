/- The law PlanMeetsAsSpecified holds: for every two lists of allotments of the model's memory (no further condition) the call returns true, does not panic, and leaves both arguments as they were. -/
import Derived.Test.YtgikimegikelkaaRows
import Derived.Test.YtgikimegikelkaaMeets
import Derived.Test.YtgikimegikelkaaRead
import Derived.Test.YtgikimegikelkaaFacts
import Derived.WalkKit
import Derived.ProofKit
import Derived.OpenShut
import Derived.ShutString
import Derived.ChangeOld
import Derived.Below
import Derived.SizedLaws
namespace Go.Proofs.Ytgikimegikelkaa.planMeetsAsSpecified
open Go.ChangeShapes Go.WideShapes Go.ChangeAt Go.RowKit
open Go.ChangeMaps (open_string shut_string)
set_option linter.all false
theorem own : ownKnob Try.prog.godebug = none := by kernel_rfl
theorem laidOut : laidOutB Try.prog = true := by kernel_rfl
set_option maxRecDepth 100000 in
theorem lifted (os : Os) (started : os.Started) (H : Type) (enc : TypeId × Value → H) :
    ReturnsInHanded {} Try.checked os 9 .any (Rows.planMeetsAsSpecifiedSpec.pre6 enc Try.prog Try.f9 Rows.planMeetsAsSpecifiedRow.domain false) (Rows.planMeetsAsSpecifiedSpec.post enc Try.prog Try.f9 false true false false) := by
  refine returnsInHanded_of_change_sized (C := Try.checked) own started (by kernel_rfl) Try.func9
    (ChangeSpec.witness6 (enc := enc) (C := Try.checked) false ⟨#[], #[.slice none 0 0, .slice none 0 0], []⟩ 8 (by kernel_rfl) (by kernel_rfl) (by kernel_rfl) (by kernel_rfl)) ?_
  intro W base args ds gs before hval0 hW hcnd hsz0 _
  have hval : ∀ (j : Nat) t v, Try.f9.params[j]? = some t → args[j]? = some v → Value.okWide Try.prog W .any base t v := hval0
  have hW' := hW
  obtain ⟨p, q, hA0, hV, rfl, hfz, hnd⟩ := hW
  have hA : DataW.TrodAll enc Try.prog W 0 (fun _ => true) true Try.f9.params.toList args.toList ds p := hA0
  rw [Try.params9] at hA hval
  obtain ⟨v0, vs0, d0, ds0, p0, q0, hargs, rfl, rfl, h0, r0⟩ := trodAll_cons hA
  obtain ⟨v1, vs1, d1, ds1, p1, q1, rfl, rfl, rfl, h1, r1⟩ := trodAll_cons r0
  obtain ⟨rfl, rfl, rfl⟩ := trodAll_nil r1
  obtain rfl : args = #[v0, v1] := by cases args; simp_all
  obtain ⟨rfl, rfl⟩ := trodVars_none hV
  obtain ⟨a0, len0, cap0, rfl⟩ := okWide_slice Try.underlying56 (hval 0 56 v0 rfl rfl)
  obtain ⟨a1, len1, cap1, rfl⟩ := okWide_slice Try.underlying56 (hval 1 56 v1 rfl rfl)
  have k0 := h0
  have k1 := h1
  have lt0 : ∀ x ∈ p0, x.block < W.heap.size := by obtain ⟨m, hm⟩ := k0; exact DataW.trod_lt m _ _ _ hm
  have lt1 : ∀ x ∈ p1, x.block < W.heap.size := by obtain ⟨m, hm⟩ := k1; exact DataW.trod_lt m _ _ _ hm
  obtain ⟨l0, rfl, hc0, hr0, _⟩ : ∃ l : List Q.S106, l.length = len0 ∧ len0 ≤ cap0 ∧ Go.Proofs.YtgikimegikelkaaW.PrintWords.Kd.C Q.k106 W a0 len0 l ∧ ∀ y ∈ l, True := by
    obtain ⟨fuel, hf⟩ := h0
    exact Q.read_row (k := Q.k106) (Wf := fun _ => True) Try.underlying56 (by kernel_rfl) Q.read106 hf
  obtain ⟨l1, rfl, hc1, hr1, _⟩ : ∃ l : List Q.S106, l.length = len1 ∧ len1 ≤ cap1 ∧ Go.Proofs.YtgikimegikelkaaW.PrintWords.Kd.C Q.k106 W a1 len1 l ∧ ∀ y ∈ l, True := by
    obtain ⟨fuel, hf⟩ := h1
    exact Q.read_row (k := Q.k106) (Wf := fun _ => True) Try.underlying56 (by kernel_rfl) Q.read106 hf
  clear hA0 hval0 hsz0
  obtain ⟨k, hk⟩ := Q.meets_plain l0 l1
  refine (Q.weirgatelaw40_PlanMeetsAsSpecified.calls k a0 cap0 l0 a1 cap1 l1 true W hr0 hc0 hr1 hc1 hk).mono fun e W' ⟨he, bel⟩ => ?_
  subst he
  exact ⟨_, rfl, _, _, _, [], _, [], hW', trodAll_mk1 (shut_bool Try.underlying4 _), (trodAll_cons_mk (Below.trod laidOut (by kernel_rfl) (of_decide_eq_true (by kernel_rfl)) k0 bel lt0) (trodAll_cons_mk (Below.trod laidOut (by kernel_rfl) (of_decide_eq_true (by kernel_rfl)) k1 bel lt1) trodAll_mk0)), rfl, bel.frame _, fun h => by cases h⟩
theorem b0 : (Rows.planMeetsAsSpecifiedRow.wf (OpenSpec.ofChange Rows.planMeetsAsSpecifiedSpec)) = true := by kernel_rfl
theorem b1 : (laidOutB Try.prog) = true := by kernel_rfl
theorem b2 : (mapsRowed Try.prog) = true := by kernel_rfl
theorem b3 : (Try.f9.params.all (Try.prog.readableRec ·)) = true := by kernel_rfl
theorem b4 : (namedTie Try.prog Rows.planMeetsAsSpecifiedRow.named Rows.planMeetsAsSpecifiedSpec.vars) = true := by kernel_rfl
theorem b5 : ((Rows.planMeetsAsSpecifiedRow.stops == [])) = true := by kernel_rfl
theorem b6 : ((Try.prog.stops == [])) = true := by kernel_rfl
theorem b7 : ((Rows.planMeetsAsSpecifiedRow.knobs == [])) = true := by kernel_rfl
theorem b8 : ((Try.prog.stopKnobs == [])) = true := by kernel_rfl
theorem b9 : ((Rows.planMeetsAsSpecifiedRow.inPlace == Try.prog.inPlace 9)) = true := by kernel_rfl
theorem b10 : ((Rows.planMeetsAsSpecifiedRow.unfollowed == Try.prog.unfollowed 9)) = true := by kernel_rfl
theorem b11 : ((Rows.planMeetsAsSpecifiedRow.recurses == Try.prog.recurses 9)) = true := by kernel_rfl
theorem b12 : ((Rows.planMeetsAsSpecifiedRow.named == Try.prog.varsNamed 9)) = true := by kernel_rfl
theorem b13 : ((Rows.planMeetsAsSpecifiedRow.maps == (Try.f9.params.toList ++ Rows.planMeetsAsSpecifiedSpec.plain.varTypes Try.prog).any (Try.prog.mapsRec ·))) = true := by kernel_rfl
theorem b14 : ((Rows.planMeetsAsSpecifiedRow.ifaces == (Try.f9.params.toList ++ Rows.planMeetsAsSpecifiedSpec.plain.varTypes Try.prog).any (Try.prog.ifacesRec ·))) = true := by kernel_rfl
theorem b15 : ((Rows.planMeetsAsSpecifiedRow.mapsOut == Try.prog.mapsAmong Try.f9.resultTypes.toList)) = true := by kernel_rfl
theorem b16 : ((Rows.planMeetsAsSpecifiedRow.loops == (Try.f9.params.toList ++ Rows.planMeetsAsSpecifiedSpec.plain.varTypes Try.prog).any (Try.prog.loopsFrom ·))) = true := by kernel_rfl
theorem b17 : ((Rows.planMeetsAsSpecifiedRow.wideKeys == (Try.f9.params.toList ++ Rows.planMeetsAsSpecifiedSpec.plain.varTypes Try.prog ++ Try.f9.resultTypes.toList).any (Try.prog.wideKeysFrom ·))) = true := by kernel_rfl
theorem b18 : (Rows.planMeetsAsSpecifiedSpec.vars.all (Try.prog.varReadable ·)) = true := by kernel_rfl
theorem b19 : (Try.f9.resultTypes.all (fun t => Try.prog.readableRec t && decide (t < Try.prog.types.size))) = true := by kernel_rfl
theorem b20 : ((Rows.planMeetsAsSpecifiedRow.ifacesOut == Try.f9.resultTypes.toList.any (Try.prog.ifacesRec ·))) = true := by kernel_rfl
theorem b21 : ((Rows.planMeetsAsSpecifiedRow.loopsOut == Try.f9.resultTypes.toList.any (Try.prog.loopsFrom ·))) = true := by kernel_rfl
theorem b22 : ((Rows.planMeetsAsSpecifiedRow.plainKeys == Try.prog.plainKeys)) = true := by kernel_rfl
theorem b23 : (Rows.planMeetsAsSpecifiedRow.shortTexts.isNone) = true := by kernel_rfl
theorem b24 : (Try.prog.stopsHeard) = true := by kernel_rfl
theorem b25 : (Try.prog.mayEnter) = true := Facts.mayEnter
theorem b26 : ((Rows.planMeetsAsSpecifiedRow.lifted == Try.prog.liftsFinal)) = true := by rw [Facts.liftsFinal]; rfl
theorem b27 : ((Try.prog.make == some Rows.planMeetsAsSpecifiedRow.make)) = true := by rw [Facts.make]; rfl
theorem b28 : ((Rows.planMeetsAsSpecifiedRow.kinds == (if Rows.planMeetsAsSpecifiedRow.domain.isEmpty then [] else Try.f9.params.toList.map fun t => match Try.prog.underlying t with | some (.int k) => some k | _ => none))) = true := by kernel_rfl
theorem b29 : ((Rows.planMeetsAsSpecifiedRow.pinned == Rows.planMeetsAsSpecifiedRow.pinnedBy)) = true := by kernel_rfl
theorem b30 : ((Rows.planMeetsAsSpecifiedRow.veiled == (Try.f9.params.toList ++ Rows.planMeetsAsSpecifiedSpec.plain.varTypes Try.prog ++ Try.f9.resultTypes.toList).any (Try.prog.veiledRec ·))) = true := by kernel_rfl
theorem b31 : (Rows.planMeetsAsSpecifiedRow.veiledFits Try.prog Try.f9.params.toList (Try.f9.params.toList ++ Rows.planMeetsAsSpecifiedSpec.plain.varTypes Try.prog ++ Try.f9.resultTypes.toList)) = true := by kernel_rfl
theorem and_mk {a b : Bool} (h : a = true) (k : b = true) : (a && b) = true := by rw [h, k]; rfl
set_option maxRecDepth 100000 in
theorem closed : joinedFacts Try.prog 9 Try.f9 Rows.planMeetsAsSpecifiedSpec Rows.planMeetsAsSpecifiedRow = true :=
  (and_mk (and_mk (and_mk (and_mk (and_mk (and_mk (and_mk (and_mk (and_mk (and_mk (and_mk (and_mk (and_mk (and_mk (and_mk (and_mk (and_mk (and_mk (and_mk (and_mk (and_mk (and_mk (and_mk (and_mk (and_mk (and_mk (and_mk (and_mk (and_mk (and_mk (and_mk b0 b1) b2) b3) b4) b5) b6) b7) b8) b9) b10) b11) b12) b13) b14) b15) b16) b17) b18) b19) b20) b21) b22) b23) b24) b25) b26) b27) b28) b29) b30) b31)
theorem over : Rows.planMeetsAsSpecifiedRow.holds Try.pinned (OpenSpec.ofChange Rows.planMeetsAsSpecifiedSpec) :=
  OpenClaim.holds_of_wide 9 Try.f9 rfl rfl rfl rfl rfl rfl rfl ⟨rfl, rfl, rfl, rfl, rfl⟩ rfl rfl rfl rfl rfl (by kernel_rfl) Try.func9 closed
    (of_decide_eq_true (by kernel_rfl)) (by unfold Func.isWrapper; first | (rw [if_pos (by decide +kernel)]; kernel_rfl) | (rw [if_neg (by decide +kernel)]; exact ⟨rfl, rfl⟩))
    (fun os started H enc _ => lifted os started H enc)
theorem proved : Rows.PlanMeetsAsSpecifiedSaid := over
end Go.Proofs.Ytgikimegikelkaa.planMeetsAsSpecified
namespace Go.Proofs.Ytgikimegikelkaa
/-- The row, under a short name, for the claim. -/
theorem planMeetsAsSpecified_holds : Rows.PlanMeetsAsSpecifiedSaid := planMeetsAsSpecified.proved
end Go.Proofs.Ytgikimegikelkaa
#print axioms Go.Proofs.Ytgikimegikelkaa.planMeetsAsSpecified_holds
