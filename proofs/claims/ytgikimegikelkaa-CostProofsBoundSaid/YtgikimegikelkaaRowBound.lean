/- The law CostProofsBound holds: for all arguments of the model's memory the call returns true, does not panic, and leaves its arguments as they were. -/
import Derived.Test.YtgikimegikelkaaRows
import Derived.Test.YtgikimegikelkaaR11g
import Derived.Test.YtgikimegikelkaaAbArg
import Derived.Test.YtgikimegikelkaaAbS
import Derived.Test.YtgikimegikelkaaFacts
import Derived.WalkKit
import Derived.ProofKit
import Derived.OpenShut
import Derived.ShutString
import Derived.ChangeOld
import Derived.Below
import Derived.SizedLaws
namespace Go.Proofs.Ytgikimegikelkaa.costProofsBound
open Go.ChangeShapes Go.WideShapes Go.ChangeAt Go.RowKit Go.Proofs.Ytgikimegikelkaa.Ab Go.Proofs.Ytgikimegikelkaa.Dn Go.Proofs.Ytgikimegikelkaa.AbT
open Go.ChangeMaps (open_string shut_string)
set_option linter.all false
theorem own : ownKnob Try.prog.godebug = none := by kernel_rfl
theorem laidOut : laidOutB Try.prog = true := by kernel_rfl
theorem arr2 {α : Type} {cs : Array α} (h : cs.size = 2) : ∃ a b, cs = #[a, b] := by
  obtain ⟨c⟩ := cs
  match c, h with
  | [a, b], _ => exact ⟨_, _, rfl⟩
theorem arr5 {α : Type} {cs : Array α} (h : cs.size = 5) : ∃ a b c d e, cs = #[a, b, c, d, e] := by
  obtain ⟨c⟩ := cs
  match c, h with
  | [a, b, c, d, e], _ => exact ⟨_, _, _, _, _, rfl⟩
theorem lst2 {α : Type} {xs : List α} (h : xs.length = 2) : ∃ a b, xs = [a, b] := by
  match xs, h with
  | [a, b], _ => exact ⟨_, _, rfl⟩
theorem lst5 {α : Type} {xs : List α} (h : xs.length = 5) : ∃ a b c d e, xs = [a, b, c, d, e] := by
  match xs, h with
  | [a, b, c, d, e], _ => exact ⟨_, _, _, _, _, rfl⟩

set_option maxRecDepth 100000 in
theorem lifted (os : Os) (started : os.Started) (H : Type) (enc : TypeId × Value → H) :
    ReturnsInHanded {} Try.checked os 15 .any (Rows.costProofsBoundSpec.pre6 enc Try.prog Try.f15 Rows.costProofsBoundRow.domain false) (Rows.costProofsBoundSpec.post enc Try.prog Try.f15 false true false false) := by
  refine returnsInHanded_of_change_sized (C := Try.checked) own started (by kernel_rfl) Try.func15
    (ChangeSpec.witness6 (enc := enc) (C := Try.checked) false ⟨#[], #[.agg #[.int .i64 0, .slice none 0 0], .int .i64 0, .int .i64 0, .int .i64 0, .agg #[.int .i64 0, .int .i64 0, .slice none 0 0, .slice none 0 0, .slice none 0 0], .slice none 0 0], []⟩ 8 (by kernel_rfl) (by kernel_rfl) (by kernel_rfl) (by kernel_rfl)) ?_
  intro W base args ds gs before hval0 hW hcnd hsz0 _
  have hval : ∀ (j : Nat) t v, Try.f15.params[j]? = some t → args[j]? = some v → Value.okWide Try.prog W .any base t v := hval0
  have hW' := hW
  obtain ⟨p, q, hA0, hV, rfl, hfz, hnd⟩ := hW
  have hA : DataW.TrodAll enc Try.prog W 0 (fun _ => true) true Try.f15.params.toList args.toList ds p := hA0
  rw [Try.params15] at hA hval
  obtain ⟨v0, vs0, d0, ds0, p0, q0, hargs, rfl, rfl, h0, r0⟩ := trodAll_cons hA
  obtain ⟨v1, vs1, d1, ds1, p1, q1, rfl, rfl, rfl, h1, r1⟩ := trodAll_cons r0
  obtain ⟨v2, vs2, d2, ds2, p2, q2, rfl, rfl, rfl, h2, r2⟩ := trodAll_cons r1
  obtain ⟨v3, vs3, d3, ds3, p3, q3, rfl, rfl, rfl, h3, r3⟩ := trodAll_cons r2
  obtain ⟨v4, vs4, d4, ds4, p4, q4, rfl, rfl, rfl, h4, r4⟩ := trodAll_cons r3
  obtain ⟨v5, vs5, d5, ds5, p5, q5, rfl, rfl, rfl, h5, r5⟩ := trodAll_cons r4
  obtain ⟨rfl, rfl, rfl⟩ := trodAll_nil r5
  obtain rfl : args = #[v0, v1, v2, v3, v4, v5] := by cases args; simp_all
  obtain ⟨rfl, rfl⟩ := trodVars_none hV
  have k0 := h0
  have lt0 : ∀ x ∈ p0, x.block < W.heap.size := by obtain ⟨m, hm⟩ := k0; exact DataW.trod_lt m _ _ _ hm
  have k1 := h1
  have lt1 : ∀ x ∈ p1, x.block < W.heap.size := by obtain ⟨m, hm⟩ := k1; exact DataW.trod_lt m _ _ _ hm
  have k2 := h2
  have lt2 : ∀ x ∈ p2, x.block < W.heap.size := by obtain ⟨m, hm⟩ := k2; exact DataW.trod_lt m _ _ _ hm
  have k3 := h3
  have lt3 : ∀ x ∈ p3, x.block < W.heap.size := by obtain ⟨m, hm⟩ := k3; exact DataW.trod_lt m _ _ _ hm
  have k4 := h4
  have lt4 : ∀ x ∈ p4, x.block < W.heap.size := by obtain ⟨m, hm⟩ := k4; exact DataW.trod_lt m _ _ _ hm
  have k5 := h5
  have lt5 : ∀ x ∈ p5, x.block < W.heap.size := by obtain ⟨m, hm⟩ := k5; exact DataW.trod_lt m _ _ _ hm
  clear hA0 hsz0 hcnd
  obtain ⟨cs0, rfl, hz0, hc0⟩ := okWide_row (ts := [3, 22]) Try.underlying24 (by kernel_rfl) (hval 0 24 v0 rfl rfl)
  obtain ⟨fu0, ff0⟩ := id h0
  obtain ⟨xs0, fm0, _, _, fl0, fn0, fg0⟩ := DataW.trod_struct Try.underlying24 ff0
  have hz0' : cs0.size = 2 := hz0.trans (by kernel_rfl)
  obtain ⟨w0_0, w0_1, rfl⟩ := arr2 hz0'
  obtain ⟨y0_0, y0_1, rfl⟩ := lst2 (xs := xs0) (fn0.trans rfl)
  obtain ⟨x0_0, rfl⟩ := okc_int Try.underlying3 (hc0 0 _ 3 rfl rfl)
  obtain ⟨a0_1, n0_1, c0_1, rfl⟩ := okc_slice Try.underlying22 (hc0 1 _ 22 rfl rfl)
  have tr0_1 : DataW.trod enc Try.prog W 0 (fun _ => true) true fm0 22 (List.take (Try.prog.cellsOf 22) [.slice a0_1 n0_1 c0_1]) = some y0_1 := fg0 1 _ rfl
  have ce0_1 : Try.prog.cellsOf 22 = 1 := by kernel_rfl
  rw [ce0_1] at tr0_1
  have as0_1 := ArgS.of Try.underlying22 (hc0 1 _ 22 rfl rfl)
  obtain ⟨rw0_1, rl0_1, rr0_1, mx0_1⟩ := rows_read (e := 80) (sz := 4) Try.underlying22 (by kernel_rfl) (fun n cs x hh => ints_read Try.underlying80 (by kernel_rfl) (by kernel_rfl) hh) as0_1 (tr0_1)
  obtain ⟨l0_1, ll0_1, hl0_1⟩ := rr0_1.arcs
  have le0_1 : n0_1 = l0_1.length := by rw [ll0_1, rl0_1]
  subst le0_1
  obtain ⟨x1, rfl⟩ := okWide_int Try.underlying3 (hval 1 3 v1 rfl rfl)
  obtain ⟨x2, rfl⟩ := okWide_int Try.underlying3 (hval 2 3 v2 rfl rfl)
  obtain ⟨x3, rfl⟩ := okWide_int Try.underlying3 (hval 3 3 v3 rfl rfl)
  obtain ⟨cs4, rfl, hz4, hc4⟩ := okWide_row (ts := [3, 3, 27, 27, 27]) Try.underlying63 (by kernel_rfl) (hval 4 63 v4 rfl rfl)
  obtain ⟨fu4, ff4⟩ := id h4
  obtain ⟨xs4, fm4, _, _, fl4, fn4, fg4⟩ := DataW.trod_struct Try.underlying63 ff4
  have hz4' : cs4.size = 5 := hz4.trans (by kernel_rfl)
  obtain ⟨w4_0, w4_1, w4_2, w4_3, w4_4, rfl⟩ := arr5 hz4'
  obtain ⟨y4_0, y4_1, y4_2, y4_3, y4_4, rfl⟩ := lst5 (xs := xs4) (fn4.trans rfl)
  obtain ⟨x4_0, rfl⟩ := okc_int Try.underlying3 (hc4 0 _ 3 rfl rfl)
  obtain ⟨x4_1, rfl⟩ := okc_int Try.underlying3 (hc4 1 _ 3 rfl rfl)
  obtain ⟨a4_2, n4_2, c4_2, rfl⟩ := okc_slice Try.underlying27 (hc4 2 _ 27 rfl rfl)
  have tr4_2 : DataW.trod enc Try.prog W 0 (fun _ => true) true fm4 27 (List.take (Try.prog.cellsOf 27) [.slice a4_2 n4_2 c4_2]) = some y4_2 := fg4 2 _ rfl
  have ce4_2 : Try.prog.cellsOf 27 = 1 := by kernel_rfl
  rw [ce4_2] at tr4_2
  have as4_2 := ArgS.of Try.underlying27 (hc4 2 _ 27 rfl rfl)
  obtain ⟨rw4_2, rl4_2, rr4_2, mx4_2⟩ := rows_read (e := 3) (sz := 1) Try.underlying27 (by kernel_rfl) (fun n cs x hh => int_read Try.underlying3 hh) as4_2 (tr4_2)
  obtain ⟨l4_2, ll4_2, hl4_2⟩ := rr4_2.ints
  have le4_2 : n4_2 = l4_2.length := by rw [ll4_2, rl4_2]
  subst le4_2
  obtain ⟨a4_3, n4_3, c4_3, rfl⟩ := okc_slice Try.underlying27 (hc4 3 _ 27 rfl rfl)
  have tr4_3 : DataW.trod enc Try.prog W 0 (fun _ => true) true fm4 27 (List.take (Try.prog.cellsOf 27) [.slice a4_3 n4_3 c4_3]) = some y4_3 := fg4 3 _ rfl
  have ce4_3 : Try.prog.cellsOf 27 = 1 := by kernel_rfl
  rw [ce4_3] at tr4_3
  have as4_3 := ArgS.of Try.underlying27 (hc4 3 _ 27 rfl rfl)
  obtain ⟨rw4_3, rl4_3, rr4_3, mx4_3⟩ := rows_read (e := 3) (sz := 1) Try.underlying27 (by kernel_rfl) (fun n cs x hh => int_read Try.underlying3 hh) as4_3 (tr4_3)
  obtain ⟨l4_3, ll4_3, hl4_3⟩ := rr4_3.ints
  have le4_3 : n4_3 = l4_3.length := by rw [ll4_3, rl4_3]
  subst le4_3
  obtain ⟨a4_4, n4_4, c4_4, rfl⟩ := okc_slice Try.underlying27 (hc4 4 _ 27 rfl rfl)
  have tr4_4 : DataW.trod enc Try.prog W 0 (fun _ => true) true fm4 27 (List.take (Try.prog.cellsOf 27) [.slice a4_4 n4_4 c4_4]) = some y4_4 := fg4 4 _ rfl
  have ce4_4 : Try.prog.cellsOf 27 = 1 := by kernel_rfl
  rw [ce4_4] at tr4_4
  have as4_4 := ArgS.of Try.underlying27 (hc4 4 _ 27 rfl rfl)
  obtain ⟨rw4_4, rl4_4, rr4_4, mx4_4⟩ := rows_read (e := 3) (sz := 1) Try.underlying27 (by kernel_rfl) (fun n cs x hh => int_read Try.underlying3 hh) as4_4 (tr4_4)
  obtain ⟨l4_4, ll4_4, hl4_4⟩ := rr4_4.ints
  have le4_4 : n4_4 = l4_4.length := by rw [ll4_4, rl4_4]
  subst le4_4
  obtain ⟨a5, n5, c5, rfl⟩ := okWide_slice Try.underlying27 (hval 5 27 v5 rfl rfl)
  obtain ⟨fu5, ff5⟩ := id h5
  have as5 := ArgS.of Try.underlying27 (okWide_cell Try.underlying27 (hval 5 27 _ rfl rfl))
  obtain ⟨rw5, rl5, rr5, mx5⟩ := rows_read (e := 3) (sz := 1) Try.underlying27 (by kernel_rfl) (fun n cs x hh => int_read Try.underlying3 hh) as5 (ff5)
  obtain ⟨l5, ll5, hl5⟩ := rr5.ints
  have le5 : n5 = l5.length := by rw [ll5, rl5]
  subst le5
  have hcall : Calls Try.prog 15 #[.agg #[.int .i64 x0_0, .slice a0_1 l0_1.length c0_1], .int .i64 x1, .int .i64 x2, .int .i64 x3, .agg #[.int .i64 x4_0, .int .i64 x4_1, .slice a4_2 l4_2.length c4_2, .slice a4_3 l4_3.length c4_3, .slice a4_4 l4_4.length c4_4], .slice a5 l5.length c5] W (fun e w1 => e = .returned (.bool true) ∧ Below W.heap.size W w1) := by
    obtain ⟨k, q, hr, hq⟩ := Ev.get (law_bound (h := hp0 W) (F := ⟨x4_0, x4_1, a4_2, c4_2, l4_2, a4_3, c4_3, l4_3, a4_4, c4_4, l4_4⟩) hl0_1 ⟨hl4_2, hl4_3, hl4_4⟩ hl5 (Nat.le_trans mx4_4 (by decide)))
    obtain ⟨qv, qh⟩ := q
    have hq' : qv = .bool true := hq
    subst hq'
    exact top_true (fv := d_law11_CostProofsBound.v k) (d_law11_CostProofsBound.snd (H := fun _ => True) (fun _ _ _ h => h) k) W (E1_ok W) (args := [.agg #[.int .i64 x0_0, .slice a0_1 l0_1.length c0_1], .int .i64 x1, .int .i64 x2, .int .i64 x3, .agg #[.int .i64 x4_0, .int .i64 x4_1, .slice a4_2 l4_2.length c4_2, .slice a4_3 l4_3.length c4_3, .slice a4_4 l4_4.length c4_4], .slice a5 l5.length c5]) (VRL.cons _ _ _ _ (.agg _ _ (VRL.cons _ _ _ _ (VR.int .i64 _) (VRL.cons _ _ _ _ (as0_1.vr) (VRL.nil))) (by intro x hx; simp at hx; rcases hx with rfl | rfl <;> rfl)) (VRL.cons _ _ _ _ (VR.int .i64 _) (VRL.cons _ _ _ _ (VR.int .i64 _) (VRL.cons _ _ _ _ (VR.int .i64 _) (VRL.cons _ _ _ _ (.agg _ _ (VRL.cons _ _ _ _ (VR.int .i64 _) (VRL.cons _ _ _ _ (VR.int .i64 _) (VRL.cons _ _ _ _ (as4_2.vr) (VRL.cons _ _ _ _ (as4_3.vr) (VRL.cons _ _ _ _ (as4_4.vr) (VRL.nil)))))) (by intro x hx; simp at hx; rcases hx with rfl | rfl | rfl | rfl | rfl <;> rfl)) (VRL.cons _ _ _ _ (as5.vr) (VRL.nil))))))) (h1 := qh) hr
  refine hcall.mono fun e W' ⟨he, bel⟩ => ?_
  subst he
  exact ⟨_, rfl, _, _, _, [], _, [], hW', trodAll_mk1 (shut_bool Try.underlying4 _), (trodAll_cons_mk (Below.trod laidOut (by kernel_rfl) (of_decide_eq_true (by kernel_rfl)) k0 bel lt0) (trodAll_cons_mk (Below.trod laidOut (by kernel_rfl) (of_decide_eq_true (by kernel_rfl)) k1 bel lt1) (trodAll_cons_mk (Below.trod laidOut (by kernel_rfl) (of_decide_eq_true (by kernel_rfl)) k2 bel lt2) (trodAll_cons_mk (Below.trod laidOut (by kernel_rfl) (of_decide_eq_true (by kernel_rfl)) k3 bel lt3) (trodAll_cons_mk (Below.trod laidOut (by kernel_rfl) (of_decide_eq_true (by kernel_rfl)) k4 bel lt4) (trodAll_cons_mk (Below.trod laidOut (by kernel_rfl) (of_decide_eq_true (by kernel_rfl)) k5 bel lt5) trodAll_mk0)))))), rfl, bel.frame _, fun h => by cases h⟩

theorem b0 : (Rows.costProofsBoundRow.wf (OpenSpec.ofChange Rows.costProofsBoundSpec)) = true := by kernel_rfl
theorem b1 : (laidOutB Try.prog) = true := by kernel_rfl
theorem b2 : (mapsRowed Try.prog) = true := by kernel_rfl
theorem b3 : (Try.f15.params.all (Try.prog.readableRec ·)) = true := by kernel_rfl
theorem b4 : (namedTie Try.prog Rows.costProofsBoundRow.named Rows.costProofsBoundSpec.vars) = true := by kernel_rfl
theorem b5 : ((Rows.costProofsBoundRow.stops == [])) = true := by kernel_rfl
theorem b6 : ((Try.prog.stops == [])) = true := by kernel_rfl
theorem b7 : ((Rows.costProofsBoundRow.knobs == [])) = true := by kernel_rfl
theorem b8 : ((Try.prog.stopKnobs == [])) = true := by kernel_rfl
theorem b9 : ((Rows.costProofsBoundRow.inPlace == Try.prog.inPlace 15)) = true := by kernel_rfl
theorem b10 : ((Rows.costProofsBoundRow.unfollowed == Try.prog.unfollowed 15)) = true := by kernel_rfl
theorem b11 : ((Rows.costProofsBoundRow.recurses == Try.prog.recurses 15)) = true := by kernel_rfl
theorem b12 : ((Rows.costProofsBoundRow.named == Try.prog.varsNamed 15)) = true := by kernel_rfl
theorem b13 : ((Rows.costProofsBoundRow.maps == (Try.f15.params.toList ++ Rows.costProofsBoundSpec.plain.varTypes Try.prog).any (Try.prog.mapsRec ·))) = true := by kernel_rfl
theorem b14 : ((Rows.costProofsBoundRow.ifaces == (Try.f15.params.toList ++ Rows.costProofsBoundSpec.plain.varTypes Try.prog).any (Try.prog.ifacesRec ·))) = true := by kernel_rfl
theorem b15 : ((Rows.costProofsBoundRow.mapsOut == Try.prog.mapsAmong Try.f15.resultTypes.toList)) = true := by kernel_rfl
theorem b16 : ((Rows.costProofsBoundRow.loops == (Try.f15.params.toList ++ Rows.costProofsBoundSpec.plain.varTypes Try.prog).any (Try.prog.loopsFrom ·))) = true := by kernel_rfl
theorem b17 : ((Rows.costProofsBoundRow.wideKeys == (Try.f15.params.toList ++ Rows.costProofsBoundSpec.plain.varTypes Try.prog ++ Try.f15.resultTypes.toList).any (Try.prog.wideKeysFrom ·))) = true := by kernel_rfl
theorem b18 : (Rows.costProofsBoundSpec.vars.all (Try.prog.varReadable ·)) = true := by kernel_rfl
theorem b19 : (Try.f15.resultTypes.all (fun t => Try.prog.readableRec t && decide (t < Try.prog.types.size))) = true := by kernel_rfl
theorem b20 : ((Rows.costProofsBoundRow.ifacesOut == Try.f15.resultTypes.toList.any (Try.prog.ifacesRec ·))) = true := by kernel_rfl
theorem b21 : ((Rows.costProofsBoundRow.loopsOut == Try.f15.resultTypes.toList.any (Try.prog.loopsFrom ·))) = true := by kernel_rfl
theorem b22 : ((Rows.costProofsBoundRow.plainKeys == Try.prog.plainKeys)) = true := by kernel_rfl
theorem b23 : (Rows.costProofsBoundRow.shortTexts.isNone) = true := by kernel_rfl
theorem b24 : (Try.prog.stopsHeard) = true := by kernel_rfl
theorem b25 : (Try.prog.mayEnter) = true := Facts.mayEnter
theorem b26 : ((Rows.costProofsBoundRow.lifted == Try.prog.liftsFinal)) = true := by rw [Facts.liftsFinal]; rfl
theorem b27 : ((Try.prog.make == some Rows.costProofsBoundRow.make)) = true := by rw [Facts.make]; rfl
theorem b28 : ((Rows.costProofsBoundRow.kinds == (if Rows.costProofsBoundRow.domain.isEmpty then [] else Try.f15.params.toList.map fun t => match Try.prog.underlying t with | some (.int k) => some k | _ => none))) = true := by kernel_rfl
theorem b29 : ((Rows.costProofsBoundRow.pinned == Rows.costProofsBoundRow.pinnedBy)) = true := by kernel_rfl
theorem b30 : ((Rows.costProofsBoundRow.veiled == (Try.f15.params.toList ++ Rows.costProofsBoundSpec.plain.varTypes Try.prog ++ Try.f15.resultTypes.toList).any (Try.prog.veiledRec ·))) = true := by kernel_rfl
theorem b31 : (Rows.costProofsBoundRow.veiledFits Try.prog Try.f15.params.toList (Try.f15.params.toList ++ Rows.costProofsBoundSpec.plain.varTypes Try.prog ++ Try.f15.resultTypes.toList)) = true := by kernel_rfl
theorem and_mk {a b : Bool} (h : a = true) (k : b = true) : (a && b) = true := by rw [h, k]; rfl
set_option maxRecDepth 100000 in
theorem closed : joinedFacts Try.prog 15 Try.f15 Rows.costProofsBoundSpec Rows.costProofsBoundRow = true :=
  (and_mk (and_mk (and_mk (and_mk (and_mk (and_mk (and_mk (and_mk (and_mk (and_mk (and_mk (and_mk (and_mk (and_mk (and_mk (and_mk (and_mk (and_mk (and_mk (and_mk (and_mk (and_mk (and_mk (and_mk (and_mk (and_mk (and_mk (and_mk (and_mk (and_mk (and_mk b0 b1) b2) b3) b4) b5) b6) b7) b8) b9) b10) b11) b12) b13) b14) b15) b16) b17) b18) b19) b20) b21) b22) b23) b24) b25) b26) b27) b28) b29) b30) b31)
theorem over : Rows.costProofsBoundRow.holds Try.pinned (OpenSpec.ofChange Rows.costProofsBoundSpec) :=
  OpenClaim.holds_of_wide 15 Try.f15 rfl rfl rfl rfl rfl rfl rfl ⟨rfl, rfl, rfl, rfl, rfl⟩ rfl rfl rfl rfl rfl (by kernel_rfl) Try.func15 closed
    (of_decide_eq_true (by kernel_rfl)) (by unfold Func.isWrapper; first | (rw [if_pos (by decide +kernel)]; kernel_rfl) | (rw [if_neg (by decide +kernel)]; exact ⟨rfl, rfl⟩))
    (fun os started H enc _ => lifted os started H enc)
theorem proved : Rows.CostProofsBoundSaid := over
end Go.Proofs.Ytgikimegikelkaa.costProofsBound
namespace Go.Proofs.Ytgikimegikelkaa
/-- The row, under a short name, for the claim. -/
theorem costProofsBound_holds : Rows.CostProofsBoundSaid := costProofsBound.proved
end Go.Proofs.Ytgikimegikelkaa
#print axioms Go.Proofs.Ytgikimegikelkaa.costProofsBound_holds

