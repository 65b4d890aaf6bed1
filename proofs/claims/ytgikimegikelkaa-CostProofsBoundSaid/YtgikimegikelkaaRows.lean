/-
  No cell of these rows narrows 'for every input' (looked for: loops, veiled, ifaces, maps, wideKeys, modest, calm, conditions, laid).
  DERIVED. THE GIVEN ROWS OF THIS SEAT. 19 by the template 'for every input the law returns true; each argument reads behind the call as it read before'; 0 by the template 'total and deterministic' (their statements: YtgikimegikelkaaTotals.lean).
  GIVEN WITH THE SEED: the statements are not yours to turn. If you find one false, say at which input.
  Laid BY PROGRAM, IN A SANDBOX (cutbox-rows.mjs): the forced cells as the released guide's own fill.sh prints them over the translation 6193a532f633b35f… (all of the seat's roots in one cut). By AI agents, Wed Nov 11 2026. No macro, syntax, notation, axiom, sorry.
-/
import Derived.Test.YtgikimegikelkaaChecked
import GoSem.Claim
import GoSem.ClaimJoined
import GoSem.ClaimMapViews
import Derived.JoinedTies
import Derived.KernelRfl
namespace Go.Proofs.Ytgikimegikelkaa
/- THE CELL 'sum', in the pinned program and in every row, IS THE sha256 OF THE DUMP (.gsa) THAT YtgikimegikelkaaProg.lean LOADS. Nothing in Lean hashes anything: it is a label: what it is worth is what the hold of that sum in a sandbox is worth. -/
noncomputable def Try.pinned : Pinned := { name := "ytgikimegikelkaa", sum := "6193a532f633b35f8847650ccac62ac1fa10c21e55266fe39d1672c7b7fea44c", checked := Try.checked }
namespace Rows
def none {H : Type} : Left H := { results := [], args := [] }

/-- 'weirgatelaw10.FlowIsMostAsSpecified': WHATEVER THE INPUT: true; the input reads as it did. -/
def flowIsMostAsSpecifiedSpec : ChangeSpec := { name := "flowIsMostAsSpecified", fn := fun _ => fun
  | [d1, d2, d3] => { results := [.lit (.bool true)], args := [d1, d2, d3] }
  | _ => none }
def flowIsMostAsSpecifiedRow : OpenClaim := { program := "ytgikimegikelkaa", sum := "6193a532f633b35f8847650ccac62ac1fa10c21e55266fe39d1672c7b7fea44c", func := "weirgate/weirgatelaw10.FlowIsMostAsSpecified", spec := "flowIsMostAsSpecified", unfollowed := true, recurses := true, plainKeys := false, apart := false }
def FlowIsMostAsSpecifiedSaid : Prop := flowIsMostAsSpecifiedRow.holds Try.pinned (OpenSpec.ofChange flowIsMostAsSpecifiedSpec)

/-- ITS FALSE NEIGHBOUR: 'it returns false'. Refute it at one input. -/
def flowIsMostAsSpecifiedWrong : ChangeSpec := { name := "flowIsMostAsSpecified", fn := fun _ => fun
  | [d1, d2, d3] => { results := [.lit (.bool false)], args := [d1, d2, d3] }
  | _ => none }
def FlowIsMostAsSpecifiedWrongFalsely : Prop := flowIsMostAsSpecifiedRow.holds Try.pinned (OpenSpec.ofChange flowIsMostAsSpecifiedWrong)

/-- 'weirgatelaw10.FlowIsProved': WHATEVER THE INPUT: true; the input reads as it did. -/
def flowIsProvedSpec : ChangeSpec := { name := "flowIsProved", fn := fun _ => fun
  | [d1, d2, d3, d4, d5] => { results := [.lit (.bool true)], args := [d1, d2, d3, d4, d5] }
  | _ => none }
def flowIsProvedRow : OpenClaim := { program := "ytgikimegikelkaa", sum := "6193a532f633b35f8847650ccac62ac1fa10c21e55266fe39d1672c7b7fea44c", func := "weirgate/weirgatelaw10.FlowIsProved", spec := "flowIsProved", unfollowed := true, recurses := true, plainKeys := false, apart := false }
def FlowIsProvedSaid : Prop := flowIsProvedRow.holds Try.pinned (OpenSpec.ofChange flowIsProvedSpec)

/-- ITS FALSE NEIGHBOUR: 'it returns false'. Refute it at one input. -/
def flowIsProvedWrong : ChangeSpec := { name := "flowIsProved", fn := fun _ => fun
  | [d1, d2, d3, d4, d5] => { results := [.lit (.bool false)], args := [d1, d2, d3, d4, d5] }
  | _ => none }
def FlowIsProvedWrongFalsely : Prop := flowIsProvedRow.holds Try.pinned (OpenSpec.ofChange flowIsProvedWrong)

/-- 'weirgatelaw10.FlowServesAsSpecified': WHATEVER THE INPUT: true; the input reads as it did. -/
def flowServesAsSpecifiedSpec : ChangeSpec := { name := "flowServesAsSpecified", fn := fun _ => fun
  | [d1, d2] => { results := [.lit (.bool true)], args := [d1, d2] }
  | _ => none }
def flowServesAsSpecifiedRow : OpenClaim := { program := "ytgikimegikelkaa", sum := "6193a532f633b35f8847650ccac62ac1fa10c21e55266fe39d1672c7b7fea44c", func := "weirgate/weirgatelaw10.FlowServesAsSpecified", spec := "flowServesAsSpecified", unfollowed := true, recurses := true, plainKeys := false, apart := false }
def FlowServesAsSpecifiedSaid : Prop := flowServesAsSpecifiedRow.holds Try.pinned (OpenSpec.ofChange flowServesAsSpecifiedSpec)

/-- ITS FALSE NEIGHBOUR: 'it returns false'. Refute it at one input. -/
def flowServesAsSpecifiedWrong : ChangeSpec := { name := "flowServesAsSpecified", fn := fun _ => fun
  | [d1, d2] => { results := [.lit (.bool false)], args := [d1, d2] }
  | _ => none }
def FlowServesAsSpecifiedWrongFalsely : Prop := flowServesAsSpecifiedRow.holds Try.pinned (OpenSpec.ofChange flowServesAsSpecifiedWrong)

/-- 'weirgatelaw10.FlowServesOrTellsWhy': WHATEVER THE INPUT: true; the input reads as it did. -/
def flowServesOrTellsWhySpec : ChangeSpec := { name := "flowServesOrTellsWhy", fn := fun _ => fun
  | [d1, d2, d3] => { results := [.lit (.bool true)], args := [d1, d2, d3] }
  | _ => none }
def flowServesOrTellsWhyRow : OpenClaim := { program := "ytgikimegikelkaa", sum := "6193a532f633b35f8847650ccac62ac1fa10c21e55266fe39d1672c7b7fea44c", func := "weirgate/weirgatelaw10.FlowServesOrTellsWhy", spec := "flowServesOrTellsWhy", unfollowed := true, recurses := true, plainKeys := false, apart := false }
def FlowServesOrTellsWhySaid : Prop := flowServesOrTellsWhyRow.holds Try.pinned (OpenSpec.ofChange flowServesOrTellsWhySpec)

/-- ITS FALSE NEIGHBOUR: 'it returns false'. Refute it at one input. -/
def flowServesOrTellsWhyWrong : ChangeSpec := { name := "flowServesOrTellsWhy", fn := fun _ => fun
  | [d1, d2, d3] => { results := [.lit (.bool false)], args := [d1, d2, d3] }
  | _ => none }
def FlowServesOrTellsWhyWrongFalsely : Prop := flowServesOrTellsWhyRow.holds Try.pinned (OpenSpec.ofChange flowServesOrTellsWhyWrong)

/-- 'weirgatelaw10.FlowDividesAsSpecified': WHATEVER THE INPUT: true; the input reads as it did. -/
def flowDividesAsSpecifiedSpec : ChangeSpec := { name := "flowDividesAsSpecified", fn := fun _ => fun
  | [d1, d2, d3, d4] => { results := [.lit (.bool true)], args := [d1, d2, d3, d4] }
  | _ => none }
def flowDividesAsSpecifiedRow : OpenClaim := { program := "ytgikimegikelkaa", sum := "6193a532f633b35f8847650ccac62ac1fa10c21e55266fe39d1672c7b7fea44c", func := "weirgate/weirgatelaw10.FlowDividesAsSpecified", spec := "flowDividesAsSpecified", unfollowed := true, recurses := true, plainKeys := false, apart := false }
def FlowDividesAsSpecifiedSaid : Prop := flowDividesAsSpecifiedRow.holds Try.pinned (OpenSpec.ofChange flowDividesAsSpecifiedSpec)

/-- ITS FALSE NEIGHBOUR: 'it returns false'. Refute it at one input. -/
def flowDividesAsSpecifiedWrong : ChangeSpec := { name := "flowDividesAsSpecified", fn := fun _ => fun
  | [d1, d2, d3, d4] => { results := [.lit (.bool false)], args := [d1, d2, d3, d4] }
  | _ => none }
def FlowDividesAsSpecifiedWrongFalsely : Prop := flowDividesAsSpecifiedRow.holds Try.pinned (OpenSpec.ofChange flowDividesAsSpecifiedWrong)

/-- 'weirgatelaw10.FlowChecksAsSpecified': WHATEVER THE INPUT: true; the input reads as it did. -/
def flowChecksAsSpecifiedSpec : ChangeSpec := { name := "flowChecksAsSpecified", fn := fun _ => fun
  | [d1, d2, d3, d4, d5] => { results := [.lit (.bool true)], args := [d1, d2, d3, d4, d5] }
  | _ => none }
def flowChecksAsSpecifiedRow : OpenClaim := { program := "ytgikimegikelkaa", sum := "6193a532f633b35f8847650ccac62ac1fa10c21e55266fe39d1672c7b7fea44c", func := "weirgate/weirgatelaw10.FlowChecksAsSpecified", spec := "flowChecksAsSpecified", unfollowed := true, recurses := true, plainKeys := false, apart := false }
def FlowChecksAsSpecifiedSaid : Prop := flowChecksAsSpecifiedRow.holds Try.pinned (OpenSpec.ofChange flowChecksAsSpecifiedSpec)

/-- ITS FALSE NEIGHBOUR: 'it returns false'. Refute it at one input. -/
def flowChecksAsSpecifiedWrong : ChangeSpec := { name := "flowChecksAsSpecified", fn := fun _ => fun
  | [d1, d2, d3, d4, d5] => { results := [.lit (.bool false)], args := [d1, d2, d3, d4, d5] }
  | _ => none }
def FlowChecksAsSpecifiedWrongFalsely : Prop := flowChecksAsSpecifiedRow.holds Try.pinned (OpenSpec.ofChange flowChecksAsSpecifiedWrong)

/-- 'weirgatelaw40.PlanMeetsAsSpecified': WHATEVER THE INPUT: true; the input reads as it did. -/
def planMeetsAsSpecifiedSpec : ChangeSpec := { name := "planMeetsAsSpecified", fn := fun _ => fun
  | [d1, d2] => { results := [.lit (.bool true)], args := [d1, d2] }
  | _ => none }
def planMeetsAsSpecifiedRow : OpenClaim := { program := "ytgikimegikelkaa", sum := "6193a532f633b35f8847650ccac62ac1fa10c21e55266fe39d1672c7b7fea44c", func := "weirgate/weirgatelaw40.PlanMeetsAsSpecified", spec := "planMeetsAsSpecified", unfollowed := true, recurses := true, plainKeys := false, apart := false }
def PlanMeetsAsSpecifiedSaid : Prop := planMeetsAsSpecifiedRow.holds Try.pinned (OpenSpec.ofChange planMeetsAsSpecifiedSpec)

/-- ITS FALSE NEIGHBOUR: 'it returns false'. Refute it at one input. -/
def planMeetsAsSpecifiedWrong : ChangeSpec := { name := "planMeetsAsSpecified", fn := fun _ => fun
  | [d1, d2] => { results := [.lit (.bool false)], args := [d1, d2] }
  | _ => none }
def PlanMeetsAsSpecifiedWrongFalsely : Prop := planMeetsAsSpecifiedRow.holds Try.pinned (OpenSpec.ofChange planMeetsAsSpecifiedWrong)

/-- 'weirgatelaw11.CostChecksMatchSpec': WHATEVER THE INPUT: true; the input reads as it did. -/
def costChecksMatchSpecSpec : ChangeSpec := { name := "costChecksMatchSpec", fn := fun _ => fun
  | [d1, d2, d3, d4] => { results := [.lit (.bool true)], args := [d1, d2, d3, d4] }
  | _ => none }
def costChecksMatchSpecRow : OpenClaim := { program := "ytgikimegikelkaa", sum := "6193a532f633b35f8847650ccac62ac1fa10c21e55266fe39d1672c7b7fea44c", func := "weirgate/weirgatelaw11.CostChecksMatchSpec", spec := "costChecksMatchSpec", unfollowed := true, recurses := true, plainKeys := false, apart := false }
def CostChecksMatchSpecSaid : Prop := costChecksMatchSpecRow.holds Try.pinned (OpenSpec.ofChange costChecksMatchSpecSpec)

/-- ITS FALSE NEIGHBOUR: 'it returns false'. Refute it at one input. -/
def costChecksMatchSpecWrong : ChangeSpec := { name := "costChecksMatchSpec", fn := fun _ => fun
  | [d1, d2, d3, d4] => { results := [.lit (.bool false)], args := [d1, d2, d3, d4] }
  | _ => none }
def CostChecksMatchSpecWrongFalsely : Prop := costChecksMatchSpecRow.holds Try.pinned (OpenSpec.ofChange costChecksMatchSpecWrong)

/-- 'weirgatelaw11.CostSendsCheapest': WHATEVER THE INPUT: true; the input reads as it did. -/
def costSendsCheapestSpec : ChangeSpec := { name := "costSendsCheapest", fn := fun _ => fun
  | [d1, d2, d3, d4] => { results := [.lit (.bool true)], args := [d1, d2, d3, d4] }
  | _ => none }
def costSendsCheapestRow : OpenClaim := { program := "ytgikimegikelkaa", sum := "6193a532f633b35f8847650ccac62ac1fa10c21e55266fe39d1672c7b7fea44c", func := "weirgate/weirgatelaw11.CostSendsCheapest", spec := "costSendsCheapest", unfollowed := true, recurses := true, plainKeys := false, apart := false }
def CostSendsCheapestSaid : Prop := costSendsCheapestRow.holds Try.pinned (OpenSpec.ofChange costSendsCheapestSpec)

/-- ITS FALSE NEIGHBOUR: 'it returns false'. Refute it at one input. -/
def costSendsCheapestWrong : ChangeSpec := { name := "costSendsCheapest", fn := fun _ => fun
  | [d1, d2, d3, d4] => { results := [.lit (.bool false)], args := [d1, d2, d3, d4] }
  | _ => none }
def CostSendsCheapestWrongFalsely : Prop := costSendsCheapestRow.holds Try.pinned (OpenSpec.ofChange costSendsCheapestWrong)

/-- 'weirgatelaw40.PlanIsMade': WHATEVER THE INPUT: true; the input reads as it did. -/
def planIsMadeSpec : ChangeSpec := { name := "planIsMade", fn := fun _ => fun
  | [d1, d2] => { results := [.lit (.bool true)], args := [d1, d2] }
  | _ => none }
def planIsMadeRow : OpenClaim := { program := "ytgikimegikelkaa", sum := "6193a532f633b35f8847650ccac62ac1fa10c21e55266fe39d1672c7b7fea44c", func := "weirgate/weirgatelaw40.PlanIsMade", spec := "planIsMade", unfollowed := true, recurses := true, plainKeys := false, apart := false }
def PlanIsMadeSaid : Prop := planIsMadeRow.holds Try.pinned (OpenSpec.ofChange planIsMadeSpec)

/-- ITS FALSE NEIGHBOUR: 'it returns false'. Refute it at one input. -/
def planIsMadeWrong : ChangeSpec := { name := "planIsMade", fn := fun _ => fun
  | [d1, d2] => { results := [.lit (.bool false)], args := [d1, d2] }
  | _ => none }
def PlanIsMadeWrongFalsely : Prop := planIsMadeRow.holds Try.pinned (OpenSpec.ofChange planIsMadeWrong)

/-- 'weirgatelaw11.CostAcceptsAsSpecified': WHATEVER THE INPUT: true; the input reads as it did. -/
def costAcceptsAsSpecifiedSpec : ChangeSpec := { name := "costAcceptsAsSpecified", fn := fun _ => fun
  | [d1, d2, d3, d4, d5] => { results := [.lit (.bool true)], args := [d1, d2, d3, d4, d5] }
  | _ => none }
def costAcceptsAsSpecifiedRow : OpenClaim := { program := "ytgikimegikelkaa", sum := "6193a532f633b35f8847650ccac62ac1fa10c21e55266fe39d1672c7b7fea44c", func := "weirgate/weirgatelaw11.CostAcceptsAsSpecified", spec := "costAcceptsAsSpecified", unfollowed := true, recurses := true, plainKeys := false, apart := false }
def CostAcceptsAsSpecifiedSaid : Prop := costAcceptsAsSpecifiedRow.holds Try.pinned (OpenSpec.ofChange costAcceptsAsSpecifiedSpec)

/-- ITS FALSE NEIGHBOUR: 'it returns false'. Refute it at one input. -/
def costAcceptsAsSpecifiedWrong : ChangeSpec := { name := "costAcceptsAsSpecified", fn := fun _ => fun
  | [d1, d2, d3, d4, d5] => { results := [.lit (.bool false)], args := [d1, d2, d3, d4, d5] }
  | _ => none }
def CostAcceptsAsSpecifiedWrongFalsely : Prop := costAcceptsAsSpecifiedRow.holds Try.pinned (OpenSpec.ofChange costAcceptsAsSpecifiedWrong)

/-- 'weirgatelaw11.CostNextIsDifference': WHATEVER THE INPUT: true; the input reads as it did. -/
def costNextIsDifferenceSpec : ChangeSpec := { name := "costNextIsDifference", fn := fun _ => fun
  | [d1, d2, d3, d4] => { results := [.lit (.bool true)], args := [d1, d2, d3, d4] }
  | _ => none }
def costNextIsDifferenceRow : OpenClaim := { program := "ytgikimegikelkaa", sum := "6193a532f633b35f8847650ccac62ac1fa10c21e55266fe39d1672c7b7fea44c", func := "weirgate/weirgatelaw11.CostNextIsDifference", spec := "costNextIsDifference", unfollowed := true, recurses := true, plainKeys := false, apart := false }
def CostNextIsDifferenceSaid : Prop := costNextIsDifferenceRow.holds Try.pinned (OpenSpec.ofChange costNextIsDifferenceSpec)

/-- ITS FALSE NEIGHBOUR: 'it returns false'. Refute it at one input. -/
def costNextIsDifferenceWrong : ChangeSpec := { name := "costNextIsDifference", fn := fun _ => fun
  | [d1, d2, d3, d4] => { results := [.lit (.bool false)], args := [d1, d2, d3, d4] }
  | _ => none }
def CostNextIsDifferenceWrongFalsely : Prop := costNextIsDifferenceRow.holds Try.pinned (OpenSpec.ofChange costNextIsDifferenceWrong)

/-- 'weirgatelaw11.CostProofsBound': WHATEVER THE INPUT: true; the input reads as it did. -/
def costProofsBoundSpec : ChangeSpec := { name := "costProofsBound", fn := fun _ => fun
  | [d1, d2, d3, d4, d5, d6] => { results := [.lit (.bool true)], args := [d1, d2, d3, d4, d5, d6] }
  | _ => none }
def costProofsBoundRow : OpenClaim := { program := "ytgikimegikelkaa", sum := "6193a532f633b35f8847650ccac62ac1fa10c21e55266fe39d1672c7b7fea44c", func := "weirgate/weirgatelaw11.CostProofsBound", spec := "costProofsBound", unfollowed := true, recurses := true, plainKeys := false, apart := false }
def CostProofsBoundSaid : Prop := costProofsBoundRow.holds Try.pinned (OpenSpec.ofChange costProofsBoundSpec)

/-- ITS FALSE NEIGHBOUR: 'it returns false'. Refute it at one input. -/
def costProofsBoundWrong : ChangeSpec := { name := "costProofsBound", fn := fun _ => fun
  | [d1, d2, d3, d4, d5, d6] => { results := [.lit (.bool false)], args := [d1, d2, d3, d4, d5, d6] }
  | _ => none }
def CostProofsBoundWrongFalsely : Prop := costProofsBoundRow.holds Try.pinned (OpenSpec.ofChange costProofsBoundWrong)

/-- 'weirgatelaw11.CostFallsWithCapacity': WHATEVER THE INPUT: true; the input reads as it did. -/
def costFallsWithCapacitySpec : ChangeSpec := { name := "costFallsWithCapacity", fn := fun _ => fun
  | [d1, d2, d3, d4, d5, d6, d7] => { results := [.lit (.bool true)], args := [d1, d2, d3, d4, d5, d6, d7] }
  | _ => none }
def costFallsWithCapacityRow : OpenClaim := { program := "ytgikimegikelkaa", sum := "6193a532f633b35f8847650ccac62ac1fa10c21e55266fe39d1672c7b7fea44c", func := "weirgate/weirgatelaw11.CostFallsWithCapacity", spec := "costFallsWithCapacity", unfollowed := true, recurses := true, plainKeys := false, apart := false }
def CostFallsWithCapacitySaid : Prop := costFallsWithCapacityRow.holds Try.pinned (OpenSpec.ofChange costFallsWithCapacitySpec)

/-- ITS FALSE NEIGHBOUR: 'it returns false'. Refute it at one input. -/
def costFallsWithCapacityWrong : ChangeSpec := { name := "costFallsWithCapacity", fn := fun _ => fun
  | [d1, d2, d3, d4, d5, d6, d7] => { results := [.lit (.bool false)], args := [d1, d2, d3, d4, d5, d6, d7] }
  | _ => none }
def CostFallsWithCapacityWrongFalsely : Prop := costFallsWithCapacityRow.holds Try.pinned (OpenSpec.ofChange costFallsWithCapacityWrong)

/-- 'weirgatelaw40.PlanChecksAsSpecified': WHATEVER THE INPUT: true; the input reads as it did. -/
def planChecksAsSpecifiedSpec : ChangeSpec := { name := "planChecksAsSpecified", fn := fun _ => fun
  | [d] => { results := [.lit (.bool true)], args := [d] }
  | _ => none }
def planChecksAsSpecifiedRow : OpenClaim := { program := "ytgikimegikelkaa", sum := "6193a532f633b35f8847650ccac62ac1fa10c21e55266fe39d1672c7b7fea44c", func := "weirgate/weirgatelaw40.PlanChecksAsSpecified", spec := "planChecksAsSpecified", unfollowed := true, recurses := true, plainKeys := false, apart := false }
def PlanChecksAsSpecifiedSaid : Prop := planChecksAsSpecifiedRow.holds Try.pinned (OpenSpec.ofChange planChecksAsSpecifiedSpec)

/-- ITS FALSE NEIGHBOUR: 'it returns false'. Refute it at one input. -/
def planChecksAsSpecifiedWrong : ChangeSpec := { name := "planChecksAsSpecified", fn := fun _ => fun
  | [d] => { results := [.lit (.bool false)], args := [d] }
  | _ => none }
def PlanChecksAsSpecifiedWrongFalsely : Prop := planChecksAsSpecifiedRow.holds Try.pinned (OpenSpec.ofChange planChecksAsSpecifiedWrong)

/-- 'weirgatelaw40.PlanReadsPlansAsSpecified': WHATEVER THE INPUT: true; the input reads as it did. -/
def planReadsPlansAsSpecifiedSpec : ChangeSpec := { name := "planReadsPlansAsSpecified", fn := fun _ => fun
  | [d1, d2, d3, d4] => { results := [.lit (.bool true)], args := [d1, d2, d3, d4] }
  | _ => none }
def planReadsPlansAsSpecifiedRow : OpenClaim := { program := "ytgikimegikelkaa", sum := "6193a532f633b35f8847650ccac62ac1fa10c21e55266fe39d1672c7b7fea44c", func := "weirgate/weirgatelaw40.PlanReadsPlansAsSpecified", spec := "planReadsPlansAsSpecified", unfollowed := true, recurses := true, plainKeys := false, apart := false }
def PlanReadsPlansAsSpecifiedSaid : Prop := planReadsPlansAsSpecifiedRow.holds Try.pinned (OpenSpec.ofChange planReadsPlansAsSpecifiedSpec)

/-- ITS FALSE NEIGHBOUR: 'it returns false'. Refute it at one input. -/
def planReadsPlansAsSpecifiedWrong : ChangeSpec := { name := "planReadsPlansAsSpecified", fn := fun _ => fun
  | [d1, d2, d3, d4] => { results := [.lit (.bool false)], args := [d1, d2, d3, d4] }
  | _ => none }
def PlanReadsPlansAsSpecifiedWrongFalsely : Prop := planReadsPlansAsSpecifiedRow.holds Try.pinned (OpenSpec.ofChange planReadsPlansAsSpecifiedWrong)

/-- 'weirgatelaw40.PlanKeepsCapacities': WHATEVER THE INPUT: true; the input reads as it did. -/
def planKeepsCapacitiesSpec : ChangeSpec := { name := "planKeepsCapacities", fn := fun _ => fun
  | [d1, d2] => { results := [.lit (.bool true)], args := [d1, d2] }
  | _ => none }
def planKeepsCapacitiesRow : OpenClaim := { program := "ytgikimegikelkaa", sum := "6193a532f633b35f8847650ccac62ac1fa10c21e55266fe39d1672c7b7fea44c", func := "weirgate/weirgatelaw40.PlanKeepsCapacities", spec := "planKeepsCapacities", unfollowed := true, recurses := true, plainKeys := false, apart := false }
def PlanKeepsCapacitiesSaid : Prop := planKeepsCapacitiesRow.holds Try.pinned (OpenSpec.ofChange planKeepsCapacitiesSpec)

/-- ITS FALSE NEIGHBOUR: 'it returns false'. Refute it at one input. -/
def planKeepsCapacitiesWrong : ChangeSpec := { name := "planKeepsCapacities", fn := fun _ => fun
  | [d1, d2] => { results := [.lit (.bool false)], args := [d1, d2] }
  | _ => none }
def PlanKeepsCapacitiesWrongFalsely : Prop := planKeepsCapacitiesRow.holds Try.pinned (OpenSpec.ofChange planKeepsCapacitiesWrong)

/-- 'weirgatelaw40.PlanRoutesRequests': WHATEVER THE INPUT: true; the input reads as it did. -/
def planRoutesRequestsSpec : ChangeSpec := { name := "planRoutesRequests", fn := fun _ => fun
  | [d1, d2] => { results := [.lit (.bool true)], args := [d1, d2] }
  | _ => none }
def planRoutesRequestsRow : OpenClaim := { program := "ytgikimegikelkaa", sum := "6193a532f633b35f8847650ccac62ac1fa10c21e55266fe39d1672c7b7fea44c", func := "weirgate/weirgatelaw40.PlanRoutesRequests", spec := "planRoutesRequests", unfollowed := true, recurses := true, plainKeys := false, apart := false }
def PlanRoutesRequestsSaid : Prop := planRoutesRequestsRow.holds Try.pinned (OpenSpec.ofChange planRoutesRequestsSpec)

/-- ITS FALSE NEIGHBOUR: 'it returns false'. Refute it at one input. -/
def planRoutesRequestsWrong : ChangeSpec := { name := "planRoutesRequests", fn := fun _ => fun
  | [d1, d2] => { results := [.lit (.bool false)], args := [d1, d2] }
  | _ => none }
def PlanRoutesRequestsWrongFalsely : Prop := planRoutesRequestsRow.holds Try.pinned (OpenSpec.ofChange planRoutesRequestsWrong)

/-- 'weirgatelaw40.PlanMayChange': WHATEVER THE INPUT: true; the input reads as it did. -/
def planMayChangeSpec : ChangeSpec := { name := "planMayChange", fn := fun _ => fun
  | [d1, d2, d3, d4] => { results := [.lit (.bool true)], args := [d1, d2, d3, d4] }
  | _ => none }
def planMayChangeRow : OpenClaim := { program := "ytgikimegikelkaa", sum := "6193a532f633b35f8847650ccac62ac1fa10c21e55266fe39d1672c7b7fea44c", func := "weirgate/weirgatelaw40.PlanMayChange", spec := "planMayChange", unfollowed := true, recurses := true, plainKeys := false, apart := false }
def PlanMayChangeSaid : Prop := planMayChangeRow.holds Try.pinned (OpenSpec.ofChange planMayChangeSpec)

/-- ITS FALSE NEIGHBOUR: 'it returns false'. Refute it at one input. -/
def planMayChangeWrong : ChangeSpec := { name := "planMayChange", fn := fun _ => fun
  | [d1, d2, d3, d4] => { results := [.lit (.bool false)], args := [d1, d2, d3, d4] }
  | _ => none }
def PlanMayChangeWrongFalsely : Prop := planMayChangeRow.holds Try.pinned (OpenSpec.ofChange planMayChangeWrong)

/- THE SECOND FORM. 'bulk': how many values and letters a reading holds, each counted each time it is reached (what is shared counts as often as it is met; a slice's spare places count too). A statement '..UptoSaid' is the law's where the arguments, and the package variables that the reading takes, are together of bulk at most 1048576: NARROWER than '..Said'. Prove '..Said' where nothing that the law and all that it calls make is longer than what came in: it says more and counts as full. Else prove '..UptoSaid'. A law counts once. -/
mutual
def uptoBulk {H : Type} : DataW H → Nat
  | .lit (.string bytes) => bytes.length + 1
  | .lit _ => 1
  | .nil => 1
  | .ptr d => uptoBulk d + 1
  | .slice elems spare => uptoBulkAll elems + uptoBulkAll spare + 1
  | .agg parts => uptoBulkAll parts + 1
  | .iface _ d => uptoBulk d + 1
  | .map entries => uptoBulkEntries entries + 1
  | .held _ => 1
def uptoBulkAll {H : Type} : List (DataW H) → Nat
  | [] => 0
  | d :: r => uptoBulk d + uptoBulkAll r
def uptoBulkEntries {H : Type} : List (Lit × DataW H) → Nat
  | [] => 0
  | x :: r => uptoBulkEntry x + uptoBulkEntries r
def uptoBulkEntry {H : Type} : Lit × DataW H → Nat
  | (.string bytes, d) => bytes.length + uptoBulk d + 1
  | (_, d) => uptoBulk d + 1
 end
def uptoSmall : (H : Type) → List (DataW H) → Bool := fun _ ds => decide (uptoBulkAll ds ≤ 1048576)
def OpenSpec.upto (s : _root_.Go.ChangeSpec) : _root_.Go.OpenSpec := { _root_.Go.OpenSpec.ofChange s with cond := some uptoSmall }

/-- 'weirgatelaw10.FlowIsMostAsSpecified', WHERE WHAT IT READS IS OF BULK AT MOST 1048576: true; the input reads as it did. -/
def flowIsMostAsSpecifiedUptoRow : OpenClaim := { program := "ytgikimegikelkaa", sum := "6193a532f633b35f8847650ccac62ac1fa10c21e55266fe39d1672c7b7fea44c", func := "weirgate/weirgatelaw10.FlowIsMostAsSpecified", spec := "flowIsMostAsSpecified", unfollowed := true, recurses := true, plainKeys := false, apart := false, narrowed := true }
def FlowIsMostAsSpecifiedUptoSaid : Prop := flowIsMostAsSpecifiedUptoRow.holds Try.pinned (OpenSpec.upto flowIsMostAsSpecifiedSpec)

/-- 'weirgatelaw10.FlowIsProved', WHERE WHAT IT READS IS OF BULK AT MOST 1048576: true; the input reads as it did. -/
def flowIsProvedUptoRow : OpenClaim := { program := "ytgikimegikelkaa", sum := "6193a532f633b35f8847650ccac62ac1fa10c21e55266fe39d1672c7b7fea44c", func := "weirgate/weirgatelaw10.FlowIsProved", spec := "flowIsProved", unfollowed := true, recurses := true, plainKeys := false, apart := false, narrowed := true }
def FlowIsProvedUptoSaid : Prop := flowIsProvedUptoRow.holds Try.pinned (OpenSpec.upto flowIsProvedSpec)

/-- 'weirgatelaw10.FlowServesAsSpecified', WHERE WHAT IT READS IS OF BULK AT MOST 1048576: true; the input reads as it did. -/
def flowServesAsSpecifiedUptoRow : OpenClaim := { program := "ytgikimegikelkaa", sum := "6193a532f633b35f8847650ccac62ac1fa10c21e55266fe39d1672c7b7fea44c", func := "weirgate/weirgatelaw10.FlowServesAsSpecified", spec := "flowServesAsSpecified", unfollowed := true, recurses := true, plainKeys := false, apart := false, narrowed := true }
def FlowServesAsSpecifiedUptoSaid : Prop := flowServesAsSpecifiedUptoRow.holds Try.pinned (OpenSpec.upto flowServesAsSpecifiedSpec)

/-- 'weirgatelaw10.FlowServesOrTellsWhy', WHERE WHAT IT READS IS OF BULK AT MOST 1048576: true; the input reads as it did. -/
def flowServesOrTellsWhyUptoRow : OpenClaim := { program := "ytgikimegikelkaa", sum := "6193a532f633b35f8847650ccac62ac1fa10c21e55266fe39d1672c7b7fea44c", func := "weirgate/weirgatelaw10.FlowServesOrTellsWhy", spec := "flowServesOrTellsWhy", unfollowed := true, recurses := true, plainKeys := false, apart := false, narrowed := true }
def FlowServesOrTellsWhyUptoSaid : Prop := flowServesOrTellsWhyUptoRow.holds Try.pinned (OpenSpec.upto flowServesOrTellsWhySpec)

/-- 'weirgatelaw10.FlowDividesAsSpecified', WHERE WHAT IT READS IS OF BULK AT MOST 1048576: true; the input reads as it did. -/
def flowDividesAsSpecifiedUptoRow : OpenClaim := { program := "ytgikimegikelkaa", sum := "6193a532f633b35f8847650ccac62ac1fa10c21e55266fe39d1672c7b7fea44c", func := "weirgate/weirgatelaw10.FlowDividesAsSpecified", spec := "flowDividesAsSpecified", unfollowed := true, recurses := true, plainKeys := false, apart := false, narrowed := true }
def FlowDividesAsSpecifiedUptoSaid : Prop := flowDividesAsSpecifiedUptoRow.holds Try.pinned (OpenSpec.upto flowDividesAsSpecifiedSpec)

/-- 'weirgatelaw10.FlowChecksAsSpecified', WHERE WHAT IT READS IS OF BULK AT MOST 1048576: true; the input reads as it did. -/
def flowChecksAsSpecifiedUptoRow : OpenClaim := { program := "ytgikimegikelkaa", sum := "6193a532f633b35f8847650ccac62ac1fa10c21e55266fe39d1672c7b7fea44c", func := "weirgate/weirgatelaw10.FlowChecksAsSpecified", spec := "flowChecksAsSpecified", unfollowed := true, recurses := true, plainKeys := false, apart := false, narrowed := true }
def FlowChecksAsSpecifiedUptoSaid : Prop := flowChecksAsSpecifiedUptoRow.holds Try.pinned (OpenSpec.upto flowChecksAsSpecifiedSpec)

/-- 'weirgatelaw40.PlanMeetsAsSpecified', WHERE WHAT IT READS IS OF BULK AT MOST 1048576: true; the input reads as it did. -/
def planMeetsAsSpecifiedUptoRow : OpenClaim := { program := "ytgikimegikelkaa", sum := "6193a532f633b35f8847650ccac62ac1fa10c21e55266fe39d1672c7b7fea44c", func := "weirgate/weirgatelaw40.PlanMeetsAsSpecified", spec := "planMeetsAsSpecified", unfollowed := true, recurses := true, plainKeys := false, apart := false, narrowed := true }
def PlanMeetsAsSpecifiedUptoSaid : Prop := planMeetsAsSpecifiedUptoRow.holds Try.pinned (OpenSpec.upto planMeetsAsSpecifiedSpec)

/-- 'weirgatelaw11.CostChecksMatchSpec', WHERE WHAT IT READS IS OF BULK AT MOST 1048576: true; the input reads as it did. -/
def costChecksMatchSpecUptoRow : OpenClaim := { program := "ytgikimegikelkaa", sum := "6193a532f633b35f8847650ccac62ac1fa10c21e55266fe39d1672c7b7fea44c", func := "weirgate/weirgatelaw11.CostChecksMatchSpec", spec := "costChecksMatchSpec", unfollowed := true, recurses := true, plainKeys := false, apart := false, narrowed := true }
def CostChecksMatchSpecUptoSaid : Prop := costChecksMatchSpecUptoRow.holds Try.pinned (OpenSpec.upto costChecksMatchSpecSpec)

/-- 'weirgatelaw11.CostSendsCheapest', WHERE WHAT IT READS IS OF BULK AT MOST 1048576: true; the input reads as it did. -/
def costSendsCheapestUptoRow : OpenClaim := { program := "ytgikimegikelkaa", sum := "6193a532f633b35f8847650ccac62ac1fa10c21e55266fe39d1672c7b7fea44c", func := "weirgate/weirgatelaw11.CostSendsCheapest", spec := "costSendsCheapest", unfollowed := true, recurses := true, plainKeys := false, apart := false, narrowed := true }
def CostSendsCheapestUptoSaid : Prop := costSendsCheapestUptoRow.holds Try.pinned (OpenSpec.upto costSendsCheapestSpec)

/-- 'weirgatelaw40.PlanIsMade', WHERE WHAT IT READS IS OF BULK AT MOST 1048576: true; the input reads as it did. -/
def planIsMadeUptoRow : OpenClaim := { program := "ytgikimegikelkaa", sum := "6193a532f633b35f8847650ccac62ac1fa10c21e55266fe39d1672c7b7fea44c", func := "weirgate/weirgatelaw40.PlanIsMade", spec := "planIsMade", unfollowed := true, recurses := true, plainKeys := false, apart := false, narrowed := true }
def PlanIsMadeUptoSaid : Prop := planIsMadeUptoRow.holds Try.pinned (OpenSpec.upto planIsMadeSpec)

/-- 'weirgatelaw11.CostAcceptsAsSpecified', WHERE WHAT IT READS IS OF BULK AT MOST 1048576: true; the input reads as it did. -/
def costAcceptsAsSpecifiedUptoRow : OpenClaim := { program := "ytgikimegikelkaa", sum := "6193a532f633b35f8847650ccac62ac1fa10c21e55266fe39d1672c7b7fea44c", func := "weirgate/weirgatelaw11.CostAcceptsAsSpecified", spec := "costAcceptsAsSpecified", unfollowed := true, recurses := true, plainKeys := false, apart := false, narrowed := true }
def CostAcceptsAsSpecifiedUptoSaid : Prop := costAcceptsAsSpecifiedUptoRow.holds Try.pinned (OpenSpec.upto costAcceptsAsSpecifiedSpec)

/-- 'weirgatelaw11.CostNextIsDifference', WHERE WHAT IT READS IS OF BULK AT MOST 1048576: true; the input reads as it did. -/
def costNextIsDifferenceUptoRow : OpenClaim := { program := "ytgikimegikelkaa", sum := "6193a532f633b35f8847650ccac62ac1fa10c21e55266fe39d1672c7b7fea44c", func := "weirgate/weirgatelaw11.CostNextIsDifference", spec := "costNextIsDifference", unfollowed := true, recurses := true, plainKeys := false, apart := false, narrowed := true }
def CostNextIsDifferenceUptoSaid : Prop := costNextIsDifferenceUptoRow.holds Try.pinned (OpenSpec.upto costNextIsDifferenceSpec)

/-- 'weirgatelaw11.CostProofsBound', WHERE WHAT IT READS IS OF BULK AT MOST 1048576: true; the input reads as it did. -/
def costProofsBoundUptoRow : OpenClaim := { program := "ytgikimegikelkaa", sum := "6193a532f633b35f8847650ccac62ac1fa10c21e55266fe39d1672c7b7fea44c", func := "weirgate/weirgatelaw11.CostProofsBound", spec := "costProofsBound", unfollowed := true, recurses := true, plainKeys := false, apart := false, narrowed := true }
def CostProofsBoundUptoSaid : Prop := costProofsBoundUptoRow.holds Try.pinned (OpenSpec.upto costProofsBoundSpec)

/-- 'weirgatelaw11.CostFallsWithCapacity', WHERE WHAT IT READS IS OF BULK AT MOST 1048576: true; the input reads as it did. -/
def costFallsWithCapacityUptoRow : OpenClaim := { program := "ytgikimegikelkaa", sum := "6193a532f633b35f8847650ccac62ac1fa10c21e55266fe39d1672c7b7fea44c", func := "weirgate/weirgatelaw11.CostFallsWithCapacity", spec := "costFallsWithCapacity", unfollowed := true, recurses := true, plainKeys := false, apart := false, narrowed := true }
def CostFallsWithCapacityUptoSaid : Prop := costFallsWithCapacityUptoRow.holds Try.pinned (OpenSpec.upto costFallsWithCapacitySpec)

/-- 'weirgatelaw40.PlanChecksAsSpecified', WHERE WHAT IT READS IS OF BULK AT MOST 1048576: true; the input reads as it did. -/
def planChecksAsSpecifiedUptoRow : OpenClaim := { program := "ytgikimegikelkaa", sum := "6193a532f633b35f8847650ccac62ac1fa10c21e55266fe39d1672c7b7fea44c", func := "weirgate/weirgatelaw40.PlanChecksAsSpecified", spec := "planChecksAsSpecified", unfollowed := true, recurses := true, plainKeys := false, apart := false, narrowed := true }
def PlanChecksAsSpecifiedUptoSaid : Prop := planChecksAsSpecifiedUptoRow.holds Try.pinned (OpenSpec.upto planChecksAsSpecifiedSpec)

/-- 'weirgatelaw40.PlanReadsPlansAsSpecified', WHERE WHAT IT READS IS OF BULK AT MOST 1048576: true; the input reads as it did. -/
def planReadsPlansAsSpecifiedUptoRow : OpenClaim := { program := "ytgikimegikelkaa", sum := "6193a532f633b35f8847650ccac62ac1fa10c21e55266fe39d1672c7b7fea44c", func := "weirgate/weirgatelaw40.PlanReadsPlansAsSpecified", spec := "planReadsPlansAsSpecified", unfollowed := true, recurses := true, plainKeys := false, apart := false, narrowed := true }
def PlanReadsPlansAsSpecifiedUptoSaid : Prop := planReadsPlansAsSpecifiedUptoRow.holds Try.pinned (OpenSpec.upto planReadsPlansAsSpecifiedSpec)

/-- 'weirgatelaw40.PlanKeepsCapacities', WHERE WHAT IT READS IS OF BULK AT MOST 1048576: true; the input reads as it did. -/
def planKeepsCapacitiesUptoRow : OpenClaim := { program := "ytgikimegikelkaa", sum := "6193a532f633b35f8847650ccac62ac1fa10c21e55266fe39d1672c7b7fea44c", func := "weirgate/weirgatelaw40.PlanKeepsCapacities", spec := "planKeepsCapacities", unfollowed := true, recurses := true, plainKeys := false, apart := false, narrowed := true }
def PlanKeepsCapacitiesUptoSaid : Prop := planKeepsCapacitiesUptoRow.holds Try.pinned (OpenSpec.upto planKeepsCapacitiesSpec)

/-- 'weirgatelaw40.PlanRoutesRequests', WHERE WHAT IT READS IS OF BULK AT MOST 1048576: true; the input reads as it did. -/
def planRoutesRequestsUptoRow : OpenClaim := { program := "ytgikimegikelkaa", sum := "6193a532f633b35f8847650ccac62ac1fa10c21e55266fe39d1672c7b7fea44c", func := "weirgate/weirgatelaw40.PlanRoutesRequests", spec := "planRoutesRequests", unfollowed := true, recurses := true, plainKeys := false, apart := false, narrowed := true }
def PlanRoutesRequestsUptoSaid : Prop := planRoutesRequestsUptoRow.holds Try.pinned (OpenSpec.upto planRoutesRequestsSpec)

/-- 'weirgatelaw40.PlanMayChange', WHERE WHAT IT READS IS OF BULK AT MOST 1048576: true; the input reads as it did. -/
def planMayChangeUptoRow : OpenClaim := { program := "ytgikimegikelkaa", sum := "6193a532f633b35f8847650ccac62ac1fa10c21e55266fe39d1672c7b7fea44c", func := "weirgate/weirgatelaw40.PlanMayChange", spec := "planMayChange", unfollowed := true, recurses := true, plainKeys := false, apart := false, narrowed := true }
def PlanMayChangeUptoSaid : Prop := planMayChangeUptoRow.holds Try.pinned (OpenSpec.upto planMayChangeSpec)

end Rows
end Go.Proofs.Ytgikimegikelkaa
