/- A machine of lists and tries: frames, calls, soundness. -/
import Derived.Test.YtgikimegikelkaaAb2
import Derived.RangeFuncRecord
/- A machine of lists and tries: regions that draw their order: every order that can be drawn. -/
namespace Go.Proofs.Ytgikimegikelkaa.Ab
open Go Go.RowKit
set_option linter.unusedVariables false
set_option linter.unusedSimpArgs false
set_option linter.unusedSectionVars false

def listedP (listed : Array Bool) : Nat → Prop := fun j => listed.getD j false = true

theorem binds_any (e : Edge) : Region.binds .any e = bindsAny e := by
  unfold Region.binds bindsAny
  cases e.ground <;> rfl

theorem listed_set {listed : Array Bool} {i : Nat} (hi : i < listed.size) : listedP (listed.setIfInBounds i true) = plus (listedP listed) i := by
  funext j
  apply propext
  unfold listedP plus
  by_cases c : i = j
  · subst c; simp [hi]
  · rw [getD_set_ne false c]
    constructor
    · exact .inl
    · rintro (h | h)
      · exact h
      · exact absurd h.symm c

/-- The first operation that is not listed yet is ready. -/
theorem some_ready {ops : Array Oper} (hback : Back ops.toList) {listed : Array Bool} (hs : listed.size = ops.size) {j : Nat} (hj : j < ops.size) (hl : ¬ listedP listed j) : Region.ready .any ops listed ≠ [] := by
  induction j using Nat.strongRecOn with
  | _ j ih =>
    by_cases c : ∃ k, k < j ∧ ¬ listedP listed k
    · obtain ⟨k, h1, h2⟩ := c
      exact ih k h1 (by omega) h2
    · have : j ∈ Region.ready .any ops listed := by
        rw [mem_ready]
        have ho : ops[j]? = some ops[j] := by simp [hj]
        refine ⟨?_, ops[j], ho, fun e he hb => ?_⟩
        · have hjl : j < listed.size := by omega
          unfold listedP at hl
          simp [hjl] at hl ⊢
          exact hl
        · rw [binds_any] at hb
          have hlt := hback j ops[j] (by rw [Array.getElem?_toList]; exact ho) e (by simpa using he) hb
          exact Classical.byContradiction fun hn => c ⟨e.on, hlt, hn⟩
      intro hn
      rw [hn] at this
      cases this

theorem count_listed {listed : Array Bool} {i : Nat} (hi : i < listed.size) (hl : listed.getD i true = false) : (listed.setIfInBounds i true).toList.count false + 1 = listed.toList.count false := by
  rw [Array.toList_setIfInBounds]
  have hil : i < listed.toList.length := by simpa using hi
  rw [List.count_set hil]
  have h1 : listed.toList[i] = false := by simpa [hi] using hl
  have h2 : 0 < listed.toList.count false := List.count_pos_iff.2 (by rw [← h1]; exact List.getElem_mem hil)
  rw [h1]
  simp only [beq_self_eq_true, if_true, show ((true == false) = true) = False by simp, if_false]
  omega

section
variable {call : CallF} {E : Env} {P : Program} {ops : Array Oper} {size : Nat} {T0 : Tr Value} {m0 : Mem} {q : List PE} {s1 : DS} {ρ0 : Ren} {a0 : Act} {w0 : World}
theorem fin_next (g : Good call E ops size m0.next T0 m0 q s1) (hn : q.length = ops.size) : m0.next ≤ s1.V.next := by
  have := VA_mono g hn q.length 0 (Nat.zero_le _) (Nat.le_refl _)
  rwa [VA_end, g.v0] at this

theorem fin_dom (g : Good call E ops size m0.next T0 m0 q s1) (hn : q.length = ops.size) (hdc : DomCall call) : Dom m0 (layA (fun _ => true) s1.as s1.V) := by
  have hWd : ∀ (kk : Nat) (e : PE) (o : Oper) (mr m1 : Mem), q[kk]? = some e → ops[kk]? = some o → e.kind = .write mr m1 → Dom mr m1 := by
    intro kk e o mr m1 he ho hk
    have hf := g.fact kk e o he ho
    unfold Fact at hf
    rw [hk] at hf
    exact apply_dom hdc hf.2.1
  have key : ∀ (y : Nat), y ≤ q.length → Dom m0 (VA q s1 y) := by
    intro y
    induction y with
    | zero => intro _; rw [g.v0]; exact Dom.refl _
    | succ y ih =>
      intro hy
      have ih := ih (by omega)
      obtain ⟨e, he⟩ : ∃ e, q[y]? = some e := ⟨q[y], by simp [show y < q.length by omega]⟩
      obtain ⟨o, ho⟩ := oper hn he
      have hf := g.fact y e o he ho
      rw [VA_at he] at ih
      unfold Fact at hf
      cases hk : e.kind with
      | pure => rw [hk] at hf; rw [hf.2]; exact ih
      | read b' => rw [hk] at hf; rw [hf.2.2.2.1]; exact ih
      | alloc K mk => rw [hk] at hf; rw [hf.2.2.2]; exact ih
      | write mr m1 =>
        have hd := hWd y e o mr m1 he ho hk
        rw [hk] at hf
        obtain ⟨_, _, hv, hnx, _, hin, _, _⟩ := hf
        rw [hv]
        intro bb K hb hl
        rcases hd bb K hb hl with ⟨K0, h1, h2⟩ | h1
        · rcases hin bb K0 h1 h2 with h3 | ⟨i, ei, mk, h3, h4, h5, h6, h7, _⟩
          · exact ih bb K0 h3 h2
          · right; rw [h7]; exact (g.lows i ei h4).1
        · right
          rw [hnx] at h1
          exact Nat.le_trans (g.lows y e he).1 h1
  intro bb K hb hl
  rcases lay_get _ _ _ bb K hb with h1 | ⟨r, h1, h2, h3, h4⟩
  · have := key q.length (Nat.le_refl _)
    rw [VA_end] at this
    exact this bb K h1 hl
  · right; rw [h3]; exact (g.as r h1).2.2.1
theorem fin_fresh (g : Good call E ops size m0.next T0 m0 q s1) : Fresh (layA (fun _ => true) s1.as s1.V) := lay_fresh _ _ _ g.fresh (fun r hr => (g.as r hr).2.2.2)

end

section
variable {call : CallF} {E : Env} {P : Program} {ops : Array Oper} {size : Nat} {T0 : Tr Value} {m0 : Mem} {q : List PE} {s1 : DS} {ρ0 : Ren} {a0 : Act} {w0 : World}
variable {b : Frame} {k : List Item} {cs : List Frame}
variable (hE : EnvOK E P) (hcall : CallOK P call) (g : Good call E ops size m0.next T0 m0 q s1) (hn : q.length = ops.size) (hback : Back ops.toList) (hap : Apart ops.toList) (hsz : size ≤ 65535) (h0 : ∀ t, size ≤ t → T0.get t = none) (hfc : FreshCall call) (hdc : DomCall call) (hf0 : Fresh m0)
include hE hcall g hn hback hap hsz h0 hfc hdc hf0

theorem step_any {ρ : Ren} {x : Nat} {D : Nat → Prop} {a : Act} {w : World} (h : Inv ops size T0 m0 q s1 ρ0 a0 w0 ρ x D a w) {i : Nat} {rest : List Nat} {o : Oper} (ho : ops[i]? = some o) (hi : ¬ D i) (hr : ∀ j, has (maskAt ops.toList i) j = true → D j) :
    StepTo P ops size T0 m0 q s1 ρ0 a0 w0 b k cs D i rest a w := by
  obtain ⟨e, he⟩ := entry hn ho
  cases hk : e.kind with
  | pure => exact step_pure hE hcall g hn hback hap hsz h0 hfc hdc hf0 h he ho hi hr hk
  | read bb => exact step_read hE hcall g hn hback hap hsz h0 hfc hdc hf0 h he ho hi hr hk
  | alloc K mk => exact step_alloc hE hcall g hn hback hap hsz h0 hfc hdc hf0 h he ho hi hr hk
  | write mr m1 => exact step_write hE hcall g hn hback hap hsz h0 hfc hdc hf0 h he ho hi hr hk

theorem sched_ok : ∀ (fuel t : Nat) (listed : Array Bool) (ρ : Ren) (x : Nat) (a : Act) (w : World), listed.size = ops.size → listed.toList.count false = fuel → Inv ops size T0 m0 q s1 ρ0 a0 w0 ρ x (listedP listed) a w →
    ∃ ρ' x' a' w' D', Steps P (lone (b.atR a (.inRegion ops (Region.linearise.go .any ops fuel t listed []) :: k)) cs w) (lone (b.atR a' (.inRegion ops [] :: k)) cs w') ∧ Inv ops size T0 m0 q s1 ρ0 a0 w0 ρ' x' D' a' w' ∧ ∀ j, j < ops.size → D' j
  | 0, t, listed, ρ, x, a, w, hs, hc, h => by
    refine ⟨ρ, x, a, w, listedP listed, ?_, h, fun j hj => ?_⟩
    · simp only [Region.linearise.go, List.reverse_nil]; exact .refl _ _
    · rw [List.count_eq_zero] at hc
      have hjl : j < listed.size := by omega
      unfold listedP
      cases hv : listed.getD j false with
      | true => rfl
      | false =>
        exfalso
        apply hc
        simp [hjl] at hv
        rw [Array.mem_toList_iff, ← hv]
        exact Array.getElem_mem hjl
  | fuel + 1, t, listed, ρ, x, a, w, hs, hc, h => by
    simp only [Region.linearise.go]
    change ∃ ρ' x' a' w' D', Steps P (lone (b.atR a (.inRegion ops (match (Region.ready .any ops listed)[t % (Region.ready .any ops listed).length]? with
      | some i => Region.linearise.go .any ops fuel (t / (Region.ready .any ops listed).length) (listed.setIfInBounds i true) [i]
      | none => [].reverse) :: k)) cs w) (lone (b.atR a' (.inRegion ops [] :: k)) cs w') ∧ Inv ops size T0 m0 q s1 ρ0 a0 w0 ρ' x' D' a' w' ∧ ∀ j, j < ops.size → D' j
    have hne : Region.ready .any ops listed ≠ [] := by
      have hpos : 0 < listed.toList.count false := by omega
      obtain ⟨j, hj, hv⟩ := List.getElem_of_mem (List.count_pos_iff.1 hpos)
      have hj' : j < listed.size := by simpa using hj
      refine some_ready hback hs (j := j) (by omega) ?_
      unfold listedP
      simp at hv
      simp [hj', hv]
    cases hi : (Region.ready .any ops listed)[t % (Region.ready .any ops listed).length]? with
    | none =>
      exfalso
      have hlt : t % (Region.ready .any ops listed).length < (Region.ready .any ops listed).length := Nat.mod_lt _ (List.length_pos_iff.2 hne)
      rw [List.getElem?_eq_none_iff] at hi
      omega
    | some i =>
      simp only []
      rw [linearise_go_acc, List.reverse_singleton, List.singleton_append]
      have hmem := List.mem_of_getElem? hi
      rw [mem_ready] at hmem
      obtain ⟨hun, o, ho, hall⟩ := hmem
      have hio : i < ops.size := (Array.getElem?_eq_some_iff.1 ho).1
      have hil : i < listed.size := by omega
      have hnl : ¬ listedP listed i := by unfold listedP; simp [hil] at hun ⊢; exact hun
      have hr : ∀ j, has (maskAt ops.toList i) j = true → listedP listed j := by
        intro j hj
        obtain ⟨e, h1, h2, h3⟩ := mask_edge (by rw [Array.getElem?_toList]; exact ho) (hback i o (by rw [Array.getElem?_toList]; exact ho)) hj
        have he : listedP listed e.on := hall e (by simpa using h1) (by rw [binds_any]; exact h2)
        rcases h3 with rfl | h3
        · exact he
        · exact h.closed e.on he j h3
      obtain ⟨ρ1, x1, a1, w1, hst, hinv⟩ := step_any hE hcall g hn hback hap hsz h0 hfc hdc hf0 (b := b) (k := k) (cs := cs) (rest := Region.linearise.go .any ops fuel (t / (Region.ready .any ops listed).length) (listed.setIfInBounds i true) []) h ho hnl hr
      rw [← listed_set hil] at hinv
      obtain ⟨ρ2, x2, a2, w2, D2, hst2, hinv2, hall2⟩ := sched_ok fuel (t / (Region.ready .any ops listed).length) (listed.setIfInBounds i true) ρ1 x1 a1 w1 (by simp [hs]) (by have := count_listed hil hun; omega) hinv
      exact ⟨ρ2, x2, a2, w2, D2, Steps.trans hst hst2, hinv2, hall2⟩

/-- Nothing done yet. -/
theorem inv_start {w : World} {a : Act} (hT : TR ρ0 T0 size a.tmps) (hm : MR ρ0 m0 w) (hfr : FreshOn ρ0 m0.next s1.V.next) {D : Nat → Prop} (hD : ∀ j, ¬ D j) : Inv ops size T0 m0 q s1 ρ0 a w ρ0 0 D a w := by
  have hG : ∀ bb K, GD ops q s1 D 0 bb K → m0.get bb = some K := by
    rintro bb K (hb | ⟨j, ej, mk, hd, _⟩)
    · rw [g.v0] at hb; exact hb
    · exact absurd hd (hD j)
  refine ⟨Nat.zero_le _, fun kk hkk => absurd hkk (Nat.not_lt_zero _), fun kk _ _ => hD kk, fun i hi => absurd hi (hD i), Sub.refl _, fun _ _ => rfl, fun j e hj _ bb h1 h2 => ?_, ⟨hT.1, fun j e o d _ _ hd => absurd hd (hD j), fun d _ => hT.2.1 d⟩, rfl, ⟨fun bb K hb hl => hm.blk bb K (hG bb K hb) hl, fun b1 b2 K1 K2 l1 l2 h1 h2 h3 h4 => hm.inj b1 b2 K1 K2 l1 l2 (hG _ _ h1) h2 (hG _ _ h3) h4⟩, rfl, rfl, rfl, Nat.le_refl _, fun _ _ _ => rfl, fun o bb K l hb hl he => .inr ⟨bb, K, l, hG _ _ hb, hl, he, rfl⟩⟩
  have hj' := (List.getElem?_eq_some_iff.1 hj).1
  have := VA_mono g hn q.length (j + 1) hj' (Nat.le_refl _)
  rw [VA_end] at this
  exact hfr bb (Nat.le_trans (g.lows j e hj).1 h1) (by omega)

/-- Everything done: the plan's end is met. -/
theorem inv_end {ρ : Ren} {x : Nat} {D : Nat → Prop} {a : Act} {w : World} (h : Inv ops size T0 m0 q s1 ρ0 a0 w0 ρ x D a w) (hall : ∀ j, j < ops.size → D j) :
    TR ρ s1.T size a.tmps ∧ a.defers = a0.defers ∧ Sim ρ0 m0 w0 ρ (layA (fun _ => true) s1.as s1.V) w := by
  have hno : ∀ kk, x ≤ kk → kk < q.length → ¬ IsW q kk := fun kk h1 h2 hw => h.behind kk h1 hw (hall kk (by omega))
  have hG : ∀ bb K, (layA (fun _ => true) s1.as s1.V).get bb = some K → Live K → GD ops q s1 D x bb K := by
    intro bb K hb hl
    rcases lay_get _ _ _ bb K hb with h1 | ⟨r, h1, h2, h3, h4⟩
    · have := VA_same g hn q.length x h.xle (Nat.le_refl _) hno bb
      rw [VA_end] at this
      exact .inl (by rw [← this]; exact h1)
    · obtain ⟨⟨e, mk, q1, q2, q3⟩, q4, q5, q6⟩ := g.as r h1
      have hrl := (List.getElem?_eq_some_iff.1 q1).1
      exact .inr ⟨r.i, e, mk, hall r.i (by omega), q1, by rw [h4]; exact q2, by rw [h3, q3], fun kk ek mr' m1' hkk => q4 kk ek mr' m1' (by have := h.xle; omega)⟩
  refine ⟨⟨h.temps.size, fun t => ?_, fun t ht => ?_⟩, h.defers, ⟨?_, fun bb hb => h.out bb (by rw [lay_next] at hb; exact hb), h.sub, h.mem.sub _ hG, fin_fresh g, h.os, h.tape, h.output, h.hsize, h.unch, ?_⟩⟩
  · rcases TA_get g hn hap (by omega) q.length (Nat.le_refl _) t with ⟨j, e, o, h1, h2, h3, h4, h5⟩ | ⟨h1, h2⟩
    · rw [TA_end] at h5
      rw [h5]
      exact h.temps.done j e o t h2 h3 (hall j (by omega)) h4
    · rw [TA_end] at h2
      rw [h2]
      refine h.temps.old t (fun j o hj _ => h1 j o ?_ hj)
      rw [hn]
      exact (Array.getElem?_eq_some_iff.1 hj).1
  · have := TA_none g hn hap (by omega) h0 (Nat.le_refl _) ht
    rwa [TA_end] at this
  · rw [lay_next]; exact fin_next g hn
  · rintro o kk ⟨bb, K, l, h1, h2, h3, rfl⟩
    exact h.img o bb K l (hG bb K h1 h2.live) h2 h3
end

section
variable {call : CallF} {E : Env} {P : Program} {size : Nat} {T0 T1 : Tr Value} {m0 m1 : Mem}

theorem runDraw_start {ops : Array Oper} (hback : Back ops.toList) (hmono : ∀ c args m v m1, call c args m = some (v, m1) → m.next ≤ m1.next) (hfc : FreshCall call) (hf0 : Fresh m0) {s : DS} (h : runDraw call E ops.toList size m0.next 0 ops.toList (masksOf ops.toList) ⟨T0, m0, [], [], []⟩ = some s) :
    ∃ q, q.length = ops.size ∧ Good call E ops size m0.next T0 m0 q s := by
  refine runDraw_good hback hmono hfc ops.toList (masksOf ops.toList) [] _ s rfl (fun i => ?_) ⟨Nat.zero_le _, rfl, rfl, fun j e o h => by simp at h, fun j e o h => by simp at h, fun j e o b h => by simp at h, fun kk e mr m1 h => by simp at h, fun r hr => by simp at hr, hf0, Nat.le_refl _, fun j e h => by simp at h⟩ h
  simp only [List.length_nil, Nat.zero_add]
  by_cases c : i < ops.size
  · rw [if_pos c]; exact mask_get (by simpa using c)
  · rw [if_neg c]
    have : (masksOf ops.toList).length = ops.toList.length := by show (masksGo ops.toList []).length = _; rw [masksGo_length]; simp
    rw [List.getElem?_eq_none_iff, this]
    simp; omega

theorem dom_runOps {call : CallF} (hc : ∀ c args m v m1, call c args m = some (v, m1) → m.next ≤ m1.next) (hd : DomCall call) {all : List Oper} {size : Nat} : ∀ (l : List Oper) (T : Tr Value) (m : Mem) (T1 : Tr Value) (m1 : Mem), runOps call E all size l T m = some (T1, m1) → Dom m m1
  | [], T, m, T1, m1, h => by rw [runOps_nil] at h; cases h; exact Dom.refl _
  | o :: l, T, m, T1, m1, h => by
    rw [runOps_cons] at h
    split at h
    · split at h
      · rename_i v m2 hap
        split at h
        · rename_i T2 _
          exact (apply_dom hd hap).trans (dom_runOps hc hd l T2 m2 T1 m1 h) (mono_apply hc hap)
        · cases h
      · cases h
    · split at h
      · rename_i T2 _
        exact dom_runOps hc hd l T2 m T1 m1 h
      · cases h
    · cases h
theorem fresh_runOps {call : CallF} (hfc : FreshCall call) {all : List Oper} {size : Nat} : ∀ (l : List Oper) (T : Tr Value) (m : Mem) (T1 : Tr Value) (m1 : Mem), runOps call E all size l T m = some (T1, m1) → Fresh m → Fresh m1
  | [], T, m, T1, m1, h, hf => by rw [runOps_nil] at h; cases h; exact hf
  | o :: l, T, m, T1, m1, h, hf => by
    rw [runOps_cons] at h
    split at h
    · split at h
      · rename_i v m2 hap
        split at h
        · rename_i T2 _
          exact fresh_runOps hfc l T2 m2 T1 m1 h (apply_fresh hfc hf hap)
        · cases h
      · cases h
    · split at h
      · rename_i T2 _
        exact fresh_runOps hfc l T2 m T1 m1 h hf
      · cases h
    · cases h
end
end Go.Proofs.Ytgikimegikelkaa.Ab
/- A machine of lists and tries: frames. -/
namespace Go.Proofs.Ytgikimegikelkaa.Ab
open Go Go.RowKit
set_option linter.unusedVariables false
set_option linter.unusedSimpArgs false
set_option linter.unusedSectionVars false

section
variable {E : Env} {P : Program} {call : CallF} {size : Nat} {T T1 : Tr Value} {m m1 : Mem}
variable (hE : EnvOK E P) (hcall : CallOK P call) (hfc : FreshCall call) (hdc : DomCall call)
include hE hcall hfc hdc

theorem runRegion_ok {ops : Array Oper} {draw : Bool} {id : Nat} {ρ : Ren} {a : Act} {w : World} {b : Frame} {k : List Item} {cs : List Frame} (h : runRegion call E size ops.toList draw T m = some (T1, m1)) (hT : TR ρ T size a.tmps) (hm : MR ρ m w) (hf : Fresh m) (hfr : FreshOn ρ m.next m1.next) :
    ∃ a1 w1 ρ1, Steps P (lone (b.atR a (.code (.region id ops draw) :: k)) cs w) (lone (b.atR a1 k) cs w1) ∧ TR ρ1 T1 size a1.tmps ∧ a1.defers = a.defers ∧ Sim ρ m w ρ1 m1 w1 := by
  unfold runRegion at h
  cases draw with
  | false =>
    rw [cond_false] at h
    obtain ⟨a1, w1, ρ1, h1, h2, h3, h4⟩ := runOps_ok (b := b) (k := k) (cs := cs) (ops := ops) hE hcall ops.toList 0 T m a w ρ T1 m1 (by simp) h hT hm hf hfr
    refine ⟨a1, w1, ρ1, .head stepR_region ?_, h2, h3, h4⟩
    rw [List.range_eq_range', ← Array.length_toList]
    exact h1
  | true =>
    rw [cond_true] at h
    obtain ⟨hc, h⟩ := bif_some h
    rw [Bool.and_eq_true] at hc
    have hsz := Nat.le_of_ble_eq_true hc.2
    obtain ⟨hback, hap⟩ := static_ok hc.1
    split at h
    · rename_i s hs
      cases h
      obtain ⟨q, hn, g⟩ := runDraw_start hback hcall.mono hfc hf hs
      have hm' : MR ρ m { w with drawn := w.drawn + 1 } := hm.drew
      have hst := inv_start hE hcall g hn hback hap hsz hT.2.2 hfc hdc hf (D := listedP (Array.replicate ops.size false)) hT hm' (by rw [lay_next] at hfr; exact hfr) (fun j hj => by
        unfold listedP at hj
        by_cases c : j < ops.size <;> simp [c] at hj)
      obtain ⟨ρ', x', a', w', D', h1, h2, h3⟩ := sched_ok (b := b) (k := k) (cs := cs) hE hcall g hn hback hap hsz hT.2.2 hfc hdc hf ops.size (w.tape w.drawn (.order b.fn id)) (Array.replicate ops.size false) ρ 0 a _ (by simp) (by simp) hst
      obtain ⟨h4, h5, h6⟩ := inv_end hE hcall g hn hback hap hsz hT.2.2 hfc hdc hf h2 h3
      refine ⟨a', w', ρ', .head stepR_region_draw ?_, h4, h5, h6.of_drew⟩
      rw [show Region.schedule (P.follows .mixedOrders) ops (w.tape w.drawn (.order b.fn id)) = Region.linearise.go .any ops ops.size (w.tape w.drawn (.order b.fn id)) (Array.replicate ops.size false) [] by rw [Region.schedule, hE.mixed]; rfl]
      exact Steps.trans h1 (.one stepR_region_end)
    · cases h

end

theorem lay_dom {m0 : Mem} {sel : Nat → Bool} {l : List ARec} {m : Mem} (h : Dom m0 m) (ha : ∀ r ∈ l, m0.next ≤ r.id) : Dom m0 (layA sel l m) := by
  intro b K hb hK
  rcases lay_get _ _ _ b K hb with h1 | ⟨r, h1, _, h3, _⟩
  · exact h b K h1 hK
  · right; rw [h3]; exact ha r h1

structure DI (m0 : Mem) (s : DS) : Prop where
  dom : Dom m0 s.V
  as : ∀ r ∈ s.as, m0.next ≤ r.id
  low : m0.next ≤ s.V.next

section
variable {E : Env} {P : Program} {call : CallF} {size : Nat} {T T1 : Tr Value} {m m1 : Mem}
variable (hmono : ∀ c args m v m1, call c args m = some (v, m1) → m.next ≤ m1.next) (hfc : FreshCall call) (hdc : DomCall call)
include hmono hfc hdc

theorem drawW_di {i : Nat} {o : Oper} {mask : Nat} {m0 : Mem} {s s1 : DS} {r : OpR} (hr : opEval E s.T (layA (has mask) s.as s.V) o = r) (h : drawW call E size i o mask s (layA (has mask) s.as s.V) r = some s1) (d : DI m0 s) : DI m0 s1 := by
  unfold drawW at h
  split at h
  · rename_i v m2 hap
    rw [← hr] at hap
    have h1 := mono_apply hmono hap
    have h2 := apply_dom hdc hap
    rw [lay_next] at h1
    obtain ⟨_, h⟩ := bif_some h
    split at h
    · cases h
      exact ⟨(lay_dom d.dom d.as).trans h2 (by rw [lay_next]; exact d.low), fun r hr => d.as r (List.mem_filter.1 hr).1, Nat.le_trans d.low h1⟩
    · cases h
  · cases h
theorem drawStep_di {base i : Nat} {o : Oper} {mask : Nat} {m0 : Mem} {s s1 : DS} (h : drawStep call E size base i o mask s = some s1) (d : DI m0 s) : DI m0 s1 := by
  unfold drawStep at h
  simp only at h
  split at h
  · cases h
  · split at h
    · cases h; exact ⟨d.dom, d.as, d.low⟩
    · cases h
  · obtain ⟨_, h⟩ := bif_some h
    split at h
    · cases h; exact ⟨d.dom, d.as, d.low⟩
    · cases h
  · split at h
    · cases h
      refine ⟨d.dom, fun r hr => ?_, Nat.le_succ_of_le d.low⟩
      rcases List.mem_cons.1 hr with rfl | hr
      · exact d.low
      · exact d.as r hr
    · cases h
  · rename_i v m1 hr; exact drawW_di hmono hfc hdc hr h d
  · rename_i c args hr; exact drawW_di hmono hfc hdc hr h d
theorem runDraw_di {all : List Oper} {base : Nat} {m0 : Mem} : ∀ (l : List Oper) (ms : List Nat) (i : Nat) (s s1 : DS), runDraw call E all size base i l ms s = some s1 → DI m0 s → DI m0 s1
  | [], ms, i, s, s1, h, d => by simp only [runDraw] at h; cases h; exact d
  | o :: l, [], i, s, s1, h, d => by simp only [runDraw] at h; cases h
  | o :: l, mask :: ms, i, s, s1, h, d => by
    simp only [runDraw] at h
    split at h
    · split at h
      · rename_i s2 hs
        exact runDraw_di l ms (i + 1) s2 s1 h (drawStep_di hmono hfc hdc hs d)
      · cases h
    · split at h
      · exact runDraw_di l ms (i + 1) _ s1 h ⟨d.dom, d.as, d.low⟩
      · cases h
    · cases h

/-- What a step of a frame keeps. -/
def KeepsF (m m1 : Mem) : Prop := m.next ≤ m1.next ∧ (Fresh m → Fresh m1) ∧ Dom m m1
omit hmono hfc hdc
theorem KeepsF.refl (m : Mem) : KeepsF m m := ⟨Nat.le_refl _, id, Dom.refl _⟩
theorem KeepsF.trans {a b c : Mem} (h : KeepsF a b) (k : KeepsF b c) : KeepsF a c := ⟨Nat.le_trans h.1 k.1, fun hf => k.2.1 (h.2.1 hf), h.2.2.trans k.2.2 h.1⟩
theorem KeepsF.new (m : Mem) (K : Blk) : KeepsF m (m.new K) := ⟨by rw [Mem.next_new]; omega, fun h => h.new K, Dom.new K⟩
theorem KeepsF.set {m : Mem} {b : Nat} {K0 K : Blk} (hb : m.get b = some K0) (hK : Live K0) : KeepsF m (m.set b K) := ⟨Nat.le_refl _, fun h => h.set hb, Dom.set hb hK⟩
include hmono hfc hdc

theorem runRegion_keeps {ops : Array Oper} {draw : Bool} (h : runRegion call E size ops.toList draw T m = some (T1, m1)) : KeepsF m m1 := by
  unfold runRegion at h
  cases draw with
  | false =>
    rw [cond_false] at h
    exact ⟨mono_runOps hmono _ _ _ _ _ h, fun hf => fresh_runOps hfc _ _ _ _ _ h hf, dom_runOps hmono hdc _ _ _ _ _ h⟩
  | true =>
    rw [cond_true] at h
    obtain ⟨hc, h⟩ := bif_some h
    rw [Bool.and_eq_true] at hc
    have hsz := Nat.le_of_ble_eq_true hc.2
    obtain ⟨hback, hap⟩ := static_ok hc.1
    split at h
    · rename_i s hs
      cases h
      have d := runDraw_di (m0 := m) hmono hfc hdc _ _ _ _ _ hs ⟨Dom.refl _, fun r hr => by simp at hr, Nat.le_refl _⟩
      refine ⟨by rw [lay_next]; exact d.low, fun hf => ?_, lay_dom d.dom d.as⟩
      obtain ⟨q, hn, g⟩ := runDraw_start hback hmono hfc hf hs
      exact fin_fresh g
    · cases h
end

/-! ### Frames -/
def MK (ρ : Ren) : List Nat → List Deferred → Prop
  | [], [] => True
  | d :: ds, x :: xs => (∃ l, ρ d = some l ∧ x = { target := .collected l.blk, args := #[] }) ∧ MK ρ ds xs
  | _, _ => False
theorem MK.mono {ρ ρ' : Ren} (hs : Sub ρ ρ') : ∀ {ds : List Nat} {xs : List Deferred}, MK ρ ds xs → MK ρ' ds xs
  | [], [], _ => trivial
  | d :: ds, x :: xs, h => ⟨let ⟨l, h1, h2⟩ := h.1; ⟨l, hs _ _ h1, h2⟩, MK.mono hs h.2⟩
  | [], _ :: _, h => h.elim
  | _ :: _, [], h => h.elim

def Kept (round : Option Nat) (ρ : Ren) (b : Frame) (fn : Nat) : Prop :=
  b.fn = fn ∧ b.kind = .normal ∧ (match round with | none => b.roundOf = none | some l => ∃ lc, ρ l = some lc ∧ b.roundOf = some lc.blk)
theorem Kept.mono {round : Option Nat} {ρ ρ' : Ren} {b : Frame} {fn : Nat} (hs : Sub ρ ρ') (h : Kept round ρ b fn) : Kept round ρ' b fn := by
  obtain ⟨h1, h2, h3⟩ := h
  refine ⟨h1, h2, ?_⟩
  cases round with
  | none => exact h3
  | some l => obtain ⟨lc, q1, q2⟩ := h3; exact ⟨lc, hs _ _ q1, q2⟩

def Leaves (P : Program) (b : Frame) (a : Act) (todo : List Item) (jump : Option Code) : Prop :=
  (b.roundOf = none → ∀ cs w, step P (lone (b.atR a todo) cs w) = .next (lone { b.atR a todo with mode := .returning } cs w)) ∧
  ∀ l v w w' c cs, b.roundOf = some l → (Instr.endRound l jump).run P w = .ok v w' → step P (lone (b.atR a todo) (c :: cs) w) = .next (lone (c.finish v) cs w')

theorem leaveF_some {round : Option Nat} {jump : Option Code} {s : Fr} {st : St} (h : leaveF round jump s = some st) : st = .leave jump s ∧ (round = none → jump = none ∨ jump = some .ret) := by
  unfold leaveF at h
  split at h
  · split at h
    · cases h; exact ⟨rfl, fun _ => .inl rfl⟩
    · cases h; exact ⟨rfl, fun _ => .inr rfl⟩
    · cases h
  · cases h; exact ⟨rfl, fun hc => by cases hc⟩

section
variable {P : Program} {b : Frame} {a : Act} {k : List Item} {cs : List Frame} {w : World}
theorem stepR_inScope {c : Code} : step P (lone (b.atR a (.inScope c :: k)) cs w) = .next (lone (b.atR a k) cs w) :=
  step_lone_go (by simp [stepG, stepG.exec, Frame.atR])
theorem stepR_scope {c : Code} : step P (lone (b.atR a (.code (.scope c) :: k)) cs w) = .next (lone (b.atR a (.code c :: .inScope c :: k)) cs w) :=
  step_lone_go (by simp [stepG, stepG.exec, Frame.atR])
end

section
variable {E : Env} {P : Program} {call : CallF} {fn size : Nat} {round : Option Nat}

theorem enterLoopF_keeps {s s1 : Fr} {ps : Array Tmp} {assign body : Code} {l : Nat} (h : enterLoopF fn size round s ps assign body = some (l, s1)) : KeepsF s.m s1.m ∧ s1.T = s.T := by
  unfold enterLoopF at h
  cases round with
  | none => simp only at h; cases h; exact ⟨(KeepsF.new _ _).trans (KeepsF.new _ _), rfl⟩
  | some lr =>
    simp only at h
    split at h
    · cases h; exact ⟨KeepsF.new _ _, rfl⟩
    · cases h

theorem endLoopF_some {l : Nat} {m m1 : Mem} {jump : Option Code} (h : endLoopF l m = some (jump, m1)) : ∃ st fn' T size' ps assign body d, st ≠ .busy ∧ m.get l = some (.loop st jump fn' T size' ps assign body d) ∧ m1 = m.set l (.loop .exhausted jump fn' T size' ps assign body d) := by
  unfold endLoopF at h
  split at h
  · rename_i st pend fn' T size' ps assign body d hg
    split at h
    · cases h
    · rename_i hst
      cases h
      exact ⟨st, fn', T, size', ps, assign, body, d, hst, hg, rfl⟩
  · cases h

def StKeeps (s : Fr) : St → Prop
  | .leave _ s1 => s1 = s
  | .run s1 => KeepsF s.m s1.m
theorem StKeeps.leave {s : Fr} {jump : Option Code} {st : St} (h : leaveF round jump s = some st) : StKeeps s st := by
  obtain ⟨rfl, _⟩ := leaveF_some h; rfl

variable (hmono : ∀ c args m v m1, call c args m = some (v, m1) → m.next ≤ m1.next) (hfc : FreshCall call) (hdc : DomCall call)
include hmono hfc hdc

theorem stepF_keeps {s : Fr} {st : St} (h : stepF call E fn size round s = some st) : StKeeps s st := by
  unfold stepF at h
  split at h
  case h_8 =>
    split at h
    · cases h; exact KeepsF.refl _
    · cases h
  case h_13 =>
    split at h
    · cases h; exact KeepsF.refl _
    · exact StKeeps.leave h
  case h_14 =>
    split at h
    · cases h; exact KeepsF.refl _
    · exact StKeeps.leave h
  case h_15 =>
    split at h
    · rename_i T1 m1 hr
      cases h
      exact runRegion_keeps hmono hfc hdc hr
    · cases h
  case h_16 =>
    split at h
    · split at h
      · rename_i l s1 he
        obtain ⟨k1, _⟩ := enterLoopF_keeps he
        split at h
        · rename_i v m2 hc
          have k2 : KeepsF s1.m m2 := ⟨hmono _ _ _ _ _ hc, hfc _ _ _ _ _ hc, hdc _ _ _ _ _ hc⟩
          split at h
          · rename_i jump m3 hl
            cases h
            obtain ⟨st', fn', T, size', ps, assign, body, d, h1, h2, rfl⟩ := endLoopF_some hl
            exact (k1.trans k2).trans (KeepsF.set h2 trivial)
          · cases h
        · cases h
      · cases h
    · cases h
  case h_17 =>
    split at h
    · split at h
      · rename_i hg
        cases h
        exact KeepsF.set hg trivial
      · cases h
    · cases h
  all_goals first | (cases h; done) | (cases h; exact KeepsF.refl _) | (exact StKeeps.leave h)
end
end Go.Proofs.Ytgikimegikelkaa.Ab
/- A machine of lists and tries: frames: each step does what the model's machine does. -/
namespace Go.Proofs.Ytgikimegikelkaa.Ab
open Go Go.RowKit
set_option linter.unusedVariables false
set_option linter.unusedSimpArgs false
set_option linter.unusedSectionVars false

section
variable {E : Env} {P : Program} {call : CallF} {fn size : Nat} {round : Option Nat} {ρ : Ren} {b : Frame} {a : Act} {w : World} {cs : List Frame}

/-- What a step of a frame comes to, seen from the model. -/
def StepOK (P : Program) (size : Nat) (ρ : Ren) (b : Frame) (a : Act) (w : World) (cs : List Frame) (s : Fr) : St → Prop
  | .leave j s1 => s1 = s ∧ Leaves P b a s.todo j
  | .run s1 => FreshOn ρ s.m.next s1.m.next → ∃ a1 w1 ρ1, Steps P (lone (b.atR a s.todo) cs w) (lone (b.atR a1 s1.todo) cs w1) ∧ TR ρ1 s1.T size a1.tmps ∧ MK ρ1 s1.marks a1.defers ∧ Sim ρ s.m w ρ1 s1.m w1

theorem run_deferred (f : FuncId) (xs ys : Array Value) (args : Array Value) : (Deferred.ofValue (.func (.func f) xs ys) args : Sem Deferred) = pure { target := .fn (.func f) ys, args := xs ++ args } := rfl

variable (hE : EnvOK E P) (hcall : CallOK P call) (hfc : FreshCall call) (hdc : DomCall call)
include hE hcall hfc hdc

theorem enterLoopF_ok {s s1 : Fr} {ps : Array Tmp} {assign body : Code} {l : Nat} (h : enterLoopF fn size round s ps assign body = some (l, s1)) (hb : Kept round ρ b fn) (hT : TR ρ s.T size a.tmps) (hk : MK ρ s.marks a.defers) (hm : MR ρ s.m w) (hf : Fresh s.m) (hfr : FreshOn ρ s.m.next s1.m.next) :
    ∃ lc mark w1 ρ1, (Instr.enterLoop b.fn a.tmps ps assign body b.roundOf).run P w = .ok (lc.blk, mark) w1 ∧ ρ1 l = some lc ∧ MK ρ1 s1.marks (mark ++ a.defers) ∧ Sim ρ s.m w ρ1 s1.m w1 := by
  obtain ⟨hb1, hb2, hb3⟩ := hb
  unfold enterLoopF at h
  cases round with
  | none =>
    simp only at h hb3
    cases h
    have h1 : ρ s.m.next = none := hfr _ (Nat.le_refl _) (by simp only [Mem.next_new]; omega)
    have s1 := Sim.alloc hm hf h1 (K := .defs) (.deferred (some [])) (alloc_get _ _)
    have h2 : (ρ.put s.m.next ⟨w.heap.size, 0, 0⟩) (s.m.next + 1) = none := by
      rw [Ren.put_other (by omega)]; exact hfr _ (by omega) (by simp only [Mem.next_new]; omega)
    have s2 := Sim.alloc s1.mr s1.fresh h2 (K := .loop .ready none fn s.T size ps.toList assign body s.m.next) (.loop { state := .ready, pending := none, fn := b.fn, tmps := a.tmps, params := ps, assign := assign, body := body, defers := w.heap.size }) (by
      have hd : ((ρ.put s.m.next ⟨w.heap.size, 0, 0⟩).put (s.m.next + 1) ⟨(w.alloc (.deferred (some []))).heap.size, 0, 0⟩) s.m.next = some ⟨w.heap.size, 0, 0⟩ := by
        rw [Ren.put_other (by omega), Ren.put_same]
      exact ⟨_, _, alloc_get _ _, rfl, rfl, hb1, ((hT.mono s1.sub).mono (Ren.sub_put h2)), rfl, rfl, rfl, hd, rfl⟩)
    refine ⟨⟨(w.alloc (.deferred (some []))).heap.size, 0, 0⟩, [{ target := .collected w.heap.size, args := #[] }], _, _, ?_, Ren.put_same _ _ _, ?_, s1.trans s2⟩
    · rw [hb3, run_enterLoop_outer]
      simp [World.size_alloc]
    · refine ⟨⟨⟨w.heap.size, 0, 0⟩, ?_, rfl⟩, hk.mono (s1.sub.trans s2.sub)⟩
      exact s2.sub _ _ (Ren.put_same _ _ _)
  | some lr =>
    simp only at h hb3
    obtain ⟨lc, q1, q2⟩ := hb3
    split at h
    · rename_i st pend fn' T' size' ps' assign' body' d hg
      cases h
      obtain ⟨l, e1, L, ld, e2, e3, e4, e5, e6, e7, e8, e9, e10, e11⟩ := hm.blk lr _ hg trivial
      rw [q1] at e1; cases e1
      have h1 : ρ s.m.next = none := hfr _ (Nat.le_refl _) (by simp only [Mem.next_new]; omega)
      have s1 := Sim.alloc hm hf h1 (K := .loop .ready none fn s.T size ps.toList assign body d) (.loop { state := .ready, pending := none, fn := b.fn, tmps := a.tmps, params := ps, assign := assign, body := body, defers := L.defers }) (by
        exact ⟨_, ld, alloc_get _ _, rfl, rfl, hb1, hT.mono (Ren.sub_put h1), rfl, rfl, rfl, Ren.sub_put h1 _ _ e10, e11⟩)
      refine ⟨⟨w.heap.size, 0, 0⟩, [], _, _, ?_, Ren.put_same _ _ _, hk.mono s1.sub, s1⟩
      rw [q2]
      unfold Instr.enterLoop
      simp only [Sem.run_bind, run_getLoop e2, run_newObj_alloc, Result.andThen, Sem.run_pure, World.size_alloc]
    · cases h

theorem stepF_ok {s : Fr} {st : St} (h : stepF call E fn size round s = some st) (hb : Kept round ρ b fn) (hT : TR ρ s.T size a.tmps) (hk : MK ρ s.marks a.defers) (hm : MR ρ s.m w) (hf : Fresh s.m) :
    StepOK P size ρ b a w cs s st := by
  have one : ∀ {todo : List Item} {k' : List Item}, s.todo = todo → step P (lone (b.atR a todo) cs w) = .next (lone (b.atR a k') cs w) → StepOK P size ρ b a w cs s (.run { s with todo := k' }) := fun ht hs _ =>
    ⟨a, w, ρ, .one (by rw [ht]; exact hs), hT, hk, Sim.refl hm hf⟩
  unfold stepF at h
  split at h
  · -- the end
    rename_i ht
    obtain ⟨rfl, hn⟩ := leaveF_some h
    refine ⟨rfl, fun hr cs w => ?_, fun l v w w' c cs hr he => ?_⟩
    · rw [ht]; exact stepR_end hr
    · rw [ht]; exact stepR_round_end hr hb.2.1 he
  · rename_i k ht
    obtain ⟨rfl, hn⟩ := leaveF_some h
    refine ⟨rfl, fun hr cs w => ?_, fun l v w w' c cs hr he => ?_⟩
    · rw [ht]; exact stepR_ret hr
    · rw [ht]; exact stepR_round_ret hr hb.2.1 he
  · rename_i k ht; cases h; exact one ht stepR_skip
  · rename_i l k ht; cases h; exact one ht stepR_label
  · rename_i id k ht; cases h; exact one ht stepR_inBlock
  · rename_i c k ht; cases h; exact one ht stepR_inScope
  · rename_i x y k ht; cases h; exact one ht stepR_seq
  · -- cond
    rename_i c t e k ht
    split at h
    · rename_i bb hc
      cases h
      have hv := hT.eval c
      rw [hc] at hv
      have hv' : a.eval c = .bool bb := by generalize a.eval c = z at hv; cases hv; rfl
      refine one ht ?_
      have := stepR_cond (P := P) (b := b) (a := a) (k := k) (cs := cs) (w := w) (x := t) (y := e) hv'
      cases bb <;> exact this
    · cases h
  · rename_i id c k ht; cases h; exact one ht stepR_block
  · rename_i c k ht; cases h; exact one ht stepR_loop
  · rename_i c k ht; cases h; exact one ht stepR_inLoop
  · rename_i c k ht; cases h; exact one ht stepR_scope
  · -- exit
    rename_i id k ht
    split at h
    · rename_i k' hx; cases h; exact one ht (stepR_exit hx)
    · rename_i hx
      obtain ⟨rfl, hn⟩ := leaveF_some h
      refine ⟨rfl, fun hr cs w => ?_, fun l v w w' c cs hr he => ?_⟩
      · exfalso
        cases round with
        | none => rcases hn rfl with h1 | h1 <;> cases h1
        | some l => obtain ⟨_, _, lc, _, q⟩ := hb; rw [hr] at q; cases q
      · rw [ht]; exact stepR_round_exit hr hb.2.1 hx he
  · -- goto
    rename_i t k ht
    split at h
    · rename_i k' hx; cases h; exact one ht (stepR_goto hx)
    · rename_i hx
      obtain ⟨rfl, hn⟩ := leaveF_some h
      refine ⟨rfl, fun hr cs w => ?_, fun l v w w' c cs hr he => ?_⟩
      · exfalso
        cases round with
        | none => rcases hn rfl with h1 | h1 <;> cases h1
        | some l => obtain ⟨_, _, lc, _, q⟩ := hb; rw [hr] at q; cases q
      · rw [ht]; exact stepR_round_goto hr hb.2.1 hx he
  · -- a region
    rename_i id ops draw k ht
    split at h
    · rename_i T1 m1 hr
      cases h
      intro hfr
      obtain ⟨a1, w1, ρ1, h1, h2, h3, h4⟩ := runRegion_ok (b := b) (k := k) (cs := cs) (id := id) hE hcall hfc hdc hr hT hm hf hfr
      exact ⟨a1, w1, ρ1, by rw [ht]; exact h1, h2, by rw [h3]; exact hk.mono h4.sub, h4⟩
    · cases h
  · -- a range over a function
    rename_i f ps assign body k ht
    split at h
    · rename_i g first cap hx
      split at h
      · rename_i l s1 he
        split at h
        · rename_i v m2 hc
          split at h
          · rename_i jump m3 hl
            cases h
            intro hfr
            obtain ⟨k1, hT1⟩ := enterLoopF_keeps he
            have k2 : KeepsF s1.m m2 := ⟨hcall.mono _ _ _ _ _ hc, hfc _ _ _ _ _ hc, hdc _ _ _ _ _ hc⟩
            obtain ⟨st', fn', T', size', ps', assign', body', d, h1, h2, rfl⟩ := endLoopF_some hl
            simp only [Mem.next_set] at hfr
            obtain ⟨lc, mark, w1, ρ1, e1, e2, e3, e4⟩ := enterLoopF_ok (b := b) (a := a) (w := w) hE hcall hfc hdc he hb hT hk hm hf (hfr.sub (Nat.le_refl _) k2.1)
            have hv := hT.eval f
            rw [hx] at hv
            generalize hz : a.eval f = z at hv
            cases hv with
            | func _ _ _ xs' ys' hxs hys =>
            obtain ⟨p1, p2⟩ := hcall.fn g _ _ _ _ hc
            have hargs : VRL ρ1 (first.toList ++ (.func (.yield l) #[] #[]) :: cap.toList) ((xs' ++ #[Value.func (.yield lc.blk) #[] #[]]) ++ ys').toList := by
              have h3 : VRL ρ1 [Value.func (.yield l) #[] #[]] [Value.func (.yield lc.blk) #[] #[]] := .cons _ _ _ _ (.yield l lc e2) .nil
              have := ((hxs.mono e4.sub).append h3).append (hys.mono e4.sub)
              simpa using this
            obtain ⟨e, w2, fr, ⟨v', ρ2, rfl, f2, f3⟩, hsteps, hfn, hleave⟩ := p2 ρ1 w1 _ e4.mr e4.fresh hargs (hfr.out e4.out k1.1) (b.atR { a with defers := mark ++ a.defers } (.inRangeFunc lc.blk :: k) :: cs)
            obtain ⟨lc2, g1, L, ld, g2, g3, g4, g5, g6, g7, g8, g9, g10, g11⟩ := f3.mr.blk l _ h2 trivial
            have hlc : lc2 = lc := by have := f3.sub _ _ e2; rw [g1] at this; cases this; rfl
            subst hlc
            have hend := run_endLoop (P := P) g2 (by rw [g3]; exact h1)
            have hsim : Sim ρ2 m2 w2 ρ2 (m2.set l (.loop .exhausted jump fn' T' size' ps' assign' body' d)) (w2.putObj lc2.blk (.loop { L with state := .exhausted })) := by
              refine Sim.turn f3.mr f3.fresh h2 trivial g1 ⟨{ L with state := .exhausted }, ld, ?_, rfl, g4, g5, g6, g7, g8, g9, g10, g11⟩ rfl rfl rfl (by simp) (fun kk hkk => World.putObj_heap_other hkk)
              exact World.putObj_heap_same (Array.getElem?_eq_some_iff.1 g2).1
            refine ⟨{ a with defers := mark ++ a.defers }, _, ρ2, ?_, ?_, e3.mono f3.sub, (e4.trans f3).trans hsim⟩
            · rw [ht]
              refine .head (stepR_rangeFunc (l := lc2.blk) e1 (d := { target := .fn (.func g) ys', args := xs' ++ #[Value.func (.yield lc2.blk) #[] #[]] }) (w₁' := w1) ?_ ?_) (Steps.trans hsteps (.head (step_leave_returned hleave) ?_))
              · show (Deferred.ofValue (a.eval f) (#[Operand.const (.func (.yield lc2.blk) #[] #[])].map a.eval)).run P w1 = _
                rw [hz, show (#[Operand.const (.func (.yield lc2.blk) #[] #[])].map a.eval) = #[Value.func (.yield lc2.blk) #[] #[]] by simp [Act.eval]]; rfl
              · simp only [invoke]; exact p1 _ _
              · rw [finish_atR_inRangeFunc]
                refine .one ?_
                rw [stepR_endRangeFunc hend, g4]
                cases jump <;> rfl
            · rw [show s1.T = s.T from hT1]
              exact hT.mono (e4.sub.trans f3.sub)
          · cases h
        · cases h
      · cases h
    · cases h
  · -- a round begins
    rename_i k ht
    split at h
    · rename_i l
      split at h
      · rename_i pend fn' T' size' ps assign body d hg
        cases h
        intro _
        obtain ⟨hb1, hb2, lc, q1, q2⟩ := hb
        obtain ⟨lc2, g1, L, ld, g2, g3, g4, g5, g6, g7, g8, g9, g10, g11⟩ := hm.blk l _ hg trivial
        rw [q1] at g1; cases g1
        refine ⟨a, _, ρ, .one ?_, hT, hk, Sim.turn (w1 := w.putObj lc.blk (.loop { L with state := .busy })) hm hf hg trivial q1 ⟨{ L with state := .busy }, ld, World.putObj_heap_same (Array.getElem?_eq_some_iff.1 g2).1, rfl, g4, g5, g6, g7, g8, g9, g10, g11⟩ rfl rfl rfl (by simp) (fun kk hkk => World.putObj_heap_other hkk)⟩
        rw [ht]
        exact stepR_beginRound q2 (run_beginRound g2 g3)
      · cases h
    · cases h
  · cases h
end
end Go.Proofs.Ytgikimegikelkaa.Ab
/- A machine of lists and tries: calls. -/
namespace Go.Proofs.Ytgikimegikelkaa.Ab
open Go Go.RowKit
set_option linter.unusedVariables false
set_option linter.unusedSimpArgs false
set_option linter.unusedSectionVars false

section
variable {E : Env} {P : Program} {call : CallF} {fn size : Nat} {round : Option Nat} {ρ : Ren} {b : Frame} {a : Act} {w : World} {cs : List Frame}

theorem loopF_zero (s : Fr) : loopF call E fn size round 0 s = none := rfl
theorem loopF_succ (n : Nat) (s : Fr) : loopF call E fn size round (n + 1) s = match stepF call E fn size round s with
      | some (.run s1) => loopF call E fn size round n s1
      | some (.leave j s1) => some (j, s1)
      | none => none := rfl

theorem loopF_keeps (hmono : ∀ c args m v m1, call c args m = some (v, m1) → m.next ≤ m1.next) (hfc : FreshCall call) (hdc : DomCall call) : ∀ (n : Nat) (s s' : Fr) (j : Option Code), loopF call E fn size round n s = some (j, s') → KeepsF s.m s'.m
  | 0, s, s', j, h => by rw [loopF_zero] at h; cases h
  | n + 1, s, s', j, h => by
    rw [loopF_succ] at h
    split at h
    · rename_i s1 hs
      have h1 : StKeeps s (.run s1) := stepF_keeps hmono hfc hdc hs
      exact KeepsF.trans h1 (loopF_keeps hmono hfc hdc n s1 s' j h)
    · rename_i j' s1 hs
      have h1 : StKeeps s (.leave j' s1) := stepF_keeps hmono hfc hdc hs
      cases h
      rw [show s' = s from h1]
      exact KeepsF.refl _
    · cases h

variable (hE : EnvOK E P) (hcall : CallOK P call) (hfc : FreshCall call) (hdc : DomCall call)
include hE hcall hfc hdc

theorem loopF_ok : ∀ (n : Nat) (s s' : Fr) (j : Option Code) (a : Act) (w : World) (ρ : Ren), loopF call E fn size round n s = some (j, s') → Kept round ρ b fn → TR ρ s.T size a.tmps → MK ρ s.marks a.defers → MR ρ s.m w → Fresh s.m → FreshOn ρ s.m.next s'.m.next →
    ∃ a' w' ρ', Steps P (lone (b.atR a s.todo) cs w) (lone (b.atR a' s'.todo) cs w') ∧ Leaves P b a' s'.todo j ∧ TR ρ' s'.T size a'.tmps ∧ MK ρ' s'.marks a'.defers ∧ Sim ρ s.m w ρ' s'.m w'
  | 0, s, s', j, a, w, ρ, h, _, _, _, _, _, _ => by rw [loopF_zero] at h; cases h
  | n + 1, s, s', j, a, w, ρ, h, hb, hT, hk, hm, hf, hfr => by
    rw [loopF_succ] at h
    split at h
    · rename_i s1 hs
      have k1 : StKeeps s (.run s1) := stepF_keeps hcall.mono hfc hdc hs
      have k2 := loopF_keeps hcall.mono hfc hdc n s1 s' j h
      have h1 : StepOK P size ρ b a w cs s (.run s1) := stepF_ok hE hcall hfc hdc hs hb hT hk hm hf
      obtain ⟨a1, w1, ρ1, q1, q2, q3, q4⟩ := h1 (hfr.sub (Nat.le_refl _) k2.1)
      obtain ⟨a2, w2, ρ2, r1, r2, r3, r4, r5⟩ := loopF_ok n s1 s' j a1 w1 ρ1 h (hb.mono q4.sub) q2 q3 q4.mr q4.fresh (hfr.out q4.out k1.1)
      exact ⟨a2, w2, ρ2, Steps.trans q1 r1, r2, r3, r4, q4.trans r5⟩
    · rename_i j' s1 hs
      have h1 : StepOK P size ρ b a w cs s (.leave j' s1) := stepF_ok hE hcall hfc hdc hs hb hT hk hm hf
      cases h
      obtain ⟨rfl, h2⟩ := h1
      exact ⟨a, w, ρ, .refl _ _, h2, hT, hk, Sim.refl hm hf⟩
    · cases h
end

/-! ### Marks, results, parameters -/
section
variable {E : Env} {P : Program}

theorem step_take {fr : Frame} {cs : List Frame} {w : World} {blk : Nat} {ds : List Deferred} (hm : fr.mode = .returning) (hd : fr.defers = { target := .collected blk, args := #[] } :: ds) (h : w.heap[blk]? = some (.deferred (some []))) :
    step P (lone fr cs w) = .next (lone { fr with defers := ds } cs (w.putObj blk (.deferred none))) :=
  step_lone_go (by simp [stepG, unwind, hm, hd, Sem.runT_eq, run_takeDeferred h, GStep.bare_after])

theorem takeMarks_keeps : ∀ (l : List Nat) (m m1 : Mem), takeMarks l m = some m1 → KeepsF m m1
  | [], m, m1, h => by simp only [takeMarks] at h; cases h; exact KeepsF.refl _
  | d :: l, m, m1, h => by
    simp only [takeMarks] at h
    split at h
    · rename_i hg
      exact (KeepsF.set hg trivial).trans (takeMarks_keeps l _ m1 h)
    · cases h

theorem takeMarks_ok : ∀ (l : List Nat) (m m1 : Mem) (fr : Frame) (cs : List Frame) (w : World) (ρ : Ren), takeMarks l m = some m1 → fr.mode = .returning → MK ρ l fr.defers → MR ρ m w → Fresh m →
    ∃ w1, Steps P (lone fr cs w) (lone { fr with defers := [] } cs w1) ∧ Sim ρ m w ρ m1 w1
  | [], m, m1, fr, cs, w, ρ, h, hmode, hk, hm, hf => by
    simp only [takeMarks] at h; cases h
    cases hd : fr.defers with
    | nil =>
      have : { fr with defers := [] } = fr := by rw [← hd]
      rw [this]
      exact ⟨w, .refl _ _, Sim.refl hm hf⟩
    | cons x xs => rw [hd] at hk; exact hk.elim
  | d :: l, m, m1, fr, cs, w, ρ, h, hmode, hk, hm, hf => by
    simp only [takeMarks] at h
    split at h
    · rename_i hg
      cases hd : fr.defers with
      | nil => rw [hd] at hk; exact hk.elim
      | cons x xs =>
        rw [hd] at hk
        obtain ⟨⟨lc, h1, rfl⟩, h2⟩ := hk
        obtain ⟨lc', e1, e2⟩ := hm.blk d _ hg trivial
        rw [h1] at e1; cases e1
        have hsim : Sim ρ m w ρ (m.set d .dead) (w.putObj lc.blk (.deferred none)) :=
          Sim.turn hm hf hg trivial h1 trivial rfl rfl rfl (by simp) (fun kk hkk => World.putObj_heap_other hkk)
        obtain ⟨w1, q1, q2⟩ := takeMarks_ok l _ m1 { fr with defers := xs } cs _ ρ h hmode h2 hsim.mr hsim.fresh
        exact ⟨w1, .head (step_take hmode hd e2) q1, hsim.trans q2⟩
    · cases h

def resF (tmps : Array Value) : ResultVar → Sem Value
  | .tmp t => pure (tmps.getD t undef)
  | .cell a t => do loadVar t (← asAddr (tmps.getD a undef))
theorem results_eq (F : Func) (tmps : Array Value) : results F tmps = (do
    let vs ← F.results.mapM (resF tmps)
    pure (if h : vs.size = 1 then vs[0] else .tuple vs)) := by
  unfold results
  congr 1
theorem resL_ok (hE : EnvOK E P) {ρ : Ren} {T : Tr Value} {size : Nat} {tmps : Array Value} {m : Mem} {w : World} (hT : TR ρ T size tmps) (hm : MR ρ m w) : ∀ (l : List ResultVar) (vs : List Value), resL E T m l = some vs →
    ∃ vs', (l.mapM (resF tmps)).run P w = .ok vs' w ∧ VRL ρ vs vs'
  | [], vs, h => by simp only [resL] at h; cases h; exact ⟨[], by simp, .nil⟩
  | r :: l, vs, h => by
    simp only [resL] at h
    split at h
    · rename_i v hv
      split at h
      · rename_i vs1 hvs
        cases h
        obtain ⟨vs', q1, q2⟩ := resL_ok hE hT hm l vs1 hvs
        cases r with
        | tmp t =>
          simp only [resV] at hv
          cases hv
          refine ⟨tmps.getD t undef :: vs', ?_, .cons _ _ _ _ (hT.2.1 t) q2⟩
          rw [List.mapM_cons, Sem.run_bind]
          simp only [resF, Result.andThen, Sem.run_bind, q1, Sem.run_pure]
        | cell a t =>
          simp only [resV] at hv
          split at hv
          · rename_i bb o ha
            obtain ⟨K, lc, v', e1, e2, e3, e4, e5⟩ := loadV_ok hE hm hv
            have hx := hT.2.1 a
            rw [ha, Option.getD_some] at hx
            generalize hz : tmps.getD a undef = z at hx
            cases hx with
            | ptr _ _ lc2 h2 =>
            rw [e3] at h2; cases h2
            refine ⟨v' :: vs', ?_, .cons _ _ _ _ e5 q2⟩
            rw [List.mapM_cons, Sem.run_bind]
            have : (resF tmps (.cell a t)).run P w = .ok v' w := by
              simp only [resF]
              rw [hz]
              simp only [asAddr, Sem.run_bind, Sem.run_pure, Result.andThen]
              exact e4
            simp only [this, Result.andThen, Sem.run_bind, q1, Sem.run_pure]
          · cases hv
      · cases h
    · cases h

theorem results_ok (hE : EnvOK E P) {ρ : Ren} {T : Tr Value} {size : Nat} {tmps : Array Value} {m : Mem} {w : World} (hT : TR ρ T size tmps) (hm : MR ρ m w) {F : Func} {vs : List Value} (h : resL E T m F.results.toList = some vs) :
    ∃ v', (results F tmps).run P w = .ok v' w ∧ VR ρ (oneOf vs) v' := by
  obtain ⟨vs', q1, q2⟩ := resL_ok hE hT hm _ _ h
  refine ⟨if h : vs'.toArray.size = 1 then vs'.toArray[0] else .tuple vs'.toArray, ?_, ?_⟩
  · rw [results_eq, Array.mapM_eq_mapM_toList, Sem.run_bind, Sem.run_map]
    rw [q1]
    rfl
  · cases q2 with
    | nil => exact .tuple _ _ .nil
    | cons x y l r hx hl =>
      cases hl with
      | nil => exact hx
      | cons x2 y2 l r hx2 hl => 
        rw [dif_neg (by simp)]
        exact .tuple _ _ (.cons _ _ _ _ hx (.cons _ _ _ _ hx2 hl))

theorem argsT_get : ∀ (l : List Value) (i : Nat) (T : Tr Value) (j : Nat), i + l.length ≤ 65536 → (argsT l i T).get j = if i ≤ j ∧ j < i + l.length then l[j - i]? else T.get j
  | [], i, T, j, h => by rw [argsT, if_neg (by simp only [List.length_nil]; omega)]
  | v :: l, i, T, j, h => by
    rw [argsT, argsT_get l (i + 1) _ j (by simp at h; omega), Tr.get_set]
    simp only [List.length_cons] at h ⊢
    by_cases c : j = i
    · subst c
      rw [if_neg (by omega), if_pos ⟨rfl, by omega⟩, if_pos (by omega)]
      simp
    · by_cases c2 : i + 1 ≤ j ∧ j < i + 1 + l.length
      · rw [if_pos c2, if_pos (by omega), show j - i = (j - (i + 1)) + 1 by omega, List.getElem?_cons_succ]
      · rw [if_neg c2, if_neg (by omega), if_neg (by omega)]

theorem args_ok {ρ : Ren} {args : List Value} {args' : Array Value} (h : VRL ρ args args'.toList) (hl : args.length ≤ 65535) (n : Nat) : TR ρ (argsT args 0 .nil) (Nat.max args.length n) (args' ++ Array.replicate (n - args'.size) undef) := by
  have hlen : args'.size = args.length := by have := h.length; simpa using this.symm
  refine ⟨?_, fun i => ?_, fun i hi => ?_⟩
  · rw [Array.size_append, Array.size_replicate, hlen]
    show _ = max args.length n
    omega
  · rw [argsT_get args 0 _ i (by omega), Array.getD_eq_getD_getElem?]
    by_cases c : i < args.length
    · rw [if_pos ⟨Nat.zero_le _, by omega⟩, Nat.sub_zero]
      obtain ⟨x', h1, h2⟩ := h.get i args[i] (by simp [c])
      rw [Array.getElem?_append_left (by omega)]
      rw [Array.getElem?_toList] at h1
      simp [c, h1, h2]
    · rw [if_neg (by omega), Tr.get_nil, Option.getD_none]
      rw [Array.getElem?_append_right (by omega)]
      have : ((Array.replicate (n - args'.size) undef)[i - args'.size]?).getD undef = undef := by
        rw [Array.getElem?_replicate]
        split <;> rfl
      rw [this]; exact .undef ρ
  · have hi' : max args.length n ≤ i := hi
    rw [argsT_get args 0 _ i (by omega), if_neg (by omega), Tr.get_nil]

theorem setPs_ok : ∀ (ps : List Nat) (vs vs' : List Value) (size : Nat) (T T1 : Tr Value) (ρ : Ren) (tmps : Array Value), setPs ps vs size T = some T1 → TR ρ T size tmps → VRL ρ vs vs' →
    ps.length = vs'.length ∧ TR ρ T1 size ((ps.zip vs').foldl (fun tmps (t, a) => tmps.setIfInBounds t a) tmps)
  | [], [], vs', size, T, T1, ρ, tmps, h, hT, hv => by simp only [setPs] at h; cases h; cases hv; exact ⟨rfl, hT⟩
  | [], _ :: _, vs', size, T, T1, ρ, tmps, h, hT, hv => by simp only [setPs] at h; cases h
  | _ :: _, [], vs', size, T, T1, ρ, tmps, h, hT, hv => by simp only [setPs] at h; cases h
  | p :: ps, v :: vs, vs', size, T, T1, ρ, tmps, h, hT, hv => by
    simp only [setPs] at h
    obtain ⟨hc, h⟩ := bif_some h
    cases hv with
    | cons _ y _ r hx hr =>
    have h2 : TR ρ (T.set v 30 p) size ((⟨tmps, []⟩ : Act).put (some p) y).tmps := TR.put (a := ⟨tmps, []⟩) hT hx (by simp only [putT, hc, cond_true])
    obtain ⟨q1, q2⟩ := setPs_ok ps vs r size _ T1 ρ _ h h2 hr
    exact ⟨by simp [q1], q2⟩
end
end Go.Proofs.Ytgikimegikelkaa.Ab
/- A machine of lists and tries: what it tells of a call, the model's machine does. -/
namespace Go.Proofs.Ytgikimegikelkaa.Ab
open Go Go.RowKit
set_option linter.unusedVariables false
set_option linter.unusedSimpArgs false
set_option linter.unusedSectionVars false

section
variable {E : Env} {P : Program}

theorem aRun_zero (c : CallTo) (args : List Value) (m : Mem) : aRun E 0 c args m = none := by unfold aRun; rfl

theorem aRun_fn {n g : Nat} {args : List Value} {m m1 : Mem} {v : Value} (h : aRun E (n + 1) (.fn g) args m = some (v, m1)) :
    (E.sane g = true ∧ args = [] ∧ v = .bool true ∧ m1 = m) ∨ (E.sane g && args.isEmpty) = false ∧ ∃ F body j s vs, E.fn g = some F ∧ F.body = some body ∧ args.length ≤ 65535 ∧ loopF (aRun E n) E g (Nat.max args.length F.ntmps) none n ⟨argsT args 0 .nil, [.code body], [], m⟩ = some (j, s) ∧ takeMarks s.marks s.m = some m1 ∧ resL E s.T m1 F.results.toList = some vs ∧ v = oneOf vs := by
  unfold aRun at h
  cases hsn : (E.sane g && args.isEmpty) with
  | true =>
    rw [hsn, cond_true] at h
    cases h
    rw [Bool.and_eq_true] at hsn
    exact .inl ⟨hsn.1, List.isEmpty_iff.1 hsn.2, rfl, rfl⟩
  | false =>
  rw [hsn, cond_false] at h
  refine .inr ⟨rfl, ?_⟩
  split at h
  · rename_i F hF
    split at h
    · rename_i body hbody
      obtain ⟨hc, h⟩ := bif_some h
      split at h
      · rename_i j s hs
        split at h
        · rename_i m2 hm
          split at h
          · rename_i vs hvs
            cases h
            exact ⟨F, body, j, s, vs, hF, hbody, Nat.le_of_ble_eq_true hc, hs, hm, hvs, rfl⟩
          · cases h
        · cases h
      · cases h
    · cases h
  · cases h

theorem aRun_yield {n l : Nat} {args : List Value} {m m1 : Mem} {v : Value} (h : aRun E (n + 1) (.yield l) args m = some (v, m1)) :
    ∃ st pend fn T size ps assign body d T1 jump s st2 pend2 fn2 T2 size2 ps2 assign2 body2 d2, m.get l = some (.loop st pend fn T size ps assign body d) ∧ setPs ps args size T = some T1 ∧
      loopF (aRun E n) E fn size (some l) n ⟨T1, [.code assign, .beginRound, .code body], [], m⟩ = some (jump, s) ∧ s.marks = [] ∧ s.m.get l = some (.loop st2 pend2 fn2 T2 size2 ps2 assign2 body2 d2) ∧
      v = .bool jump.isNone ∧ m1 = s.m.set l (.loop (match jump with | none => .ready | some _ => .done) jump fn2 T2 size2 ps2 assign2 body2 d2) := by
  unfold aRun at h
  split at h
  · rename_i st pend fn T size ps assign body d hl
    split at h
    · rename_i T1 hT
      split at h
      · rename_i jump s hs
        split at h
        · rename_i st2 pend2 fn2 T2 size2 ps2 assign2 body2 d2 hk h2
          cases h
          exact ⟨st, pend, fn, T, size, ps, assign, body, d, T1, jump, s, st2, pend2, fn2, T2, size2, ps2, assign2, body2, d2, hl, hT, hs, hk, h2, rfl, rfl⟩
        · cases h
      · cases h
    · cases h
  · cases h

structure RunOK (E : Env) (P : Program) (call : CallF) : Prop where
  ok : CallOK P call
  keeps : ∀ c args m v m1, call c args m = some (v, m1) → KeepsF m m1
theorem RunOK.fresh {call : CallF} (h : RunOK E P call) : FreshCall call := fun c args m v m1 hc hf => (h.keeps c args m v m1 hc).2.1 hf
theorem RunOK.dom {call : CallF} (h : RunOK E P call) : DomCall call := fun c args m v m1 hc => (h.keeps c args m v m1 hc).2.2

theorem aRun_keeps {n : Nat} (ih : RunOK E P (aRun E n)) (c : CallTo) (args : List Value) (m : Mem) (v : Value) (m1 : Mem) (h : aRun E (n + 1) c args m = some (v, m1)) : KeepsF m m1 := by
  cases c with
  | fn g =>
    rcases aRun_fn h with ⟨_, _, _, rfl⟩ | ⟨_, F, body, j, s, vs, h1, h2, h3, h4, h5, h6, rfl⟩
    · exact KeepsF.refl _
    have k1 := loopF_keeps ih.ok.mono ih.fresh ih.dom _ _ _ _ h4
    exact KeepsF.trans k1 (takeMarks_keeps _ _ _ h5)
  | yield l =>
    obtain ⟨st, pend, fn, T, size, ps, assign, body, d, T1, jump, s, st2, pend2, fn2, T2, size2, ps2, assign2, body2, d2, h1, h2, h3, h4, h5, rfl, rfl⟩ := aRun_yield h
    have k1 := loopF_keeps ih.ok.mono ih.fresh ih.dom _ _ _ _ h3
    exact KeepsF.trans k1 (KeepsF.set h5 trivial)

theorem aRun_ok (hE : EnvOK E P) : ∀ n, RunOK E P (aRun E n)
  | 0 => by
    refine ⟨⟨fun g args m v m1 h => ?_, fun l args m v m1 h => ?_, fun c args m v m1 h => ?_⟩, fun c args m v m1 h => ?_⟩
    all_goals (rw [aRun_zero] at h; cases h)
  | n + 1 => by
    have ih := aRun_ok hE n
    refine ⟨⟨fun g args m v m1 h => ?_, fun l args m v m1 h => ?_, fun c args m v m1 h => (aRun_keeps ih c args m v m1 h).1⟩, aRun_keeps ih⟩
    · rcases aRun_fn h with ⟨q1, rfl, rfl, rfl⟩ | ⟨_, F, body, j, s, vs, h1, h2, h3, h4, h5, h6, rfl⟩
      · obtain ⟨e1, e2⟩ := hE.sane g q1
        refine ⟨e1, fun ρ w args' hm hf hv hfr => ?_⟩
        have ha : args' = #[] := by
          have hl := hv.length
          apply Array.eq_empty_of_size_eq_zero
          rw [← Array.length_toList, ← hl]; rfl
        subst ha
        refine Calls.mono (e2 w) ?_
        rintro e w1 ⟨rfl, hb⟩
        refine ⟨.bool true, ρ, rfl, .bool true, Nat.le_refl _, fun _ _ => rfl, Sub.refl _, ⟨fun b K hk hK => ?_, hm.inj⟩, hf, hb.os, hb.tape, hb.output, hb.size, fun k hk _ => hb.block k hk, fun o k hk => .inr hk⟩
        obtain ⟨l, e3, e4⟩ := hm.blk b K hk hK
        exact ⟨l, e3, e4.congr (hb.block _ (e4.lt hK))⟩
      obtain ⟨hF, henter⟩ := hE.fn g F h1
      refine ⟨henter, fun ρ w args' hm hf hv hfr cs => ?_⟩
      have hk2 := takeMarks_keeps _ _ _ h5
      let b : Frame := { (default : Frame) with fn := g, kind := .normal, roundOf := none }
      let a0 : Act := { tmps := args' ++ Array.replicate (F.ntmps - args'.size) undef, defers := [] }
      have hent : Frame.enter P g args' .normal = b.atR a0 [.code body] := by
        simp [Frame.enter, Frame.atR, hF, h2, b, a0]
      obtain ⟨a1, w1, ρ1, q1, q2, q3, q4, q5⟩ := loopF_ok (b := b) (cs := cs) hE ih.ok ih.fresh ih.dom _ _ _ _ a0 w ρ h4 ⟨rfl, rfl, rfl⟩ (args_ok hv h3 F.ntmps) trivial hm hf (hfr.sub (Nat.le_refl _) hk2.1)
      obtain ⟨w2, r1, r2⟩ := takeMarks_ok s.marks s.m m1 { b.atR a1 s.todo with mode := .returning } cs w1 ρ1 h5 rfl q4 q5.mr q5.fresh
      obtain ⟨v', t1, t2⟩ := results_ok hE (q3.mono r2.sub) r2.mr h6
      refine ⟨.returned v', w2, { b.atR a1 s.todo with mode := .returning, defers := [] }, ⟨v', ρ1, rfl, t2, q5.trans r2⟩, ?_, rfl, rfl, rfl, rfl, F, hF, t1⟩
      rw [hent]
      exact Steps.trans q1 (.head (q2.1 rfl cs w1) r1)
    · obtain ⟨st, pend, fn, T, size, ps, assign, body, d, T1, jump, s, st2, pend2, fn2, T2, size2, ps2, assign2, body2, d2, h1, h2, h3, h4, h5, rfl, rfl⟩ := aRun_yield h
      intro ρ w args' lc hlc hm hf hv hfr
      obtain ⟨lc2, e1, L, ld, e2, e3, e4, e5, e6, e7, e8, e9, e10, e11⟩ := hm.blk l _ h1 trivial
      rw [hlc] at e1; cases e1
      obtain ⟨p1, p2⟩ := setPs_ok ps args args'.toList size T T1 ρ L.tmps h2 e6 hv
      have hsz : args'.size = L.params.size := by rw [← Array.length_toList, ← p1, ← e7]; simp
      have hz : (L.params.zip args').foldl (fun tmps (t, a) => tmps.setIfInBounds t a) L.tmps = (ps.zip args'.toList).foldl (fun tmps (t, a) => tmps.setIfInBounds t a) L.tmps := by
        rw [← Array.foldl_toList, Array.toList_zip, e7]
      refine ⟨L.fn, _, L.assign, L.body, run_yield e2 hsz, fun c cs => ?_⟩
      let b : Frame := { (default : Frame) with fn := fn, kind := .normal, roundOf := some lc.blk }
      let a0 : Act := { tmps := (L.params.zip args').foldl (fun tmps (t, a) => tmps.setIfInBounds t a) L.tmps, defers := [] }
      have hent : Frame.round lc.blk L.fn a0.tmps L.assign L.body .normal = b.atR a0 [.code assign, .beginRound, .code body] := by
        simp [Frame.round, Frame.atR, b, a0, e5, e8, e9]
      have hT0 : TR ρ T1 size a0.tmps := by show TR ρ T1 size ((L.params.zip args').foldl (fun tmps (t, a) => tmps.setIfInBounds t a) L.tmps); rw [hz]; exact p2
      obtain ⟨a1, w1, ρ1, q1, q2, q3, q4, q5⟩ := loopF_ok (b := b) (cs := c :: cs) hE ih.ok ih.fresh ih.dom _ _ _ _ a0 w ρ h3 ⟨rfl, rfl, lc, hlc, rfl⟩ hT0 trivial hm hf hfr
      obtain ⟨lc3, g1, L2, ld2, g2, g3, g4, g5, g6, g7, g8, g9, g10, g11⟩ := q5.mr.blk l _ h5 trivial
      have hlc3 : lc3 = lc := by have := q5.sub _ _ hlc; rw [g1] at this; cases this; rfl
      subst hlc3
      have hsim : Sim ρ1 s.m w1 ρ1 (s.m.set l (.loop (match (generalizing := false) jump with | none => .ready | some _ => .done) jump fn2 T2 size2 ps2 assign2 body2 d2)) (w1.putObj lc3.blk (.loop { L2 with state := if jump.isNone then .ready else .done, pending := jump })) := by
        refine Sim.turn q5.mr q5.fresh h5 trivial g1 ⟨{ L2 with state := if jump.isNone then .ready else .done, pending := jump }, ld2, World.putObj_heap_same (Array.getElem?_eq_some_iff.1 g2).1, ?_, rfl, g5, g6, g7, g8, g9, g10, g11⟩ rfl rfl rfl (by simp) (fun kk hkk => World.putObj_heap_other hkk)
        cases jump <;> rfl
      refine ⟨.bool jump.isNone, _, ρ1, .bool _, q5.trans hsim, ?_⟩
      rw [hent]
      exact Steps.trans q1 (.one (q2.2 lc3.blk _ _ _ c cs rfl (run_endRound jump g2)))

/-- A closed call of a function without arguments that tells true. -/
noncomputable def isT : Option (Value × Mem) → Bool
  | some (.bool true, _) => true
  | _ => false

theorem closed_true (hE : EnvOK E P) {n g : Nat} (h : isT (aRun E n (.fn g) [] ⟨.nil, 0⟩) = true) (w : World) :
    Calls P g #[] w (fun e w1 => e = .returned (.bool true) ∧ Below w.heap.size w w1) := by
  cases hr : aRun E n (.fn g) [] ⟨.nil, 0⟩ with
  | none => rw [hr] at h; cases h
  | some vm =>
    obtain ⟨v, m1⟩ := vm
    rw [hr] at h
    have hv : v = .bool true := by
      cases v with
      | bool b => cases b with
        | true => rfl
        | false => cases h
      | _ => cases h
    subst hv
    obtain ⟨_, h2⟩ := (aRun_ok hE n).ok.fn g [] ⟨.nil, 0⟩ _ _ hr
    have hg : ∀ b, (⟨.nil, 0⟩ : Mem).get b = none := fun b => by simp [Mem.get, Tr.get_nil]
    have h3 := h2 (fun _ => none) w #[] ⟨fun b K hb => (by rw [hg] at hb; cases hb), fun b b' K K' l l' hb => (by rw [hg] at hb; cases hb)⟩ (fun b K hb => (by rw [hg] at hb; cases hb)) .nil (fun b _ _ => rfl)
    refine Calls.mono h3 ?_
    rintro e w1 ⟨v', ρ1, rfl, q1, q2⟩
    cases q1
    refine ⟨rfl, ?_⟩
    have hno : ∀ k, ¬ Im (fun _ => none) (⟨.nil, 0⟩ : Mem) k := by rintro k ⟨b, K, l, hb, _⟩; rw [hg] at hb; cases hb
    exact ⟨q2.fr.os, q2.fr.tape, q2.fr.output, q2.fr.size, fun k hk => q2.fr.unch k hk (hno k)⟩
end
end Go.Proofs.Ytgikimegikelkaa.Ab
/- A machine of lists and tries: tables of a program's functions and types. -/
namespace Go.Proofs.Ytgikimegikelkaa.Ab
open Go Go.RowKit
set_option linter.unusedVariables false
set_option linter.unusedSimpArgs false
set_option linter.unusedSectionVars false

noncomputable def ofL {α : Type} : List (Nat × α) → Tr α → Tr α
  | [], T => T
  | (n, a) :: l, T => ofL l (T.set a 30 n)

theorem ofL_get {α : Type} {n : Nat} {a : α} : ∀ (l : List (Nat × α)) (T : Tr α), (ofL l T).get n = some a → (n, a) ∈ l ∨ T.get n = some a
  | [], T, h => .inr h
  | (k, b) :: l, T, h => by
    rcases ofL_get l _ h with h1 | h1
    · exact .inl (List.mem_cons_of_mem _ h1)
    · rw [Tr.get_set] at h1
      by_cases c : n = k ∧ k + 1 < 2 ^ 30
      · rw [if_pos c] at h1; cases h1; rw [c.1]; exact .inl (List.mem_cons_self ..)
      · rw [if_neg c] at h1; exact .inr h1

inductive AllOf {α : Type} (Q : α → Prop) : List α → Prop
  | nil : AllOf Q []
  | cons (x : α) (l : List α) (h : Q x) (hl : AllOf Q l) : AllOf Q (x :: l)
theorem AllOf.mem {α : Type} {Q : α → Prop} : ∀ {l : List α}, AllOf Q l → ∀ x ∈ l, Q x
  | _, .nil, x, hx => by cases hx
  | _, .cons y l h hl, x, hx => by
    rcases List.mem_cons.1 hx with rfl | hx
    · exact h
    · exact hl.mem x hx

noncomputable def zOK (i : TypeInfo) : Bool :=
  match i.zero with
  | none => true
  | some z => bc (litV z) (Nat.beq z.cells.size i.size) false
noncomputable def isStr : TypeDesc → Bool
  | .struct _ => true
  | _ => false

structure TyOK (P : Program) (t : Nat) (d : TypeDesc) (i : TypeInfo) : Prop where
  desc : P.underlying t = some d
  info : ∀ w, (typeInfo t).run P w = .ok i w
  zero : zOK i = true
  held : isStr d = true → P.stoodInHeld t = false
  guard : isAggD d = true → P.eqGuardType P.depth t = false

theorem info_of {P : Program} {t : Nat} {i : TypeInfo} (h : ∀ w, (typeInfo t).run P w = .ok i w) (w : World) : P.info? t = some i := by
  have := h w
  cases hi : P.info? t with
  | none => simp [typeInfo, hi, stuck] at this
  | some j =>
    rw [run_typeInfo' hi] at this
    cases this
    rfl

noncomputable def envOf (fs : List (Nat × Func)) (ts : List (Nat × (TypeDesc × TypeInfo))) : Env :=
  { fn := (ofL fs .nil).get, info := (ofL ts .nil).get, sane := fun _ => false }

structure FnOK (P : Program) (g : Nat) (F : Func) : Prop where
  func : P.funcs[g]? = some F
  enters : ∀ (args : Array Value) (w : World), (callFunc g args).run P w = .ok (.enter g args) w

theorem envOf_ok {P : Program} {fs : List (Nat × Func)} {ts : List (Nat × (TypeDesc × TypeInfo))} (w : World) (hf : AllOf (fun x => FnOK P x.1 x.2) fs) (ht : AllOf (fun x => TyOK P x.1 x.2.1 x.2.2) ts) (hm : P.follows .mixedOrders = true) : EnvOK (envOf fs ts) P := by
  have hinfo : ∀ t d i, (envOf fs ts).info t = some (d, i) → TyOK P t d i := by
    intro t d i h
    rcases ofL_get ts _ h with h1 | h1
    · exact ht.mem _ h1
    · rw [Tr.get_nil] at h1; cases h1
  refine ⟨fun g F h => ?_, fun t d i h => ?_, fun t d i z h hz => ?_, hm, fun t fs i h => ?_, fun t d i h ha => ?_, fun g h => ?_⟩
  · rcases ofL_get fs _ h with h1 | h1
    · exact ⟨(hf.mem _ h1).func, (hf.mem _ h1).enters⟩
    · rw [Tr.get_nil] at h1; cases h1
  · have k := hinfo t d i h
    exact ⟨k.desc, info_of k.info w⟩
  · have k := hinfo t d i h
    have hzz := k.zero
    unfold zOK at hzz
    rw [hz] at hzz
    simp only at hzz
    cases hl : litV z with
    | false => rw [hl] at hzz; cases hzz
    | true => rw [hl] at hzz; exact ⟨rfl, Nat.eq_of_beq_eq_true hzz⟩
  · exact (hinfo t _ i h).held rfl
  · exact (hinfo t d i h).guard ha
  · cases h
end Go.Proofs.Ytgikimegikelkaa.Ab
/- A machine of lists and tries: more rounds tell the same. -/
namespace Go.Proofs.Ytgikimegikelkaa.Ab
open Go Go.RowKit
set_option linter.unusedVariables false
set_option linter.unusedSimpArgs false
set_option linter.unusedSectionVars false

def CLe (c d : CallF) : Prop := ∀ x a m r, c x a m = some r → d x a m = some r
section
variable {E : Env} {c d : CallF} (hcd : CLe c d)
include hcd

theorem applyR_mono {m : Mem} {r : OpR} {x : Value × Mem} (h : applyR c m r = some x) : applyR d m r = some x := by
  cases r with
  | call f args => exact hcd _ _ _ _ h
  | _ => exact h

theorem runOps_mono {all : List Oper} {size : Nat} : ∀ (l : List Oper) (T : Tr Value) (m : Mem) (x : Tr Value × Mem), runOps c E all size l T m = some x → runOps d E all size l T m = some x
  | [], T, m, x, h => by rw [runOps_nil] at h ⊢; exact h
  | o :: l, T, m, x, h => by
    rw [runOps_cons] at h ⊢
    split at h
    · rename_i hw
      try rw [hw]
      split at h
      · rename_i v m1 ha
        simp only [applyR_mono hcd ha]
        split at h
        · rename_i T1 hp
          (try simp only [hp]); exact runOps_mono l T1 m1 x h
        · cases h
      · cases h
    · rename_i hw
      try rw [hw]
      split at h
      · rename_i T1 hp
        (try simp only [hp]); exact runOps_mono l T1 m x h
      · cases h
    · cases h

theorem drawW_mono {size i : Nat} {o : Oper} {mask : Nat} {s s1 : DS} {mr : Mem} {r : OpR} (h : drawW c E size i o mask s mr r = some s1) : drawW d E size i o mask s mr r = some s1 := by
  unfold drawW at h ⊢
  split at h
  · rename_i v m1 ha
    simp only [applyR_mono hcd ha]; exact h
  · cases h
theorem drawStep_mono {size base i : Nat} {o : Oper} {mask : Nat} {s s1 : DS} (h : drawStep c E size base i o mask s = some s1) : drawStep d E size base i o mask s = some s1 := by
  unfold drawStep at h ⊢
  simp only at h ⊢
  split at h
  · cases h
  · rename_i hr; (try simp only [hr]); exact h
  · rename_i hr; (try simp only [hr]); exact h
  · rename_i hr; (try simp only [hr]); exact h
  · rename_i hr; (try simp only [hr]); exact drawW_mono hcd h
  · rename_i hr; (try simp only [hr]); exact drawW_mono hcd h
theorem runDraw_mono {all : List Oper} {size base : Nat} : ∀ (l : List Oper) (ms : List Nat) (i : Nat) (s s1 : DS), runDraw c E all size base i l ms s = some s1 → runDraw d E all size base i l ms s = some s1
  | [], ms, i, s, s1, h => by simp only [runDraw] at h ⊢; exact h
  | o :: l, [], i, s, s1, h => by simp only [runDraw] at h; cases h
  | o :: l, mask :: ms, i, s, s1, h => by
    simp only [runDraw] at h ⊢
    split at h
    · rename_i hw
      try simp only [hw]
      split at h
      · rename_i s2 hs
        simp only [drawStep_mono hcd hs]; exact runDraw_mono l ms (i + 1) s2 s1 h
      · cases h
    · rename_i hw
      try simp only [hw]
      split at h
      · rename_i T1 hp
        (try simp only [hp]); exact runDraw_mono l ms (i + 1) _ s1 h
      · cases h
    · cases h
theorem runRegion_mono {size : Nat} {ops : List Oper} {draw : Bool} {T : Tr Value} {m : Mem} {x : Tr Value × Mem} (h : runRegion c E size ops draw T m = some x) : runRegion d E size ops draw T m = some x := by
  unfold runRegion at h ⊢
  cases draw with
  | false => rw [cond_false] at h ⊢; exact runOps_mono hcd _ _ _ _ h
  | true =>
    rw [cond_true] at h ⊢
    cases hk : okStatic ops && Nat.ble size 65535 with
    | false => rw [hk, cond_false] at h; cases h
    | true =>
      rw [hk, cond_true] at h; rw [cond_true]
      split at h
      · rename_i s hs
        simp only [runDraw_mono hcd _ _ _ _ _ hs]; exact h
      · cases h

theorem stepF_mono {fn size : Nat} {round : Option Nat} {s : Fr} {st : St} (h : stepF c E fn size round s = some st) : stepF d E fn size round s = some st := by
  obtain ⟨T, todo, marks, m⟩ := s
  cases todo with
  | nil => exact h
  | cons x k =>
    cases x with
    | code cd =>
      cases cd with
      | region id ops draw =>
        unfold stepF at h ⊢
        simp only at h ⊢
        cases hr : runRegion c E size ops.toList draw T m with
        | none => rw [hr] at h; cases h
        | some y => rw [hr] at h; rw [runRegion_mono hcd hr]; exact h
      | rangeFunc f ps assign body =>
        unfold stepF at h ⊢
        simp only at h ⊢
        split at h
        · rename_i g first cap hf
          try simp only [hf]
          split at h
          · rename_i l s1 he
            try simp only [he]
            split at h
            · rename_i v m2 hc
              simp only [hcd _ _ _ _ hc]; exact h
            · cases h
          · cases h
        · cases h
      | _ => exact h
    | _ => exact h

theorem loopF_mono {fn size : Nat} {round : Option Nat} : ∀ (n n' : Nat) (s : Fr) (x : Option Code × Fr), n ≤ n' → loopF c E fn size round n s = some x → loopF d E fn size round n' s = some x
  | 0, _, s, x, _, h => by rw [loopF_zero] at h; cases h
  | n + 1, 0, s, x, hn, h => by omega
  | n + 1, n' + 1, s, x, hn, h => by
    rw [loopF_succ] at h ⊢
    split at h
    · rename_i s1 hs
      simp only [stepF_mono hcd hs]; exact loopF_mono n n' s1 x (by omega) h
    · rename_i j s1 hs
      simp only [stepF_mono hcd hs]; exact h
    · cases h
end

theorem CLe.refl (c : CallF) : CLe c c := fun _ _ _ _ h => h
theorem aRun_succ {E : Env} : ∀ (n : Nat), CLe (aRun E n) (aRun E (n + 1))
  | 0 => fun x a m r h => by rw [aRun_zero] at h; cases h
  | n + 1 => fun x a m r h => by
    have ih := aRun_succ (E := E) n
    obtain ⟨v, m1⟩ := r
    cases x with
    | fn g =>
      rcases aRun_fn h with ⟨q1, rfl, rfl, rfl⟩ | ⟨hsn, F, body, j, s, vs, h1, h2, h3, h4, h5, h6, rfl⟩
      · unfold aRun
        rw [q1]; rfl
      have h4' := loopF_mono ih n (n + 1) _ _ (by omega) h4
      unfold aRun
      have hle : Nat.ble a.length 65535 = true := Nat.ble_eq_true_of_le h3
      simp only [hsn, cond_false, h1, h2, hle, cond_true, h4', h5, h6]
    | yield l =>
      obtain ⟨st, pend, fn, T, size, ps, assign, body, dd, T1, jump, s, st2, pend2, fn2, T2, size2, ps2, assign2, body2, d2, h1, h2, h3, h4, h5, rfl, rfl⟩ := aRun_yield h
      have h3' := loopF_mono ih n (n + 1) _ _ (by omega) h3
      unfold aRun
      simp only [h1, h2, h3', h4, h5]
      cases jump <;> rfl
theorem aRun_le {E : Env} {n n' : Nat} (h : n ≤ n') : CLe (aRun E n) (aRun E n') := by
  induction h with
  | refl => exact CLe.refl _
  | step _ ih => exact fun x a m r hr => aRun_succ _ x a m r (ih x a m r hr)
end Go.Proofs.Ytgikimegikelkaa.Ab
