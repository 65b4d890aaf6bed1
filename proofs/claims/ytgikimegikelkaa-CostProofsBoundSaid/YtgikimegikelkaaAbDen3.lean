/- The machine told by continuations: one operation does what the machine of lists and tries does. -/
import Derived.Test.YtgikimegikelkaaAbDen2
namespace Go.Proofs.Ytgikimegikelkaa.Ab
open Go Go.RowKit
set_option linter.unusedVariables false
set_option linter.unusedSimpArgs false
set_option linter.unusedSectionVars false

theorem sameKind_refl {k k' : IntKind} (h : sameKind k k' = true) : k = k' := by cases k <;> cases k' <;> first | rfl | cases h
theorem bif_t {α : Type} {c : Bool} {x : Option α} {r : α} (h : (bif c then x else none) = some r) : c = true ∧ x = some r := by
  cases c with
  | true => exact ⟨rfl, h⟩
  | false => cases h
theorem int_beq (x : Int) : (x == x) = true := by simp
theorem castK_ok {R : Type} {k : Ck} {v : Option Value} {K : Value → Option R} {r : R} (h : castK k v K = some r) : ∃ x, v = some x ∧ K x = some r ∧ eqCell x x = true := by
  cases k with
  | int i =>
    obtain ⟨x, h1, h2⟩ := bind_some' h
    unfold asI at h1
    split at h1
    · obtain ⟨h3, h4⟩ := bif_t h1
      cases h4
      obtain rfl := sameKind_refl h3
      exact ⟨_, rfl, h2, by simp [eqCell, h3]⟩
    · cases h1
  | bool =>
    obtain ⟨x, h1, h2⟩ := bind_some' h
    unfold asB at h1
    split at h1
    · cases h1; exact ⟨_, rfl, h2, by show (x == x) = true; simp⟩
    · cases h1
  | ptr =>
    obtain ⟨x, h1, h2⟩ := bind_some' h
    unfold asP at h1
    split at h1
    · cases h1; exact ⟨_, rfl, h2, by simp [eqCell, Nat.beq_refl]⟩
    · cases h1
  | slc =>
    obtain ⟨x, h1, h2⟩ := bind_some' h
    unfold asS at h1
    split at h1
    · cases h1; exact ⟨_, rfl, h2, by simp [eqCell, Nat.beq_refl]⟩
    · cases h1; exact ⟨_, rfl, h2, by simp [eqCell, Nat.beq_refl]⟩
    · cases h1
  | map =>
    obtain ⟨x, h1, h2⟩ := bind_some' h
    unfold asM at h1
    split at h1
    · cases h1; exact ⟨_, rfl, h2, by simp [eqCell, Nat.beq_refl]⟩
    · cases h1
theorem castL_cons {R : Type} (f : Nat → Option Value) (k : Ck) (l : List Ck) (j : Nat) (K : List Value → Option R) : castL f (k :: l) j K = castK k (f j) fun v => castL f l (j + 1) fun vs => K (v :: vs) := rfl
theorem castL_ok {R : Type} {f : Nat → Option Value} {r : R} : ∀ {l : List Ck} {j : Nat} {K : List Value → Option R}, castL f l j K = some r → ∃ vs, vs.length = l.length ∧ (∀ i v, vs[i]? = some v → f (j + i) = some v ∧ eqCell v v = true) ∧ K vs = some r
  | [], j, K, h => ⟨[], rfl, fun i v hv => by simp at hv, h⟩
  | k :: l, j, K, h => by
    rw [castL_cons] at h
    obtain ⟨x, h1, h2, h3⟩ := castK_ok h
    obtain ⟨vs, h4, h5, h6⟩ := castL_ok h2
    refine ⟨x :: vs, by simp [h4], fun i v hv => ?_, h6⟩
    cases i with
    | zero => simp at hv; subst hv; exact ⟨h1, h3⟩
    | succ i =>
      have := h5 i v (by simpa using hv)
      rw [show j + (i + 1) = j + 1 + i by omega]; exact this
theorem takeN_of {α : Type} : ∀ (vs l : List α), (∀ (i : Nat) v, vs[i]? = some v → l[i]? = some v) → takeN vs.length l = some vs
  | [], l, _ => rfl
  | v :: vs, [], h => by have := h 0 v (by simp); simp at this
  | v :: vs, x :: l, h => by
    have h0 : x = v := by have := h 0 v (by simp); simpa using this
    subst h0
    rw [List.length_cons, takeN_cons, takeN_of vs l (fun i w hw => by have := h (i + 1) w (by simpa using hw); simpa using this)]
    rfl
theorem eqCells_of : ∀ (vs : List Value), (∀ (i : Nat) v, vs[i]? = some v → eqCell v v = true) → eqCells vs vs = true
  | [], _ => rfl
  | v :: vs, h => by
    show (eqCell v v && eqCells vs vs) = true
    rw [h 0 v (by simp), eqCells_of vs (fun i w hw => h (i + 1) w (by simpa using hw))]; rfl
theorem eqVal_cell {v : Value} (h : eqCell v v = true) : eqVal v v = true := by
  cases v <;> first | exact h | cases h
/-- What a block's cell reads. -/
def CellB (K : Blk) (o : Nat) (v : Value) : Prop := (∃ sz cs, K = .row sz cs ∧ nth cs o = some v) ∨ (∃ f, K = .ro f ∧ f o = some v)
theorem CellB.plain {K : Blk} {o : Nat} {v : Value} (h : CellB K o v) : Plain K := by
  rcases h with ⟨sz, cs, rfl, _⟩ | ⟨f, rfl, _⟩ <;> trivial
theorem rd_row {h : Hp} {b o : Nat} {v : Value} (hr : rd h b o = some v) : ∃ K, h.g b = some K ∧ CellB K o v := by
  unfold rd at hr
  split at hr
  · rename_i sz cs hg; exact ⟨_, hg, .inl ⟨sz, cs, rfl, hr⟩⟩
  · rename_i f hg; exact ⟨_, hg, .inr ⟨f, rfl, hr⟩⟩
  · cases hr
theorem roN_of {f : Nat → Option Value} : ∀ (vs : List Value) (o : Nat), (∀ (i : Nat) v, vs[i]? = some v → f (o + i) = some v) → roN f vs.length o = some vs
  | [], o, _ => rfl
  | v :: vs, o, h => by
    have h0 : f o = some v := h 0 v (by simp)
    have ih := roN_of vs (o + 1) (fun i w hw => by
      have := h (i + 1) w (by simpa using hw)
      rw [show o + 1 + i = o + (i + 1) by omega]; exact this)
    show (match f o with | some v => (match roN f vs.length (o + 1) with | some l => some (v :: l) | none => none) | none => none) = _
    rw [h0, ih]
section
variable {E : Env} {R : Type}
theorem loadK_ok {hn : Option (Nat × List Ck)} {h : Hp} {t b o : Nat} {K : Value → Option R} {r : R} (hk : loadK E hn h t b o K = some r) :
    ∃ v KK, h.g b = some KK ∧ Plain KK ∧ (∀ m : Mem, m.get b = some KK → loadV E m t b o = some v) ∧ K v = some r ∧ (hn = none → eqVal v v = true) := by
  unfold loadK at hk
  cases hi : E.info t with
  | none => rw [hi] at hk; cases hk
  | some di =>
    obtain ⟨d, i⟩ := di
    rw [hi] at hk
    simp only at hk
    cases ha : isAggD d with
    | true =>
      rw [ha, cond_true] at hk
      split at hk
      · rename_i ks hks
        obtain ⟨hc, hk⟩ := bif_t hk
        rw [Bool.and_eq_true] at hc
        have hlen := Nat.eq_of_beq_eq_true hc.1
        have hpos := Nat.le_of_ble_eq_true hc.2
        obtain ⟨vs, h1, h2, h3⟩ := castL_ok hk
        have hex : ∃ v0, vs[0]? = some v0 := ⟨vs[0]'(by omega), List.getElem?_eq_getElem _⟩
        obtain ⟨v0, hv0⟩ := hex
        obtain ⟨KK, hg, hcb⟩ := rd_row (h2 0 v0 hv0).1
        refine ⟨_, KK, hg, hcb.plain, fun m hm => ?_, h3, fun _ => ?_⟩
        · unfold loadV
          rw [hi]
          simp only [ha, cond_true]
          unfold readN
          rw [hm]
          rcases hcb with ⟨sz, cs, rfl, _⟩ | ⟨f, rfl, _⟩
          · simp only
            rw [dropN_eq, ← hlen, ← h1, takeN_of vs (cs.drop o) (fun i v hv => ?_)]
            obtain ⟨K2, hg', hn'⟩ := rd_row (h2 i v hv).1
            rw [hg] at hg'; cases hg'
            rcases hn' with ⟨sz', cs', he, hn'⟩ | ⟨f, he, _⟩
            · cases he
              rw [nth_eq] at hn'
              rw [List.getElem?_drop, ← hn']; congr 1; omega
            · cases he
          · simp only
            rw [← hlen, ← h1, roN_of vs o (fun i v hv => ?_)]
            obtain ⟨K2, hg', hn'⟩ := rd_row (h2 i v hv).1
            rw [hg] at hg'; cases hg'
            rcases hn' with ⟨sz', cs', he, hn'⟩ | ⟨f', he, hn'⟩
            · cases he
            · cases he
              rw [Nat.zero_add] at hn'; exact hn'
        · exact eqCells_of vs (fun i v hv => (h2 i v hv).2)
      · cases hk
    | false =>
      rw [ha, cond_false] at hk
      have hload : ∀ KK v, CellB KK o v → ∀ m : Mem, m.get b = some KK → loadV E m t b o = some v := by
        intro KK v hv m hm
        unfold loadV
        rw [hi]
        simp only [ha, cond_false]
        unfold read1
        rw [hm]
        rcases hv with ⟨sz, cs, rfl, hv⟩ | ⟨f, rfl, hv⟩ <;> exact hv
      cases hn with
      | some gk =>
        obtain ⟨g, ks⟩ := gk
        simp only at hk
        unfold fnK at hk
        obtain ⟨cs0, h1, h2⟩ := bind_some' hk
        unfold asF at h1
        split at h1
        · rename_i g' first cap hrd
          obtain ⟨hc, h1⟩ := bif_t h1
          simp only [Bool.and_eq_true] at hc
          cases h1
          obtain ⟨vs, h3, h4, h5⟩ := castL_ok h2
          obtain ⟨KK, hg, hcb⟩ := rd_row hrd
          have e1 : g' = g := Nat.eq_of_beq_eq_true hc.1.1
          have e2 : first = #[] := Array.eq_empty_of_size_eq_zero (Nat.eq_of_beq_eq_true hc.1.2)
          have e3 : cap = vs.toArray := by
            apply Array.ext'
            apply List.ext_getElem?
            intro i
            have hcl : cap.toList.length = vs.length := by rw [h3]; simpa using Nat.eq_of_beq_eq_true hc.2
            cases hv : vs[i]? with
            | none => rw [List.getElem?_eq_none_iff] at hv ⊢; omega
            | some v =>
              have := (h4 i v hv).1
              rw [nth_eq, Nat.zero_add] at this
              exact this
          subst e1 e2 e3
          exact ⟨_, KK, hg, hcb.plain, hload KK _ hcb, h5, fun hx => by cases hx⟩
        · cases h1
      | none =>
        simp only at hk
        split at hk
        · rename_i k hkd
          obtain ⟨x, h1, h2, h3⟩ := castK_ok hk
          obtain ⟨KK, hg, hcb⟩ := rd_row h1
          exact ⟨x, KK, hg, hcb.plain, hload KK _ hcb, h2, fun _ => eqVal_cell h3⟩
        · cases hk

theorem direct_ok {ev : Operand → Value} {m : Mem} {o : Oper} (hd : direct o.op = true) : opEvalG E ev ⟨.nil, 0⟩ o = opEvalG E ev m o := by
  obtain ⟨dst, op, ty, pos, after, guard⟩ := o
  cases op with
  | makeMap t r => cases r <;> first | rfl | cases hd
  | binOp op a b c d => rfl
  | _ => first | rfl | cases hd
theorem ofAlloc_some {x : Option (Blk × (Nat → Value))} {k : Blk} {mk : Nat → Value} (h : OpR.ofAlloc x = .alloc k mk) : x = some (k, mk) := by
  cases x with
  | none => cases h
  | some y => obtain ⟨a, b⟩ := y; cases h; rfl
theorem ofVal_alloc {x : Option Value} {k : Blk} {mk : Nat → Value} : OpR.ofVal x ≠ .alloc k mk := by cases x <;> (intro h; cases h)
theorem alloc_plain {ev : Operand → Value} {m : Mem} {o : Oper} {k : Blk} {mk : Nat → Value} (h : opEvalG E ev m o = .alloc k mk) : Plain k := by
  obtain ⟨dst, op, ty, pos, after, guard⟩ := o
  unfold opEvalG at h
  cases op with
  | alloc e =>
    simp only at h
    repeat' split at h
    all_goals first | cases h; exact trivial | cases h
  | box e x =>
    simp only at h
    cases hc : okp (ev x) with
    | true => rw [hc, cond_true] at h; cases h; exact trivial
    | false => rw [hc, cond_false] at h; cases h
  | buildSlice t n parts =>
    have h := ofAlloc_some h
    unfold opBuildSlice at h
    split at h
    · obtain ⟨_, h⟩ := bif_t h
      split at h
      · cases h; exact trivial
      · cases h
    · cases h
  | makeMap t r =>
    cases r with
    | none => simp only at h; cases h; exact trivial
    | some r => simp only at h; cases h
  | makeSlice t l c =>
    have h := ofAlloc_some h
    unfold opMakeSlice at h
    split at h
    · obtain ⟨_, h⟩ := bif_t h
      cases h; exact trivial
    · cases h
  | move x => cases h
  | assign x => cases h
  | pick c a b => simp only at h; split at h <;> cases h
  | build t parts => exact absurd h ofVal_alloc
  | nilCheck x => simp only at h; split at h <;> cases h
  | binOp op t x y _ => exact absurd h ofVal_alloc
  | unOp op t x => exact absurd h ofVal_alloc
  | convert s d x => simp only at h; split at h <;> cases h
  | makeFunc fn f c => simp only at h; split at h <;> cases h
  | slice t x lo hi mx => exact absurd h ofVal_alloc
  | fieldAddr s x f => exact absurd h ofVal_alloc
  | field s x f => exact absurd h ofVal_alloc
  | indexAddr t x i => exact absurd h ofVal_alloc
  | extract x i =>
    simp only at h
    split at h
    · exact absurd h ofVal_alloc
    · cases h
  | load t a => simp only at h; cases hx : opLoad E m t (ev a) <;> (rw [hx] at h; cases h)
  | store t a x => simp only at h; cases hx : opStore E m t (ev a) (ev x) <;> (rw [hx] at h; cases h)
  | lookup t x k b => simp only at h; cases hx : opLookup E m t (ev x) (ev k) b <;> (rw [hx] at h; cases h)
  | mapUpdate t x k v => simp only at h; cases hx : opMapUpdate E m t (ev x) (ev k) (ev v) <;> (rw [hx] at h; cases h)
  | insert t x k v => simp only at h; cases hx : opMapUpdate E m t (ev x) (ev k) (ev v) <;> (rw [hx] at h; cases h)
  | call c =>
    simp only at h
    split at h
    · split at h
      · rename_i fn first cap _
        cases fn <;> (first | (simp only [opCall] at h; cases h))
      · cases h
    · unfold opBuiltin at h
      repeat' split at h
      all_goals first
        | cases h
        | (cases hx : opAppend E m c.argTypes.toList (c.args.toList.map ev) <;> (rw [hx] at h; cases h))
        | (cases hx : opCopy E m c.argTypes.toList (c.args.toList.map ev) <;> (rw [hx] at h; cases h))
        | (cases hx : opClear E m c.argTypes.toList (c.args.toList.map ev) <;> (rw [hx] at h; cases h))
        | (rename_i hx; cases hx; cases h)
    · cases h
  | _ => cases h
end
end Go.Proofs.Ytgikimegikelkaa.Ab
