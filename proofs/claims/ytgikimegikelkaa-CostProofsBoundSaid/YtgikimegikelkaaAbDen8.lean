/- The machine told by continuations: shapes, tables, functions. -/
import Derived.Test.YtgikimegikelkaaAbDen7
namespace Go.Proofs.Ytgikimegikelkaa.Ab
open Go Go.RowKit
set_option linter.unusedVariables false
set_option linter.unusedSimpArgs false
set_option linter.unusedSectionVars false

def TyC : Ck → Value → Prop
  | .int i, v => ∃ x, v = .int i x
  | .bool, v => ∃ b, v = .bool b
  | .ptr, v => ∃ b o, v = .pointer (some ⟨b, o, none⟩)
  | .slc, v => ∃ a n c, v = .slice a n c
  | .map, v => ∃ b, v = .map (some b)
def TyCL : List Ck → List Value → Prop
  | [], [] => True
  | k :: ks, v :: vs => TyC k v ∧ TyCL ks vs
  | _, _ => False
def TyS : Sh → Value → Prop
  | .cell k, v => TyC k v
  | .agg ks, v => ∃ vs, v = .agg (List.toArray vs) ∧ TyCL ks vs
  | .fn g ks, v => ∃ vs, v = .func (.func g) #[] (List.toArray vs) ∧ TyCL ks vs
  | .yld, v => ∃ l, v = .func (.yield l) #[] #[]
def TySL : List (Nat × Sh) → List Value → Prop
  | [], [] => True
  | x :: l, v :: vs => TyS x.2 v ∧ TySL l vs
  | _, _ => False
theorem TyC.ne {k : Ck} {v : Value} (h : TyC k v) : v ≠ .tuple #[] := by
  cases k with
  | int i => obtain ⟨x, rfl⟩ := h; intro h; cases h
  | bool => obtain ⟨x, rfl⟩ := h; intro h; cases h
  | ptr => obtain ⟨x, y, rfl⟩ := h; intro h; cases h
  | slc => obtain ⟨x, y, z, rfl⟩ := h; intro h; cases h
  | map => obtain ⟨x, rfl⟩ := h; intro h; cases h
theorem TyS.ne {s : Sh} {v : Value} (h : TyS s v) : v ≠ .tuple #[] := by
  cases s with
  | cell k => exact TyC.ne h
  | agg ks => obtain ⟨vs, rfl, _⟩ := h; intro h; cases h
  | fn g ks => obtain ⟨vs, rfl, _⟩ := h; intro h; cases h
  | yld => obtain ⟨l, rfl⟩ := h; intro h; cases h

section
variable {R : Type} {r : R}
theorem castK0_ty {k : Ck} {v : Option Value} {K : Value → Option R} (h : castK0 k v K = some r) : ∃ x, v = some x ∧ K x = some r ∧ TyC k x := by
  cases k with
  | int i =>
    obtain ⟨x, h1, h2⟩ := bind_some' h
    unfold asI at h1
    split at h1
    · obtain ⟨h3, h4⟩ := bif_t h1
      cases h4
      obtain rfl := sameKind_refl h3
      exact ⟨_, rfl, h2, _, rfl⟩
    · cases h1
  | bool =>
    obtain ⟨x, h1, h2⟩ := bind_some' h
    unfold asB at h1
    split at h1
    · cases h1; exact ⟨_, rfl, h2, _, rfl⟩
    · cases h1
  | ptr =>
    obtain ⟨x, h1, h2⟩ := bind_some' h
    unfold asP at h1
    split at h1
    · cases h1; exact ⟨_, rfl, h2, _, _, rfl⟩
    · cases h1
  | slc =>
    obtain ⟨x, h1, h2⟩ := bind_some' h
    unfold asS0 at h1
    split at h1
    · cases h1; exact ⟨_, rfl, h2, _, _, _, rfl⟩
    · cases h1
  | map =>
    obtain ⟨x, h1, h2⟩ := bind_some' h
    unfold asM at h1
    split at h1
    · cases h1; exact ⟨_, rfl, h2, _, rfl⟩
    · cases h1
theorem castL0_ty {f : Nat → Option Value} : ∀ {l : List Ck} {j : Nat} {K : List Value → Option R}, castL0 f l j K = some r → ∃ vs, vs.length = l.length ∧ (∀ i v, vs[i]? = some v → f (j + i) = some v) ∧ K vs = some r ∧ TyCL l vs
  | [], j, K, h => ⟨[], rfl, fun i v hv => by simp at hv, h, trivial⟩
  | k :: l, j, K, h => by
    change castK0 k (f j) (fun v => castL0 f l (j + 1) fun vs => K (v :: vs)) = some r at h
    obtain ⟨x, h1, h2, h3⟩ := castK0_ty h
    obtain ⟨vs, h4, h5, h6, h7⟩ := castL0_ty h2
    refine ⟨x :: vs, by simp [h4], fun i v hv => ?_, h6, h3, h7⟩
    cases i with
    | zero => simp at hv; subst hv; exact h1
    | succ i =>
      have := h5 i v (by simpa using hv)
      rw [show j + (i + 1) = j + 1 + i by omega]; exact this
theorem list_of_nth {l vs : List Value} (hl : l.length = vs.length) (h : ∀ i v, vs[i]? = some v → nth l i = some v) : l = vs := by
  apply List.ext_getElem?
  intro i
  cases hv : vs[i]? with
  | none => rw [List.getElem?_eq_none_iff] at hv ⊢; omega
  | some v => have := h i v hv; rw [nth_eq] at this; exact this
theorem castS_ok {s : Sh} {v : Option Value} {K : Value → Option R} (h : castS s v K = some r) : ∃ x, v = some x ∧ K x = some r ∧ TyS s x := by
  cases s with
  | cell k => exact castK0_ty h
  | agg ks =>
    obtain ⟨cs, h1, h2⟩ := bind_some' h
    unfold asA at h1
    split at h1
    · rename_i a
      obtain ⟨h3, h4⟩ := bif_t h1
      cases h4
      obtain ⟨vs, q1, q2, q3, q4⟩ := castL0_ty h2
      have e : a.toList = vs := list_of_nth (by rw [q1]; simpa using Nat.eq_of_beq_eq_true h3) (fun i v hv => by have := q2 i v hv; rwa [Nat.zero_add] at this)
      have e' : a = vs.toArray := by rw [← e]
      subst e'
      exact ⟨_, rfl, q3, _, rfl, q4⟩
    · cases h1
  | fn g ks =>
    obtain ⟨cs, h1, h2⟩ := bind_some' h
    unfold asF at h1
    split at h1
    · rename_i g' first cap
      obtain ⟨h3, h4⟩ := bif_t h1
      simp only [Bool.and_eq_true] at h3
      cases h4
      obtain ⟨vs, q1, q2, q3, q4⟩ := castL0_ty h2
      have e : cap.toList = vs := list_of_nth (by rw [q1]; simpa using Nat.eq_of_beq_eq_true h3.2) (fun i v hv => by have := q2 i v hv; rwa [Nat.zero_add] at this)
      have e' : cap = vs.toArray := by rw [← e]
      have e1 : g' = g := Nat.eq_of_beq_eq_true h3.1.1
      have e2 : first = #[] := Array.eq_empty_of_size_eq_zero (Nat.eq_of_beq_eq_true h3.1.2)
      subst e' e1 e2
      exact ⟨_, rfl, q3, _, rfl, q4⟩
    · cases h1
  | yld =>
    obtain ⟨l, h1, h2⟩ := bind_some' h
    unfold asY at h1
    split at h1
    · rename_i l' first cap
      obtain ⟨h3, h4⟩ := bif_t h1
      rw [Bool.and_eq_true] at h3
      cases h4
      have e1 : first = #[] := Array.eq_empty_of_size_eq_zero (Nat.eq_of_beq_eq_true h3.1)
      have e2 : cap = #[] := Array.eq_empty_of_size_eq_zero (Nat.eq_of_beq_eq_true h3.2)
      subst e1 e2
      exact ⟨_, rfl, h2, _, rfl⟩
    · cases h1
theorem castSL_ok {f : Nat → Option Value} : ∀ {l : List Sh} {j : Nat} {K : List Value → Option R}, castSL f l j K = some r → ∃ vs, vs.length = l.length ∧ (∀ i v, vs[i]? = some v → f (j + i) = some v) ∧ K vs = some r
  | [], j, K, h => ⟨[], rfl, fun i v hv => by simp at hv, h⟩
  | s :: l, j, K, h => by
    change castS s (f j) (fun v => castSL f l (j + 1) fun vs => K (v :: vs)) = some r at h
    obtain ⟨x, h1, h2, _⟩ := castS_ok h
    obtain ⟨vs, h4, h5, h6⟩ := castSL_ok h2
    refine ⟨x :: vs, by simp [h4], fun i v hv => ?_, h6⟩
    cases i with
    | zero => simp at hv; subst hv; exact h1
    | succ i =>
      have := h5 i v (by simpa using hv)
      rw [show j + (i + 1) = j + 1 + i by omega]; exact this
theorem asTup_ok {n : Nat} {v : Value} {cs : List Value} (h : asTup n v = some cs) : ∃ a, v = .tuple a ∧ a.toList = cs ∧ cs.length = n := by
  unfold asTup at h
  split at h
  · rename_i a
    obtain ⟨h1, h2⟩ := bif_t h
    cases h2
    exact ⟨a, rfl, rfl, by simpa using Nat.eq_of_beq_eq_true h1⟩
  · cases h
theorem castR_ok {l : List Sh} {v : Value} {K : Value → Option R} (h : castR l v K = some r) : K v = some r := by
  unfold castR at h
  split at h
  · obtain ⟨cs, h1, h2⟩ := bind_some' h
    obtain ⟨a, rfl, h3, h4⟩ := asTup_ok h1
    have : a = #[] := by apply Array.eq_empty_of_size_eq_zero; rw [← Array.length_toList, h3]; exact h4
    subst this
    exact h2
  · obtain ⟨x, h1, h2, _⟩ := castS_ok h
    cases h1; exact h2
  · rename_i l' _ _
    obtain ⟨cs, h1, h2⟩ := bind_some' h
    obtain ⟨a, rfl, h3, h4⟩ := asTup_ok h1
    obtain ⟨vs, q1, q2, q3⟩ := castSL_ok h2
    have e : cs = vs := list_of_nth (by omega) (fun i v hv => by have := q2 i v hv; rwa [Nat.zero_add] at this)
    have e' : a = vs.toArray := by rw [← e, ← h3]
    subst e'
    exact q3
theorem castTS_ok {T : TS} (hT : T.OK) : ∀ {l : List (Nat × Sh)} {K : List Value → Option R}, (∀ x ∈ l, x.1 ≤ 65535) → castTS T l K = some r → ∃ vs, TySL l vs ∧ K vs = some r ∧ (⟨ovl l vs, T.tr, T.marks⟩ : TS).tr = T.tr ∧ TS.OK ⟨ovl l vs, T.tr, T.marks⟩
  | [], K, _, h => ⟨[], trivial, h, rfl, fun p hp => by cases hp⟩
  | x :: l, K, hl, h => by
    change castS x.2 (some (T.get x.1)) (fun v => castTS T l fun vs => K (v :: vs)) = some r at h
    obtain ⟨v, h1, h2, h3⟩ := castS_ok h
    obtain ⟨vs, h4, h5, h6, h7⟩ := castTS_ok hT (fun y hy => hl y (List.mem_cons_of_mem _ hy)) h2
    have hv : T.get x.1 = v := by cases h1; rfl
    have hx := hl x (List.mem_cons_self ..)
    have h8 : ((⟨ovl l vs, T.tr, T.marks⟩ : TS).put x.1 v).tr = T.tr := by
      rw [TS.tr_put, h6]
      exact TS.set_self hT hx hv h3.ne
    exact ⟨v :: vs, ⟨h3, h4⟩, h5, h8, TS.OK.put (T := ⟨ovl l vs, T.tr, T.marks⟩) h7 hx v⟩
end

/-- A function's text is sound. -/
def SndF (E : Env) (H : Pl → Prop) (g : Nat) (fv : List Value → Hp → Option (Value × Hp)) : Prop := ∀ args h v h1, fv args h = some (v, h1) → RunsH E H (.fn g) args h v h1
/-- A function that yields. -/
def SndI (E : Env) (g : Nat) (fv : Nat → (List Value → Hp → Option (Bool × Hp)) → List Value → Hp → Option (Value × Hp)) : Prop :=
  ∀ H, MonoH H → ∀ l Y (p : Pay), (∀ a h b h1, Y a h = some (b, h1) → RunsH E (fun pl => H pl ∧ pl l = some p) (.yield l) a h (.bool b) h1) → SndF E (fun pl => H pl ∧ pl l = some p) g (fv l Y)
theorem SndF.call {R : Type} {E : Env} {H : Pl → Prop} {g : Nat} {fv : List Value → Hp → Option (Value × Hp)} (hf : SndF E H g fv) {sh : List Sh} {args : List Value} {h : Hp} {K : Value → Hp → Option R} {r : R} (hk : call1 sh (fv args h) K = some r) :
    ∃ v h1, K v h1 = some r ∧ RunsH E H (.fn g) args h v h1 := by
  obtain ⟨p, h1, h2⟩ := bind_some' hk
  exact ⟨p.1, p.2, castR_ok h2, hf args h p.1 p.2 h1⟩
theorem ckN_some {R : Type} {a b : Nat} {x : Option R} {r : R} (h : ckN a b x = some r) : a = b ∧ x = some r := by
  unfold ckN at h
  split at h
  · exact ⟨‹_›, h⟩
  · cases h
theorem ty_nil {P : Prop} {vs : List Value} (h : TySL [] vs) (k : vs = [] → P) : P := by
  cases vs with
  | nil => exact k rfl
  | cons v vs => exact h.elim

theorem TySL_cons {x : Nat × Sh} {l : List (Nat × Sh)} {vs : List Value} (h : TySL (x :: l) vs) : ∃ v vs', vs = v :: vs' ∧ TyS x.2 v ∧ TySL l vs' := by
  cases vs with
  | nil => exact h.elim
  | cons v vs => exact ⟨v, vs, rfl, h.1, h.2⟩
theorem TySL_nil {vs : List Value} (h : TySL [] vs) : vs = [] := by
  cases vs with
  | nil => rfl
  | cons v vs => exact h.elim
theorem TyCL_cons {x : Ck} {l : List Ck} {vs : List Value} (h : TyCL (x :: l) vs) : ∃ v vs', vs = v :: vs' ∧ TyC x v ∧ TyCL l vs' := by
  cases vs with
  | nil => exact h.elim
  | cons v vs => exact ⟨v, vs, rfl, h.1, h.2⟩
theorem TyCL_nil {vs : List Value} (h : TyCL [] vs) : vs = [] := by
  cases vs with
  | nil => rfl
  | cons v vs => exact h.elim
def TyAL : List Sh → List Value → Prop
  | [], [] => True
  | s :: l, v :: vs => TyS s v ∧ TyAL l vs
  | _, _ => False
theorem TyAL_cons {x : Sh} {l : List Sh} {vs : List Value} (h : TyAL (x :: l) vs) : ∃ v vs', vs = v :: vs' ∧ TyS x v ∧ TyAL l vs' := by
  cases vs with
  | nil => exact h.elim
  | cons v vs => exact ⟨v, vs, rfl, h.1, h.2⟩
theorem TyAL_nil {vs : List Value} (h : TyAL [] vs) : vs = [] := by
  cases vs with
  | nil => rfl
  | cons v vs => exact h.elim
theorem castAL_ok {R : Type} {r : R} : ∀ {l : List Sh} {vs : List Value} {K : List Value → Option R}, castAL l vs K = some r → TyAL l vs ∧ K vs = some r
  | [], [], K, h => ⟨trivial, h⟩
  | [], _ :: _, K, h => by cases h
  | s :: l, [], K, h => by cases h
  | s :: l, v :: vs, K, h => by
    change castS s (some v) (fun v => castAL l vs fun vs => K (v :: vs)) = some r at h
    obtain ⟨x, h1, h2, h3⟩ := castS_ok h
    cases h1
    obtain ⟨h4, h5⟩ := castAL_ok h2
    exact ⟨⟨h3, h4⟩, h5⟩
theorem castTS_ty {R : Type} {r : R} {T : TS} : ∀ {l : List (Nat × Sh)} {K : List Value → Option R}, castTS T l K = some r → ∃ vs, TySL l vs ∧ K vs = some r
  | [], K, h => ⟨[], trivial, h⟩
  | x :: l, K, h => by
    change castS x.2 (some (T.get x.1)) (fun v => castTS T l fun vs => K (v :: vs)) = some r at h
    obtain ⟨v, h1, h2, h3⟩ := castS_ok h
    obtain ⟨vs, h4, h5⟩ := castTS_ty h2
    exact ⟨v :: vs, ⟨h3, h4⟩, h5⟩

noncomputable def denYAt (C : Ctx (Bool × Hp)) (todo : List LoopAt) (i : Nat) (T : TS) (l : Nat) (args : List Value) (h : Hp) : Option (Bool × Hp) :=
  match nth todo i with
  | some (.range ps a b) => denY C ps.toList a b T l args h
  | _ => none
noncomputable def rangeOK (todo : List LoopAt) (i : Nat) : Bool :=
  match nth todo i with
  | some (.range _ a b) => Nat.beq (nl a) 0 && Nat.beq (nl b) 0
  | _ => false
abbrev TblTy (R : Type) := Nat → CallTo → List Value → Hp → (Value → Hp → Option R) → Option R
abbrev ItTy (R : Type) := Nat → Nat → Nat → List Value → (List Value → Hp → Option (Bool × Hp)) → Hp → (Value → Hp → Option R) → Option R
noncomputable abbrev ctxY (E : Env) (N : Nat) (hint : Nat → Option (Nat × List Ck)) (tbl : TblTy (Bool × Hp)) (k : Nat) : Ctx (Bool × Hp) := ⟨E, N, hint, tbl k, fun _ _ _ _ _ _ => none, fun _ _ _ => none, fun _ _ _ _ _ => none⟩
noncomputable def smallL (l : List (Nat × Sh)) : Bool := List.rec (motive := fun _ => Bool) true (fun x _ r => Nat.ble x.1 65535 && r) l
theorem smallL_ok : ∀ {l : List (Nat × Sh)}, smallL l = true → ∀ x ∈ l, x.1 ≤ 65535
  | [], _, x, hx => by cases hx
  | y :: l, h, x, hx => by
    change (Nat.ble y.1 65535 && smallL l) = true at h
    rw [Bool.and_eq_true] at h
    cases hx with
    | head => exact Nat.le_of_ble_eq_true h.1
    | tail _ hx => exact smallL_ok h.2 x hx
/-- What is asked of each loop. -/
def LOK (C : Nat → Ctx (Value × Hp)) (CY : Nat → Ctx (Bool × Hp)) (F : Func) (todo : List LoopAt) (i : Nat) : LEnt → Prop
  | .lp shs w => smallL shs = true ∧ (∀ vs mk h, TySL shs vs → w 0 vs mk h = none) ∧ ∀ k vs mk h r, TySL shs vs → w (k + 1) vs mk h = some r → ∀ G, loopF' (C k) F pairK i ⟨ovl shs vs, G, mk⟩ h = some r
  | .yo shs y => smallL shs = true ∧ rangeOK todo i = true ∧ ∀ k vs l args h r, TySL shs vs → y k vs l args h = some r → ∀ G mk, denYAt (CY k) todo i ⟨ovl shs vs, G, mk⟩ l args h = some r

theorem fn_ok' {E : Env} {N g : Nat} {F : Func} {hint : Nat → Option (Nat × List Ck)} {H : Pl → Prop}
    {tbl : TblTy (Value × Hp)} {tblY : TblTy (Bool × Hp)} {itK : ItTy (Value × Hp)} {L : List LEnt}
    (hsn : E.sane g = false) (hg : E.fn g = some F) {body : Code} (hb : F.body = some body) (hH : MonoH H) (htbl : ∀ k, TblOK E H (tbl k)) (htblY : ∀ l p k, TblOK E (fun pl => H pl ∧ pl l = some p) (tblY k)) (hit : ∀ k, ItOK (ctx E N hint tbl itK (LPof L) (YOof L) k) H)
    (hL : ∀ i x, L[i]? = some x → LOK (ctx E N hint tbl itK (LPof L) (YOof L)) (ctxY E N hint tblY) F (todoC body []) i x)
    (k : Nat) {args : List Value} (hn : Nat.max args.length F.ntmps = N) {h h1 : Hp} {v : Value} (hk : denF (ctx E N hint tbl itK (LPof L) (YOof L) k) F args h pairK = some (v, h1)) : RunsH E H (.fn g) args h v h1 := by
  refine fn_ok hsn hg hb hH htbl hit ?_ ?_ ?_ k hn hk
  · intro k i ps a b hi T l args h c h1 d hT hy
    change YOof L k i T l args h = some (c, h1) at hy
    unfold YOof at hy
    rw [nth_eq] at hy
    cases hx : L[i]? with
    | none => rw [hx] at hy; cases hy
    | some x =>
      rw [hx] at hy
      cases x with
      | lp shs w => cases hy
      | yo shs y =>
        obtain ⟨q1, q2, q3⟩ := hL i _ hx
        obtain ⟨vs, p1, p2, p3, p4⟩ := castTS_ok hT (smallL_ok q1) hy
        have e := q3 k vs l args h (c, h1) p1 p2 T.tr T.marks
        unfold denYAt at e
        unfold rangeOK at q2
        rw [nth_eq, hi] at e q2
        simp only at e q2
        rw [Bool.and_eq_true] at q2
        have := round_ok (C := ctxY E N hint tblY k) (H := H) (fn := g) (d := d) hH (Nat.eq_of_beq_eq_true q2.1) (Nat.eq_of_beq_eq_true q2.2) p4 (htblY _ _ _) (fun _ _ _ _ _ _ _ hc => by cases hc) e
        rw [p3] at this
        exact this
  · intro i T h
    cases hv : LPof L 0 i T h with
    | none => rfl
    | some r =>
      exfalso
      unfold LPof at hv
      rw [nth_eq] at hv
      cases hx : L[i]? with
      | none => rw [hx] at hv; cases hv
      | some x =>
        rw [hx] at hv
        cases x with
        | yo shs y => cases hv
        | lp shs w =>
          obtain ⟨q1, q2, q3⟩ := hL i _ hx
          obtain ⟨vs, p1, p2⟩ := castTS_ty hv
          rw [q2 vs T.marks h p1] at p2; cases p2
  · intro k i T h r hT hv
    unfold LPof at hv
    rw [nth_eq] at hv
    cases hx : L[i]? with
    | none => rw [hx] at hv; cases hv
    | some x =>
      rw [hx] at hv
      cases x with
      | yo shs y => cases hv
      | lp shs w =>
        obtain ⟨q1, q2, q3⟩ := hL i _ hx
        obtain ⟨vs, p1, p2, p3, p4⟩ := castTS_ok hT (smallL_ok q1) hv
        exact ⟨⟨ovl shs vs, T.tr, T.marks⟩, p3, p4, rfl, q3 k vs T.marks h r p1 p2 _⟩
theorem all_of {P : Nat → LEnt → Prop} : ∀ (L : List LEnt) (j : Nat), (∀ n x, L[n]? = some x → P (j + n) x) → ∀ n x, L[n]? = some x → P (j + n) x := fun L j h => h
theorem LOK_nil {P : Nat → LEnt → Prop} : ∀ (i : Nat) x, ([] : List LEnt)[i]? = some x → P i x := fun i x h => by simp at h
theorem LOK_cons {P : Nat → LEnt → Prop} {y : LEnt} {L : List LEnt} (h0 : P 0 y) (h : ∀ (i : Nat) x, L[i]? = some x → P (i + 1) x) : ∀ (i : Nat) x, (y :: L)[i]? = some x → P i x := by
  intro i x hx
  cases i with
  | zero => simp at hx; subst hx; exact h0
  | succ i => exact h i x (by simpa using hx)
noncomputable def noTbl {R : Type} : TblTy R := fun _ _ _ _ _ => none
noncomputable def noIt {R : Type} : ItTy R := fun _ _ _ _ _ _ _ => none
theorem noTbl_ok {R : Type} {E : Env} {H : Pl → Prop} (k : Nat) : TblOK E H (noTbl (R := R) k) := fun _ _ _ _ _ h => by cases h
noncomputable def addF {R : Type} (g : Nat) (sh : List Sh) (fv : Nat → List Value → Hp → Option (Value × Hp)) (t : TblTy R) : TblTy R :=
  fun k c args h K => match c with
    | .fn g' => bc (Nat.beq g' g) (call1 sh (fv k args h) K) (t k (.fn g') args h K)
    | .yield l => t k (.yield l) args h K
theorem addF_ok {R : Type} {E : Env} {H : Pl → Prop} {g : Nat} {sh : List Sh} {fv : Nat → List Value → Hp → Option (Value × Hp)} {t : TblTy R} {k : Nat} (hf : SndF E H g (fv k)) (ht : TblOK E H (t k)) : TblOK E H (addF g sh fv t k) := by
  intro c args h K r hk
  cases c with
  | yield l => exact ht _ _ _ _ _ hk
  | fn g' =>
    change bc (Nat.beq g' g) (call1 sh (fv k args h) K) (t k (.fn g') args h K) = some r at hk
    cases hc : Nat.beq g' g with
    | false => rw [hc, bc_false] at hk; exact ht _ _ _ _ _ hk
    | true =>
      rw [hc, bc_true] at hk
      have := Nat.eq_of_beq_eq_true hc
      subst this
      exact hf.call hk
/-- The table of a function that yields. -/
noncomputable def addY {R : Type} (l : Nat) (Y : List Value → Hp → Option (Bool × Hp)) (t : TblTy R) : TblTy R :=
  fun k c args h K => match c with
    | .fn g' => t k (.fn g') args h K
    | .yield l' => callY l l' (Y args h) K
theorem addY_ok {R : Type} {E : Env} {H : Pl → Prop} {l : Nat} {Y : List Value → Hp → Option (Bool × Hp)} {t : TblTy R} {k : Nat} (hY : ∀ a h b h1, Y a h = some (b, h1) → RunsH E H (.yield l) a h (.bool b) h1) (ht : TblOK E H (t k)) : TblOK E H (addY l Y t k) := by
  intro c args h K r hk
  cases c with
  | fn g' => exact ht _ _ _ _ _ hk
  | yield l' =>
    change ckN l' l ((Y args h).bind fun p => K (.bool p.1) p.2) = some r at hk
    obtain ⟨e, hk2⟩ := ckN_some hk
    subst e
    obtain ⟨p, h1, h2⟩ := bind_some' hk2
    exact ⟨_, _, h2, hY args h p.1 p.2 h1⟩
noncomputable def addI {R : Type} (g : Nat) (sh : List Sh) (fv : Nat → Nat → (List Value → Hp → Option (Bool × Hp)) → List Value → Hp → Option (Value × Hp)) (t : ItTy R) : ItTy R :=
  fun k g' l args Y h K => bc (Nat.beq g' g) (call1 sh (fv k l Y args h) K) (t k g' l args Y h K)
theorem noIt_ok {E : Env} {N : Nat} {hint : Nat → Option (Nat × List Ck)} {H : Pl → Prop} {tbl : TblTy (Value × Hp)} {LP : Nat → Nat → TS → Hp → Option (Value × Hp)} {YO : Nat → Nat → TS → Nat → List Value → Hp → Option (Bool × Hp)} (k : Nat) : ItOK (ctx E N hint tbl noIt LP YO k) H :=
  fun _ _ _ _ _ _ _ h => by cases h
theorem addI_ok {E : Env} {N : Nat} {hint : Nat → Option (Nat × List Ck)} {H : Pl → Prop} (hH : MonoH H) {tbl : TblTy (Value × Hp)} {LP : Nat → Nat → TS → Hp → Option (Value × Hp)} {YO : Nat → Nat → TS → Nat → List Value → Hp → Option (Bool × Hp)} {k g : Nat} {sh : List Sh}
    {fv : Nat → Nat → (List Value → Hp → Option (Bool × Hp)) → List Value → Hp → Option (Value × Hp)} {t : ItTy (Value × Hp)} (hf : SndI E g (fv k)) (ht : ItOK (ctx E N hint tbl t LP YO k) H) : ItOK (ctx E N hint tbl (addI g sh fv t) LP YO k) H := by
  intro g' l args Y h K r hk p hY
  change bc (Nat.beq g' g) (call1 sh (fv k l Y args h) K) (t k g' l args Y h K) = some r at hk
  cases hc : Nat.beq g' g with
  | false => rw [hc, bc_false] at hk; exact ht _ _ _ _ _ _ _ hk p hY
  | true =>
    rw [hc, bc_true] at hk
    have := Nat.eq_of_beq_eq_true hc
    subst this
    exact SndF.call (hf H hH l Y p hY) hk
theorem MonoH.pay {H : Pl → Prop} (hH : MonoH H) (l : Nat) (p : Pay) : MonoH (fun pl => H pl ∧ pl l = some p) := fun a b hs h => ⟨hH a b hs h.1, hs _ _ h.2⟩
/-- The table's row of a function that is known to return true. -/
noncomputable def addO {R : Type} (g : Nat) (t : TblTy R) : TblTy R :=
  fun k c args h K => match c with
    | .fn g' => bc (Nat.beq g' g && args.isEmpty) (K (.bool true) h) (t k (.fn g') args h K)
    | .yield l => t k (.yield l) args h K
theorem addO_ok {R : Type} {E : Env} {H : Pl → Prop} {g : Nat} {t : TblTy R} {k : Nat} (hg : E.sane g = true) (ht : TblOK E H (t k)) : TblOK E H (addO g t k) := by
  intro c args h K r hk
  cases c with
  | yield l => exact ht _ _ _ _ _ hk
  | fn g' =>
    change bc (Nat.beq g' g && args.isEmpty) (K (.bool true) h) (t k (.fn g') args h K) = some r at hk
    cases hc : (Nat.beq g' g && args.isEmpty) with
    | false => rw [hc, bc_false] at hk; exact ht _ _ _ _ _ hk
    | true =>
      rw [hc, bc_true] at hk
      rw [Bool.and_eq_true] at hc
      have := Nat.eq_of_beq_eq_true hc.1
      subst this
      have := List.isEmpty_iff.1 hc.2
      subst this
      refine ⟨_, _, hk, fun pl m hp hF => ⟨1, m, pl, PSub.refl _, ?_, hF⟩⟩
      unfold aRun
      rw [hg]; rfl
end Go.Proofs.Ytgikimegikelkaa.Ab
