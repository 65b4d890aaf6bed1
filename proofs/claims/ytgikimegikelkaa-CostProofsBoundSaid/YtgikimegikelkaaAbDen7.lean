/- The machine told by continuations: calls, rounds of loops over functions. -/
import Derived.Test.YtgikimegikelkaaAbDen6
namespace Go.Proofs.Ytgikimegikelkaa.Ab
open Go Go.RowKit
set_option linter.unusedVariables false
set_option linter.unusedSimpArgs false
set_option linter.unusedSectionVars false

theorem takeM_ok {pl : Pl} : ∀ (l : List Nat) (h h1 : Hp) (m : Mem), Fill pl h m → takeM h l = some h1 → ∃ m1, takeMarks l m = some m1 ∧ Fill pl h1 m1
  | [], h, h1, m, hF, hk => by cases hk; exact ⟨m, rfl, hF⟩
  | b :: l, h, h1, m, hF, hk => by
    change (match h.g b with | some .defs => takeM (h.set b .dead) l | _ => none) = some h1 at hk
    split at hk
    · rename_i hb
      obtain ⟨m1, e1, e2⟩ := takeM_ok l _ h1 _ (hF.set b (K := .dead) trivial) hk
      exact ⟨m1, by unfold takeMarks; rw [hF.plain hb trivial]; exact e1, e2⟩
    · cases hk
theorem resK_ok {R : Type} {E : Env} {T : TS} {h : Hp} {m : Mem} {pl : Pl} (hT : T.OK) (hF : Fill pl h m) {r : R} : ∀ (l : List ResultVar) (K : List Value → Option R), resK E T h l K = some r → ∃ vs, resL E T.tr m l = some vs ∧ K vs = some r
  | [], K, hk => ⟨[], rfl, hk⟩
  | x :: l, K, hk => by
    cases x with
    | tmp t =>
      change resK E T h l (fun vs => K (T.get t :: vs)) = some r at hk
      obtain ⟨vs, e1, e2⟩ := resK_ok hT hF l _ hk
      refine ⟨T.get t :: vs, ?_, e2⟩
      unfold resL resV
      simp only [TS.get_tr hT, e1]
    | cell a t =>
      change (match T.get a with | .pointer (some ⟨b, o, none⟩) => loadK E none h t b o fun v => resK E T h l fun vs => K (v :: vs) | _ => none) = some r at hk
      split at hk
      · rename_i b o ha
        obtain ⟨v, KK, h1, hp, h2, h3, _⟩ := loadK_ok hk
        obtain ⟨vs, e1, e2⟩ := resK_ok hT hF l _ h3
        refine ⟨v :: vs, ?_, e2⟩
        have hg : T.tr.get a = some (.pointer (some ⟨b, o, none⟩)) := by
          have := TS.get_tr hT a
          rw [ha] at this
          cases hx : T.tr.get a with
          | none => rw [hx] at this; cases this
          | some y => rw [hx] at this; exact congrArg some this
        unfold resL resV
        simp only [hg, h2 m (hF.plain h1 hp), e1]
      · cases hk
theorem argsO_tr (G : Tr Value) (mk : List Nat) : ∀ (l : List Value) (i : Nat) (ov : List (Nat × Value)), (⟨argsO l i ov, G, mk⟩ : TS).tr = argsT l i (⟨ov, G, mk⟩ : TS).tr
  | [], i, ov => rfl
  | v :: l, i, ov => by
    show (⟨argsO l (i + 1) ((i, v) :: ov), G, mk⟩ : TS).tr = _
    rw [argsO_tr G mk l (i + 1)]; rfl
theorem argsO_ok (n : Nat) : ∀ (l : List Value) (i : Nat) (ov : List (Nat × Value)), i + l.length ≤ n → (∀ p ∈ ov, p.1 ≤ n) → ∀ p ∈ argsO l i ov, p.1 ≤ n
  | [], i, ov, _, h => h
  | v :: l, i, ov, hl, h => argsO_ok n l (i + 1) ((i, v) :: ov) (by simp only [List.length_cons] at hl; omega) (fun p hp => by
      rcases List.mem_cons.1 hp with rfl | hp
      · simp only [List.length_cons] at hl; show i ≤ n; omega
      · exact h p hp)

/-- What a function's frame leaves with. -/
def FnQ (E : Env) (F : Func) (pl : Pl) (_ : Option Code) (T : Tr Value) (marks : List Nat) (m : Mem) (r : Value × Hp) : Prop :=
  ∃ m1 vs h1, takeMarks marks m = some m1 ∧ resL E T m1 F.results.toList = some vs ∧ Fill pl h1 m1 ∧ r = (oneOf vs, h1)
noncomputable abbrev pairK : Value → Hp → Option (Value × Hp) := fun v h => some (v, h)

section
variable {E : Env} {N g : Nat} {F : Func} {hint : Nat → Option (Nat × List Ck)} {H : Pl → Prop}
theorem ret_ok {C : Ctx (Value × Hp)} {T : TS} {h : Hp} {m : Mem} {pl : Pl} {r : Value × Hp} (hT : T.OK) (hF : Fill pl h m) (hk : retK C.E F.results.toList pairK T h = some r) (j : Option Code) : FnQ C.E F pl j T.tr T.marks m r := by
  unfold retK at hk
  obtain ⟨h1, e1, hk⟩ := bind_some' hk
  obtain ⟨m1, e2, e3⟩ := takeM_ok _ _ _ _ hF e1
  obtain ⟨vs, e4, e5⟩ := resK_ok hT e3 _ _ hk
  cases e5
  exact ⟨m1, vs, h1, e2, e4, e3, rfl⟩
theorem ks_end {C : Ctx (Value × Hp)} : KS C g none (FnQ C.E F) H [] (retK C.E F.results.toList pairK) := by
  intro pl T h m r hpl hT hF hk
  exact Reach.leave (n0 := 0) (j := none) (s1 := ⟨T.tr, [], T.marks, m⟩) rfl (PSub.refl _) (ret_ok hT hF hk none)
theorem xs_end {C : Ctx (Value × Hp)} : XS C g none (FnQ C.E F) H [] (retX C.E F.results.toList pairK) := by
  intro j hj
  cases j with
  | ret =>
    intro pl T h m r hpl hT hF hk
    exact Reach.leave (n0 := 0) (j := some .ret) (s1 := ⟨T.tr, [.code .ret], T.marks, m⟩) rfl (PSub.refl _) (ret_ok hT hF hk _)
  | exit id => intro pl T h m r hpl hT hF hk; cases hk
  | goto l => intro pl T h m r hpl hT hF hk; cases hk
  | _ => exact hj.elim

variable {tbl : Nat → CallTo → List Value → Hp → (Value → Hp → Option (Value × Hp)) → Option (Value × Hp)}
variable {itK : Nat → Nat → Nat → List Value → (List Value → Hp → Option (Bool × Hp)) → Hp → (Value → Hp → Option (Value × Hp)) → Option (Value × Hp)}
variable {LP : Nat → Nat → TS → Hp → Option (Value × Hp)}
variable {YO : Nat → Nat → TS → Nat → List Value → Hp → Option (Bool × Hp)}
/-- The frames of a function, by rounds. -/
noncomputable abbrev ctx (E : Env) (N : Nat) (hint : Nat → Option (Nat × List Ck)) (tbl : Nat → CallTo → List Value → Hp → (Value → Hp → Option (Value × Hp)) → Option (Value × Hp))
    (itK : Nat → Nat → Nat → List Value → (List Value → Hp → Option (Bool × Hp)) → Hp → (Value → Hp → Option (Value × Hp)) → Option (Value × Hp))
    (LP : Nat → Nat → TS → Hp → Option (Value × Hp)) (YO : Nat → Nat → TS → Nat → List Value → Hp → Option (Bool × Hp)) (k : Nat) : Ctx (Value × Hp) := ⟨E, N, hint, tbl k, itK k, LP k, YO k⟩

theorem fn_ok (hsn : E.sane g = false) (hg : E.fn g = some F) {body : Code} (hb : F.body = some body) (hH : MonoH H) (htbl : ∀ k, TblOK E H (tbl k)) (hit : ∀ k, ItOK (ctx E N hint tbl itK LP YO k) H)
    (hys : ∀ k i ps a b, (todoC body [])[i]? = some (.range ps a b) → YS (ctx E N hint tbl itK LP YO k) g H i ps a b)
    (h0 : ∀ i T h, LP 0 i T h = none)
    (hs : ∀ k i T h r, TS.OK T → LP (k + 1) i T h = some r → ∃ T' : TS, T'.tr = T.tr ∧ T'.OK ∧ T'.marks = T.marks ∧ loopF' (ctx E N hint tbl itK LP YO k) F pairK i T' h = some r)
    (k : Nat) {args : List Value} (hn : Nat.max args.length F.ntmps = N) {h h1 : Hp} {v : Value} (hk : denF (ctx E N hint tbl itK LP YO k) F args h pairK = some (v, h1)) : RunsH E H (.fn g) args h v h1 := by
  have hloops : ∀ k, LS (ctx E N hint tbl itK LP YO k) g none (FnQ E F) H 0 (todoC body []) := by
    intro k
    induction k with
    | zero =>
      intro n x hx
      cases x with
      | range ps a b => rw [Nat.zero_add]; exact hys 0 n ps a b hx
      | label b k' =>
        intro p hp pl T h m r hpl hT hF hk
        rw [show (ctx E N hint tbl itK LP YO 0).LP (0 + n) T h = none from h0 _ _ _] at hk; cases hk
      | loop b k' =>
        intro pl T h m r hpl hT hF hk
        rw [show (ctx E N hint tbl itK LP YO 0).LP (0 + n) T h = none from h0 _ _ _] at hk; cases hk
    | succ k ih =>
      intro n x hx
      cases x with
      | range ps a b => rw [Nat.zero_add]; exact hys (k + 1) n ps a b hx
      | label b k' =>
        intro p hp pl T h m r hpl hT hF hk
        rw [Nat.zero_add] at hk
        obtain ⟨T', e1, e2, e3, e4⟩ := hs k n T h r hT hk
        unfold loopF' at e4
        rw [hb] at e4
        simp only at e4
        rw [nth_eq] at e4
        cases hB : (loopsC (ctx E N hint tbl itK LP YO k) body 0 (retK E F.results.toList pairK) (retX E F.results.toList pairK))[n]? with
        | none => rw [hB] at e4; cases e4
        | some B =>
          rw [hB] at e4
          have := loopsC_ok (C := ctx E N hint tbl itK LP YO k) (fn := g) (round := none) (Q := FnQ E F) hH (htbl k) (hit k) rfl body 0 [] (retK E F.results.toList pairK) (retX E F.results.toList pairK) ih ks_end xs_end n B _ hB hx p hp pl T' h m r hpl e2 hF e4
          rw [e1, e3] at this
          obtain ⟨n', j, s', pl1, q⟩ := this
          exact ⟨n', j, s', pl1, q⟩
      | loop b k' =>
        intro pl T h m r hpl hT hF hk
        rw [Nat.zero_add] at hk
        obtain ⟨T', e1, e2, e3, e4⟩ := hs k n T h r hT hk
        unfold loopF' at e4
        rw [hb] at e4
        simp only at e4
        rw [nth_eq] at e4
        cases hB : (loopsC (ctx E N hint tbl itK LP YO k) body 0 (retK E F.results.toList pairK) (retX E F.results.toList pairK))[n]? with
        | none => rw [hB] at e4; cases e4
        | some B =>
          rw [hB] at e4
          have := loopsC_ok (C := ctx E N hint tbl itK LP YO k) (fn := g) (round := none) (Q := FnQ E F) hH (htbl k) (hit k) rfl body 0 [] (retK E F.results.toList pairK) (retX E F.results.toList pairK) ih ks_end xs_end n B _ hB hx pl T' h m r hpl e2 hF e4
          rw [e1, e3] at this
          obtain ⟨n', j, s', pl1, q⟩ := this
          exact ⟨n', j, s', pl1, q⟩
  unfold denF at hk
  rw [hb] at hk
  simp only at hk
  obtain ⟨hle, hk⟩ := bif_t hk
  have hle' := Nat.le_of_ble_eq_true hle
  intro pl m hpl hF
  have hok : TS.OK ⟨argsO args 0 [], .nil, []⟩ := argsO_ok 65535 args 0 [] (by omega) (fun p hp => by simp at hp)
  obtain ⟨n, j, s', pl1, q1, q2, m1, vs, h2, q3, q4, q5, q6⟩ := denC_ok (C := ctx E N hint tbl itK LP YO k) (fn := g) (round := none) (Q := FnQ E F) hH (htbl k) (hit k) body (.inl rfl) 0 [] (retK E F.results.toList pairK) (retX E F.results.toList pairK) (hloops k) ks_end xs_end pl _ h m _ hpl hok hF hk
  cases q6
  rw [argsO_tr] at q2
  refine ⟨n + 1, m1, pl1, q1, ?_, q5⟩
  unfold aRun
  simp only [hsn, Bool.false_and, cond_false, hg, hb, hle, cond_true]
  have q2' : loopF (aRun E n) E g (Nat.max args.length F.ntmps) none n ⟨argsT args 0 .nil, [.code body], [], m⟩ = some (j, s') := by rw [hn]; exact q2
  simp only [q2', q3, q4]
end

/-! ### Rounds -/
theorem setY_ok {size : Nat} : ∀ (ps : List Nat) (vs : List Value) (T T1 : TS), setY ps size vs T = some T1 → T.OK → setPs ps vs size T.tr = some T1.tr ∧ T1.OK ∧ T1.marks = T.marks
  | [], [], T, T1, h, hT => by cases h; exact ⟨rfl, hT, rfl⟩
  | [], _ :: _, T, T1, h, hT => by cases h
  | p :: ps, [], T, T1, h, hT => by cases h
  | p :: ps, v :: vs, T, T1, h, hT => by
    change (bif Nat.ble (p + 1) size && Nat.ble p 65535 then setY ps size vs (T.put p v) else none) = some T1 at h
    obtain ⟨hc, h⟩ := bif_t h
    have hc' := hc
    rw [Bool.and_eq_true] at hc
    obtain ⟨q1, q2, q3⟩ := setY_ok ps vs _ T1 h (hT.put (Nat.le_of_ble_eq_true hc.2) v)
    exact ⟨by unfold setPs; rw [hc', cond_true]; exact q1, q2, q3⟩

def YQ (l : Nat) (p : Pay) (pl : Pl) (j : Option Code) (_ : Tr Value) (marks : List Nat) (m : Mem) (r : Bool × Hp) : Prop :=
  marks = [] ∧ pl l = some p ∧ ∃ h h1, Fill pl h m ∧ finL h l j = some h1 ∧ r = (isN j, h1)
theorem round_ok {C : Ctx (Bool × Hp)} {H : Pl → Prop} (hH : MonoH H) {ps : List Nat} {assign body : Code} {T : TS} {l fn d : Nat} (ha : nl assign = 0) (hb : nl body = 0) (hT : T.OK)
    (htbl : TblOK C.E (fun pl => H pl ∧ pl l = some ⟨fn, T.tr, C.size, ps, assign, body, d⟩) C.tbl) (hit : ItOK C (fun pl => H pl ∧ pl l = some ⟨fn, T.tr, C.size, ps, assign, body, d⟩))
    {args : List Value} {h h1 : Hp} {b : Bool} (hk : denY C ps assign body T l args h = some (b, h1)) :
    RunsH C.E (fun pl => H pl ∧ pl l = some ⟨fn, T.tr, C.size, ps, assign, body, d⟩) (.yield l) args h (.bool b) h1 := by
  generalize hp : (⟨fn, T.tr, C.size, ps, assign, body, d⟩ : Pay) = p at *
  have hH' : MonoH (fun pl => H pl ∧ pl l = some p) := fun a b hs h => ⟨hH a b hs h.1, hs _ _ h.2⟩
  unfold denY at hk
  split at hk
  · rename_i T1 hset
    obtain ⟨hisl, hk⟩ := ckB_some hk
    obtain ⟨s1, s2, s3⟩ := setY_ok ps args { T with marks := [] } T1 hset hT
    have hls : ∀ c, nl c = 0 → ∀ k, LS C fn (some l) (YQ l p) (fun pl => H pl ∧ pl l = some p) 0 (todoC c k) := fun c hc k n x hx => by
      have := (List.getElem?_eq_some_iff.1 hx).1
      rw [todoC_length, hc] at this; omega
    have kend : ∀ (jj : Option Code) (k : List Item), (∀ T marks m, stepF (aRun C.E 0) C.E fn C.size (some l) ⟨T, k, marks, m⟩ = some (.leave jj ⟨T, k, marks, m⟩)) → KS C fn (some l) (YQ l p) (fun pl => H pl ∧ pl l = some p) k (finY l jj) := by
      intro jj k hst pl T h m r hpl hT hF hk
      unfold finY at hk
      split at hk
      · rename_i hm
        obtain ⟨h2, e1, e2⟩ := bind_some' hk
        cases e2
        exact Reach.leave (hst _ _ _) (PSub.refl _) ⟨hm, hpl.2, h, h2, hF, e1, rfl⟩
      · cases hk
    have xend : XS C fn (some l) (YQ l p) (fun pl => H pl ∧ pl l = some p) [] (fun j => finY l (some j)) := by
      intro j hj
      cases j with
      | ret => exact kend (some .ret) _ (fun T marks m => rfl)
      | exit id => exact kend (some (.exit id)) _ (fun T marks m => rfl)
      | goto l' => exact kend (some (.goto l')) _ (fun T marks m => rfl)
      | _ => exact hj.elim
    have kbody := denC_ok (C := C) (fn := fn) (round := some l) (Q := YQ l p) hH' htbl hit body (.inr hb) 0 [] (finY l none) (fun j => finY l (some j)) (hls body hb []) (kend none [] (fun T marks m => rfl)) xend
    have kbeg : KS C fn (some l) (YQ l p) (fun pl => H pl ∧ pl l = some p) [.beginRound, .code body] (fun T h => (begL h l).bind fun h1 => denC C body 0 (finY l none) (fun j => finY l (some j)) T h1) := by
      intro pl T h m r hpl hT hF hk
      obtain ⟨h2, e1, e2⟩ := bind_some' hk
      unfold begL at e1
      split at e1
      · rename_i pend a b c d e f g hg
        cases e1
        have hm : m.get l = some (p.blk .ready pend) := by rw [hF.get, hg, hpl.2]; rfl
        refine Reach.step (n0 := 0) (s1 := ⟨T.tr, [.code body], T.marks, m.set l (p.blk .busy pend)⟩) ?_ (PSub.refl _) (kbody pl T _ _ r hpl hT (hF.loop hpl.2 _ _) e2)
        unfold stepF
        simp only [hm, Pay.blk]
      · cases e1
    have kall := denC_ok (C := C) (fn := fn) (round := some l) (Q := YQ l p) hH' htbl hit assign (.inr ha) 0 [.beginRound, .code body] _ (fun _ _ _ => none) (hls assign ha _) kbeg (fun j hj pl T h m r hpl hT hF hk => by cases hk)
    intro pl m hpl hF
    obtain ⟨n, j, s', pl1, q1, q2, q3, q4, h2, h3, q5, q6, q7⟩ := kall pl T1 h m (b, h1) hpl s2 hF hk
    cases q7
    unfold finL at q6
    split at q6
    · rename_i st pend c1 c2 c3 c4 c5 c6 c7 hg
      cases q6
      have hm' : s'.m.get l = some (p.blk st pend) := by rw [q5.get, hg, q4]; rfl
      have hst : ∃ st0 pend0, m.get l = some (p.blk st0 pend0) := by
        unfold isL at hisl
        split at hisl
        · rename_i st0 pend0 _ _ _ _ _ _ _ hg0
          exact ⟨st0, pend0, by rw [hF.get, hg0, hpl.2]; rfl⟩
        · cases hisl
      obtain ⟨st0, pend0, hm0⟩ := hst
      refine ⟨n + 1, s'.m.set l (p.blk (match (generalizing := false) j with | none => .ready | some _ => .done) j), pl1, q1, ?_, q5.loop q4 _ _⟩
      subst hp
      unfold aRun
      simp only [Pay.blk] at hm0 hm' ⊢
      simp only [hm0]
      have s1' : setPs ps args C.size T.tr = some T1.tr := s1
      simp only [s1']
      have q2' : loopF (aRun C.E n) C.E fn C.size (some l) n ⟨T1.tr, [.code assign, .beginRound, .code body], [], m⟩ = some (j, s') := by
        have : T1.marks = [] := s3
        rw [this] at q2; exact q2
      simp only [q2', q3, hm']
      cases j <;> rfl
    · cases q6
  · cases hk
end Go.Proofs.Ytgikimegikelkaa.Ab
