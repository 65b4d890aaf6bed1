/- The machine told by continuations: texts, loops, calls. -/
import Derived.Test.YtgikimegikelkaaAbDen5
namespace Go.Proofs.Ytgikimegikelkaa.Ab
open Go Go.RowKit
set_option linter.unusedVariables false
set_option linter.unusedSimpArgs false
set_option linter.unusedSectionVars false

/-- The loops of a text, with what is left to do after each. -/
inductive LoopAt where
  | loop (b : Code) (k : List Item)
  | range (ps : Array Tmp) (assign body : Code)
  | label (b : Code) (k : List Item)
noncomputable def todoC (c : Code) : List Item → List LoopAt :=
  Code.rec (motive := fun _ => List Item → List LoopAt) (fun _ => []) (fun _ _ _ _ => []) (fun _ b ra rb k => ra (.code b :: k) ++ rb k) (fun _ _ _ rt re k => rt k ++ re k)
    (fun id _ rb k => rb (.inBlock id :: k)) (fun b rb k => .loop b k :: rb (.inLoop b :: k)) (fun _ ps a b _ _ _ => [.range ps a b])
    (fun _ _ => []) (fun b rb k => .label b k :: rb (.inScope b :: k)) (fun _ _ => []) (fun _ _ => []) (fun _ => []) (fun _ _ => []) c
theorem todoC_length (c : Code) : ∀ k, (todoC c k).length = nl c := by
  induction c with
  | seq a b iha ihb => intro k; show (todoC a (.code b :: k) ++ todoC b k).length = nl a + nl b; rw [List.length_append, iha, ihb]
  | cond c t e iht ihe => intro k; show (todoC t k ++ todoC e k).length = nl t + nl e; rw [List.length_append, iht, ihe]
  | block id b ih => intro k; exact ih _
  | loop b ih => intro k; show (todoC b (.inLoop b :: k)).length + 1 = nl b + 1; rw [ih]
  | scope b ih => intro k; show (todoC b (.inScope b :: k)).length + 1 = nl b + 1; rw [ih]
  | _ => intro k; rfl

section
variable {R : Type} (C : Ctx R) (fn : Nat) (round : Option Nat) (Q : Pl → Option Code → Tr Value → List Nat → Mem → R → Prop) (H : Pl → Prop)
def Reach (pl : Pl) (s : Fr) (r : R) : Prop := ∃ n j s' pl1, PSub pl pl1 ∧ loopF (aRun C.E n) C.E fn C.size round n s = some (j, s') ∧ Q pl1 j s'.T s'.marks s'.m r
def KS (k : List Item) (K : TS → Hp → Option R) : Prop := ∀ pl T h m r, H pl → TS.OK T → Fill pl h m → K T h = some r → Reach C fn round Q pl ⟨T.tr, k, T.marks, m⟩ r
def isJump : Code → Prop
  | .exit _ | .goto _ | .ret => True
  | _ => False
def XS (k : List Item) (X : Code → TS → Hp → Option R) : Prop := ∀ j, isJump j → KS C fn round Q H (.code j :: k) (X j)
def YS (i : Nat) (ps : Array Tmp) (assign body : Code) : Prop := ∀ T l args h b h1 d, TS.OK T → C.YO i T l args h = some (b, h1) →
  RunsH C.E (fun pl => H pl ∧ pl l = some ⟨fn, T.tr, C.size, ps.toList, assign, body, d⟩) (.yield l) args h (.bool b) h1
def LX (i : Nat) : LoopAt → Prop
  | .loop b k => KS C fn round Q H (.code b :: .inLoop b :: k) (C.LP i)
  | .range ps a b => YS C fn H i ps a b
  | .label b k => ∀ p, firstL b = some p → KS C fn round Q H (.code p.2 :: .inScope b :: k) (C.LP i)
def LS (i : Nat) (l : List LoopAt) : Prop := ∀ n x, l[n]? = some x → LX C fn round Q H (i + n) x
/-- A loop over a function, over a call of a function that yields. -/
def ItOK : Prop := ∀ g l args Y h K r, C.itK g l args Y h K = some r → ∀ (p : Pay), (∀ a h b h1, Y a h = some (b, h1) → RunsH C.E (fun pl => H pl ∧ pl l = some p) (.yield l) a h (.bool b) h1) →
  ∃ v h1, K v h1 = some r ∧ RunsH C.E (fun pl => H pl ∧ pl l = some p) (.fn g) args h v h1
end

section
variable {R : Type} {C : Ctx R} {fn : Nat} {round : Option Nat} {Q : Pl → Option Code → Tr Value → List Nat → Mem → R → Prop} {H : Pl → Prop}
theorem Reach.step {n0 : Nat} {pl pl1 : Pl} {s s1 : Fr} {r : R} (hs : stepF (aRun C.E n0) C.E fn C.size round s = some (.run s1)) (hp : PSub pl pl1) (h : Reach C fn round Q pl1 s1 r) : Reach C fn round Q pl s r := by
  obtain ⟨n, j, s', pl2, h1, h2, h3⟩ := h
  refine ⟨max n0 n + 1, j, s', pl2, hp.trans h1, ?_, h3⟩
  rw [loopF_succ, stepF_mono (aRun_le (by omega)) hs]
  simp only
  exact loopF_mono (aRun_le (by omega)) n _ _ _ (by omega) h2
theorem Reach.leave {n0 : Nat} {pl pl1 : Pl} {s s1 : Fr} {j : Option Code} {r : R} (hs : stepF (aRun C.E n0) C.E fn C.size round s = some (.leave j s1)) (hp : PSub pl pl1) (h : Q pl1 j s1.T s1.marks s1.m r) : Reach C fn round Q pl s r := by
  refine ⟨n0 + 1, j, s1, pl1, hp, ?_, h⟩
  rw [loopF_succ, stepF_mono (aRun_le (by omega)) hs]
theorem KS.step {k k1 : List Item} {K : TS → Hp → Option R} (hs : ∀ T marks m, stepF (aRun C.E 0) C.E fn C.size round ⟨T, k, marks, m⟩ = some (.run ⟨T, k1, marks, m⟩)) (h : KS C fn round Q H k1 K) : KS C fn round Q H k K :=
  fun pl T hh m r hpl hT hF hk => Reach.step (hs _ _ _) (PSub.refl _) (h pl T hh m r hpl hT hF hk)

/-- An item that no jump of this kind stops at. -/
def Skips (j : Code) (x : Item) : Prop :=
  match j with
  | .exit id => ∀ k, exitTo id (x :: k) = exitTo id k
  | .goto l => ∀ k, gotoIn l (x :: k) = gotoIn l k
  | _ => True
theorem leaveF_todo {j : Option Code} {T : Tr Value} {k k' : List Item} {marks : List Nat} {m : Mem} {st : St} (h : leaveF round j ⟨T, k, marks, m⟩ = some st) : st = .leave j ⟨T, k, marks, m⟩ ∧ leaveF round j ⟨T, k', marks, m⟩ = some (.leave j ⟨T, k', marks, m⟩) := by
  unfold leaveF at h ⊢
  cases round with
  | some l => cases h; exact ⟨rfl, rfl⟩
  | none =>
    simp only at h ⊢
    split at h
    · cases h; exact ⟨rfl, rfl⟩
    · cases h; exact ⟨rfl, rfl⟩
    · cases h
theorem jump_step {call : CallF} {E : Env} {size : Nat} {j : Code} {x : Item} {k : List Item} {T : Tr Value} {marks : List Nat} {m : Mem} {st : St} (hj : isJump j) (hx : Skips j x) (h : stepF call E fn size round ⟨T, .code j :: k, marks, m⟩ = some st) :
    (∃ k1, st = .run ⟨T, k1, marks, m⟩ ∧ stepF call E fn size round ⟨T, .code j :: x :: k, marks, m⟩ = some (.run ⟨T, k1, marks, m⟩)) ∨
    (∃ jj k1 k2, st = .leave jj ⟨T, k1, marks, m⟩ ∧ stepF call E fn size round ⟨T, .code j :: x :: k, marks, m⟩ = some (.leave jj ⟨T, k2, marks, m⟩)) := by
  cases j with
  | ret =>
    unfold stepF at h ⊢
    simp only at h ⊢
    obtain ⟨h1, h2⟩ := leaveF_todo (k' := .code .ret :: x :: k) h
    exact .inr ⟨_, _, _, h1, h2⟩
  | exit id =>
    have e := hx k
    unfold stepF at h ⊢
    simp only at h ⊢
    rw [e]
    split at h
    · rename_i k' hk
      cases h
      exact .inl ⟨k', rfl, rfl⟩
    · rename_i hk
      obtain ⟨h1, h2⟩ := leaveF_todo (k' := .code (.exit id) :: x :: k) h
      exact .inr ⟨_, _, _, h1, h2⟩
  | goto l =>
    have e := hx k
    unfold stepF at h ⊢
    simp only at h ⊢
    rw [e]
    split at h
    · rename_i k' hk
      cases h
      exact .inl ⟨k', rfl, rfl⟩
    · rename_i hk
      obtain ⟨h1, h2⟩ := leaveF_todo (k' := .code (.goto l) :: x :: k) h
      exact .inr ⟨_, _, _, h1, h2⟩
  | _ => exact hj.elim
theorem KS.skip {j : Code} {x : Item} {k : List Item} {K : TS → Hp → Option R} (hj : isJump j) (hx : Skips j x) (h : KS C fn round Q H (.code j :: k) K) : KS C fn round Q H (.code j :: x :: k) K := by
  intro pl T hh m r hpl hT hF hk
  obtain ⟨n, jj, s', pl1, h1, h2, h3⟩ := h pl T hh m r hpl hT hF hk
  cases n with
  | zero => rw [loopF_zero] at h2; cases h2
  | succ n =>
    rw [loopF_succ] at h2
    cases hs : stepF (aRun C.E (n + 1)) C.E fn C.size round ⟨T.tr, .code j :: k, T.marks, m⟩ with
    | none => rw [hs] at h2; cases h2
    | some st =>
      rw [hs] at h2
      rcases jump_step hj hx hs with ⟨k1, rfl, e2⟩ | ⟨jj', k1, k2, rfl, e2⟩
      · refine ⟨n + 1, jj, s', pl1, h1, ?_, h3⟩
        rw [loopF_succ, e2]; exact h2
      · cases h2
        refine ⟨n + 1, jj, ⟨T.tr, k2, T.marks, m⟩, pl1, h1, ?_, h3⟩
        rw [loopF_succ, e2]
theorem XS.skip {x : Item} {k : List Item} {X : Code → TS → Hp → Option R} (hx : ∀ j, isJump j → Skips j x) (h : XS C fn round Q H k X) : XS C fn round Q H (x :: k) X :=
  fun j hj => (h j hj).skip hj (hx j hj)
theorem skips_code (c : Code) (j : Code) (hj : isJump j) : Skips j (.code c) := by cases j <;> first | exact hj.elim | trivial | (intro k; rfl)
theorem skips_loop (c : Code) (j : Code) (hj : isJump j) : Skips j (.inLoop c) := by cases j <;> first | exact hj.elim | trivial | (intro k; rfl)
theorem XS.block {id : Nat} {k : List Item} {K : TS → Hp → Option R} {X : Code → TS → Hp → Option R} (hK : KS C fn round Q H k K) (hX : XS C fn round Q H k X) : XS C fn round Q H (.inBlock id :: k) (exitX id K X) := by
  intro j hj
  cases j with
  | exit id' =>
    intro pl T hh m r hpl hT hF hk
    change bc (Nat.beq id' id) (K T hh) (X (.exit id') T hh) = some r at hk
    cases hc : Nat.beq id' id with
    | true =>
      rw [hc, bc_true] at hk
      have := Nat.eq_of_beq_eq_true hc
      subst this
      refine Reach.step (n0 := 0) (s1 := ⟨T.tr, k, T.marks, m⟩) ?_ (PSub.refl _) (hK pl T hh m r hpl hT hF hk)
      simp [stepF, exitTo]
    | false =>
      rw [hc, bc_false] at hk
      have hne : ¬ id = id' := fun e => by subst e; rw [show Nat.beq id id = true from Nat.beq_refl _] at hc; cases hc
      exact KS.skip (K := X (.exit id')) hj (fun k => by simp [exitTo, hne]) (hX _ hj) pl T hh m r hpl hT hF hk
  | goto l => exact KS.skip hj (fun k => rfl) (hX _ hj)
  | ret => exact KS.skip hj trivial (hX _ hj)
  | _ => exact hj.elim
theorem firstL_seq (a b : Code) : firstL (.seq a b) = match firstL a with | some p => some (p.1, .seq p.2 b) | none => firstL b := rfl
theorem first_none : ∀ (c : Code), firstL c = none → ∀ l, findLabel c l = none := by
  intro c
  induction c with
  | seq a b iha ihb =>
    intro h l
    rw [firstL_seq] at h
    cases ha : firstL a with
    | some p => rw [ha] at h; cases h
    | none =>
      rw [ha] at h
      unfold findLabel
      rw [iha ha l]
      exact ihb h l
  | label l' => intro h; cases h
  | _ => intro h l; rfl
theorem first_some : ∀ (c : Code) (p : Nat × Code), firstL c = some p → findLabel c p.1 = some p.2 := by
  intro c
  induction c with
  | seq a b iha ihb =>
    intro p h
    rw [firstL_seq] at h
    cases ha : firstL a with
    | some q =>
      rw [ha] at h; cases h
      unfold findLabel
      rw [iha q ha]
    | none =>
      rw [ha] at h
      unfold findLabel
      rw [first_none a ha]
      exact ihb p h
  | label l' => intro p h; cases h; simp [findLabel]
  | _ => intro p h; cases h
theorem first_todo : ∀ (c : Code) (p : Nat × Code), firstL c = some p → ∀ k, ∃ pre, todoC c k = pre ++ todoC p.2 k ∧ pre.length = nl c - nl p.2 := by
  intro c
  induction c with
  | seq a b iha ihb =>
    intro p h k
    rw [firstL_seq] at h
    cases ha : firstL a with
    | some q =>
      rw [ha] at h; cases h
      obtain ⟨pre, h1, h2⟩ := iha q ha (.code b :: k)
      refine ⟨pre, ?_, ?_⟩
      · show todoC a (.code b :: k) ++ todoC b k = pre ++ (todoC q.2 (.code b :: k) ++ todoC b k)
        rw [h1, List.append_assoc]
      · show pre.length = nl a + nl b - (nl q.2 + nl b)
        omega
    | none =>
      rw [ha] at h
      obtain ⟨pre, h1, h2⟩ := ihb p h k
      have e1 : (todoC a (.code b :: k)).length = nl a := todoC_length a _
      have e2 : (todoC b k).length = nl b := todoC_length b _
      have e3 : (todoC p.2 k).length = nl p.2 := todoC_length _ _
      have e4 : nl b = pre.length + nl p.2 := by rw [← e2, h1, List.length_append, e3]
      refine ⟨todoC a (.code b :: k) ++ pre, ?_, ?_⟩
      · show todoC a (.code b :: k) ++ todoC b k = _
        rw [h1, List.append_assoc]
      · show (todoC a (.code b :: k) ++ pre).length = nl a + nl b - nl p.2
        rw [List.length_append]; omega
  | label l' => intro p h k; cases h; exact ⟨[], rfl, rfl⟩
  | _ => intro p h; cases h
theorem XS.scope {b : Code} {k : List Item} {G : TS → Hp → Option R} {X : Code → TS → Hp → Option R} (hX : XS C fn round Q H k X) (hG : ∀ p, firstL b = some p → KS C fn round Q H (.code p.2 :: .inScope b :: k) G) : XS C fn round Q H (.inScope b :: k) (gotoX b G X) := by
  intro j hj
  cases j with
  | exit id => exact KS.skip hj (fun k => rfl) (hX _ hj)
  | goto l =>
    intro pl T hh m r hpl hT hF hk
    unfold gotoX at hk
    cases hf : firstL b with
    | some p =>
      rw [hf] at hk
      simp only at hk
      obtain ⟨hc, hk2⟩ := bc_some hk
      have e := Nat.eq_of_beq_eq_true hc
      subst e
      refine Reach.step (n0 := 0) (s1 := ⟨T.tr, .code p.2 :: .inScope b :: k, T.marks, m⟩) ?_ (PSub.refl _) (hG p hf pl T hh m r hpl hT hF hk2)
      simp [stepF, gotoIn, first_some b p hf]
    | none =>
      rw [hf] at hk
      exact KS.skip (K := X (.goto l)) hj (fun k => by simp [gotoIn, first_none b hf]) (hX _ hj) pl T hh m r hpl hT hF hk
  | ret => exact KS.skip hj trivial (hX _ hj)
  | _ => exact hj.elim

theorem LS.left {i : Nat} {a b : List LoopAt} (h : LS C fn round Q H i (a ++ b)) : LS C fn round Q H i a := fun n x hx => h n x (by
  have := (List.getElem?_eq_some_iff.1 hx).1
  rw [List.getElem?_append_left this]; exact hx)
theorem LS.right {i : Nat} {a b : List LoopAt} (h : LS C fn round Q H i (a ++ b)) : LS C fn round Q H (i + a.length) b := fun n x hx => by
  have := h (a.length + n) x (by rw [List.getElem?_append_right (by omega)]; rw [show a.length + n - a.length = n by omega]; exact hx)
  rw [show i + a.length + n = i + (a.length + n) by omega]; exact this
theorem isJ_eq {j : Code} {p : Option Code} (h : isJ j p = true) : p = some j := by
  unfold isJ at h
  split at h
  · rw [Nat.eq_of_beq_eq_true h]
  · rw [Nat.eq_of_beq_eq_true h]
  · rfl
  · cases h
theorem isJ_jump {j : Code} {p : Option Code} (h : isJ j p = true) : isJump j := by
  unfold isJ at h
  split at h
  · trivial
  · trivial
  · trivial
  · cases h
theorem selJ_ok {p : Option Code} {KJ : Code → Option R} {r : R} : ∀ (js : List Code), selJ js p KJ = some r → ∃ j, p = some j ∧ isJump j ∧ KJ j = some r
  | [], h => by cases h
  | j :: js, h => by
    change bc (isJ j p) (KJ j) (selJ js p KJ) = some r at h
    cases hc : isJ j p with
    | true => rw [hc, bc_true] at h; exact ⟨j, isJ_eq hc, isJ_jump hc, h⟩
    | false => rw [hc, bc_false] at h; exact selJ_ok js h
theorem end_ok {pl : Pl} {h : Hp} {m : Mem} (hF : Fill pl h m) {l : Nat} {p : Option Code × Hp} (hk : endL h l = some p) : ∃ m1, endLoopF l m = some (p.1, m1) ∧ Fill pl p.2 m1 := by
  unfold endL at hk
  split at hk
  · rename_i st pend a b c d e f g hg
    obtain ⟨q, hq⟩ := hF.loops l _ hg (fun h => h)
    have hm : m.get l = some (q.blk st pend) := by rw [hF.get, hg, hq]; rfl
    have : ∃ m1, endLoopF l m = some (pend, m1) ∧ m1 = m.set l (q.blk .exhausted pend) ∧ p = (pend, h.set l (stub .exhausted pend)) := by
      unfold endLoopF
      rw [hm]
      simp only [Pay.blk]
      split at hk
      · cases hk
      · cases hk
        cases st <;> first | exact ⟨_, rfl, rfl, rfl⟩ | (rename_i hne; exact absurd rfl hne)
    obtain ⟨m1, e1, e2, e3⟩ := this
    subst e2 e3
    exact ⟨_, e1, hF.loop hq _ _⟩
  · cases hk

theorem denC_ok (hH : MonoH H) (htbl : TblOK C.E H C.tbl) (hit : ItOK C H) : ∀ (c : Code), (round = none ∨ nl c = 0) → ∀ (i : Nat) (k : List Item) (K : TS → Hp → Option R) (X : Code → TS → Hp → Option R),
    LS C fn round Q H i (todoC c k) → KS C fn round Q H k K → XS C fn round Q H k X → KS C fn round Q H (.code c :: k) (denC C c i K X) := by
  intro c
  induction c with
  | skip => intro hr i k K X hl hK hX; exact KS.step (fun T marks m => rfl) hK
  | region id ops draw =>
    intro hr i k K X hl hK hX pl T h m r hpl hT hF hk
    obtain ⟨n, T1, h1, m1, pl1, q1, q2, q3, q4, q5, q6⟩ := regionK_ok hH htbl hk hT hpl hF
    have := hK pl1 T1 h1 m1 r (hH _ _ q4 hpl) q2 q5 q6
    rw [q3] at this
    refine Reach.step (n0 := n) ?_ q4 this
    unfold stepF
    simp only [q1]
  | seq a b iha ihb =>
    intro hr i k K X hl hK hX
    have e : (todoC a (.code b :: k)).length = nl a := todoC_length a _
    refine KS.step (k1 := .code a :: .code b :: k) (fun T marks m => rfl) ?_
    have hra : round = none ∨ nl a = 0 := hr.imp_right (fun h => by have : nl a + nl b = 0 := h; omega)
    have hrb : round = none ∨ nl b = 0 := hr.imp_right (fun h => by have : nl a + nl b = 0 := h; omega)
    refine iha hra i (.code b :: k) (denC C b (i + nl a) K X) X (LS.left hl) (ihb hrb (i + nl a) k K X ?_ hK hX) (hX.skip (skips_code b))
    have := LS.right (C := C) (a := todoC a (.code b :: k)) (b := todoC b k) hl
    rw [e] at this; exact this
  | cond c t e iht ihe =>
    intro hr i k K X hl hK hX pl T h m r hpl hT hF hk
    have el : (todoC t k).length = nl t := todoC_length t _
    have hra : round = none ∨ nl t = 0 := hr.imp_right (fun h => by have : nl t + nl e = 0 := h; omega)
    have hrb : round = none ∨ nl e = 0 := hr.imp_right (fun h => by have : nl t + nl e = 0 := h; omega)
    have hr' : LS C fn round Q H (i + nl t) (todoC e k) := by
      have := LS.right (C := C) (a := todoC t k) (b := todoC e k) hl
      rw [el] at this; exact this
    change (match ev T c with | .bool b => bc b (denC C t i K X T h) (denC C e (i + nl t) K X T h) | _ => none) = some r at hk
    split at hk
    · rename_i b hb
      cases b with
      | true =>
        refine Reach.step (n0 := 0) (s1 := ⟨T.tr, .code t :: k, T.marks, m⟩) ?_ (PSub.refl _) (iht hra i k K X (LS.left hl) hK hX pl T h m r hpl hT hF hk)
        unfold stepF
        simp only [ev_tr hT, hb, cond_true]
      | false =>
        refine Reach.step (n0 := 0) (s1 := ⟨T.tr, .code e :: k, T.marks, m⟩) ?_ (PSub.refl _) (ihe hrb (i + nl t) k K X hr' hK hX pl T h m r hpl hT hF hk)
        unfold stepF
        simp only [ev_tr hT, hb, cond_false]
    · cases hk
  | block id b ih =>
    intro hr i k K X hl hK hX
    refine KS.step (k1 := .code b :: .inBlock id :: k) (fun T marks m => rfl) ?_
    exact ih hr i (.inBlock id :: k) K (exitX id K X) hl (KS.step (fun T marks m => rfl) hK) (XS.block hK hX)
  | loop b ih =>
    intro hr i k K X hl hK hX
    exact KS.step (k1 := .code b :: .inLoop b :: k) (fun T marks m => rfl) (hl 0 _ rfl)
  | rangeFunc f ps a b iha ihb =>
    intro hr i k K X hl hK hX pl T h m r hpl hT hF hk
    have hr : round = none := hr.resolve_right (fun h => by have : 1 = 0 := h; omega)
    subst hr
    have hY : YS C fn H i ps a b := hl 0 _ rfl
    change rangeK C (jumpsOf a ++ jumpsOf b) f i K X T h = some r at hk
    unfold rangeK at hk
    split at hk
    · rename_i g first cap hf
      obtain ⟨pl1, s1, s2, s3⟩ := Fill.newLoop (hF.new (K := .defs) trivial) ⟨fn, T.tr, C.size, ps.toList, a, b, m.next⟩ .ready none
      have s2' : pl1 (h.next + 1) = some ⟨fn, T.tr, C.size, ps.toList, a, b, m.next⟩ := s2
      obtain ⟨v, h2, q1, q2⟩ := hit g _ _ _ _ _ r hk ⟨fn, T.tr, C.size, ps.toList, a, b, m.next⟩ (fun aa hh bb hh1 hy => hY T (h.next + 1) aa hh bb hh1 m.next hT hy)
      obtain ⟨n, m2, pl2, p1, p2, p3⟩ := q2 pl1 _ ⟨hH _ _ s1 hpl, s2'⟩ s3
      obtain ⟨p, e1, e2⟩ := bind_some' q1
      obtain ⟨m3, e3, e4⟩ := end_ok p3 e1
      have hen : enterLoopF fn C.size none ⟨T.tr, .code (.rangeFunc f ps a b) :: k, T.marks, m⟩ ps a b = some (h.next + 1, ⟨T.tr, .code (.rangeFunc f ps a b) :: k, m.next :: T.marks, (m.new .defs).new (.loop .ready none fn T.tr C.size ps.toList a b m.next)⟩) := by
        unfold enterLoopF
        simp only [Mem.next_new, hF.next]
      have hstep : ∀ jump, p.1 = jump → stepF (aRun C.E n) C.E fn C.size none ⟨T.tr, .code (.rangeFunc f ps a b) :: k, T.marks, m⟩ = some (.run ⟨T.tr, (match jump with | some c => .code c :: k | none => k), m.next :: T.marks, m3⟩) := by
        intro jump hj
        unfold stepF
        simp only [ev_tr hT, hf, hen]
        have p2' : aRun C.E n (.fn g) (first.toList ++ (.func (.yield (h.next + 1)) #[] #[]) :: cap.toList) ((m.new .defs).new (.loop .ready none fn T.tr C.size ps.toList a b m.next)) = some (v, m2) := p2
        simp only [p2', e3, hj]
        cases jump <;> rfl
      have hT' : TS.OK { T with marks := h.next :: T.marks } := hT
      cases hc : isN p.1 with
      | true =>
        rw [hc, bc_true] at e2
        have hp : p.1 = none := by
          cases hp : p.1 with
          | none => rfl
          | some c => rw [hp] at hc; cases hc
        refine Reach.step (hstep none hp) (s1.trans p1) ?_
        have := hK pl2 _ p.2 m3 r (hH _ _ (s1.trans p1) hpl) hT' e4 e2
        rw [← hF.next] at this
        exact this
      | false =>
        rw [hc, bc_false] at e2
        obtain ⟨j, hj, hj2, hj3⟩ := selJ_ok _ e2
        refine Reach.step (hstep (some j) hj) (s1.trans p1) ?_
        have := hX j hj2 pl2 _ p.2 m3 r (hH _ _ (s1.trans p1) hpl) hT' e4 hj3
        rw [← hF.next] at this
        exact this
    · cases hk
  | exit id => intro hr i k K X hl hK hX; exact hX _ trivial
  | scope b ih =>
    intro hr i k K X hl hK hX
    refine KS.step (k1 := .code b :: .inScope b :: k) (fun T marks m => rfl) ?_
    have hlb : LS C fn round Q H (i + 1) (todoC b (.inScope b :: k)) := fun n x hx => by
      have := hl (n + 1) x (by exact hx)
      rw [show i + 1 + n = i + (n + 1) by omega]; exact this
    have hr' : round = none ∨ nl b = 0 := hr.imp_right (fun h => by have : nl b + 1 = 0 := h; omega)
    exact ih hr' (i + 1) (.inScope b :: k) K (gotoX b (C.LP i) X) hlb (KS.step (fun T marks m => rfl) hK) (hX.scope (hl 0 _ rfl))
  | label l => intro hr i k K X hl hK hX; exact KS.step (fun T marks m => rfl) hK
  | goto l => intro hr i k K X hl hK hX; exact hX _ trivial
  | ret => intro hr i k K X hl hK hX; exact hX _ trivial
  | refuse w => intro hr i k K X hl hK hX pl T h m r hpl hT hF hk; cases hk

/-- What is told of a loop's text. -/
def BX (C : Ctx R) (fn : Nat) (round : Option Nat) (Q : Pl → Option Code → Tr Value → List Nat → Mem → R → Prop) (H : Pl → Prop) : LoopAt → (TS → Hp → Option R) → Prop
  | .loop b k, B => KS C fn round Q H (.code b :: .inLoop b :: k) B
  | .label b k, B => ∀ p, firstL b = some p → KS C fn round Q H (.code p.2 :: .inScope b :: k) B
  | .range _ _ _, _ => True
theorem loopsC_ok (hH : MonoH H) (htbl : TblOK C.E H C.tbl) (hit : ItOK C H) (hr : round = none) : ∀ (c : Code) (i : Nat) (k : List Item) (K : TS → Hp → Option R) (X : Code → TS → Hp → Option R),
    LS C fn round Q H i (todoC c k) → KS C fn round Q H k K → XS C fn round Q H k X → ∀ (n : Nat) (B : TS → Hp → Option R) (x : LoopAt), (loopsC C c i K X)[n]? = some B → (todoC c k)[n]? = some x → BX C fn round Q H x B := by
  have len : ∀ (c : Code) (i : Nat) (K : TS → Hp → Option R) (X : Code → TS → Hp → Option R), (loopsC C c i K X).length = nl c := by
    intro c
    induction c with
    | seq a b iha ihb => intro i K X; show (loopsC C a i (denC C b (i + nl a) K X) X ++ loopsC C b (i + nl a) K X).length = nl a + nl b; rw [List.length_append, iha, ihb]
    | cond c t e iht ihe => intro i K X; show (loopsC C t i K X ++ loopsC C e (i + nl t) K X).length = nl t + nl e; rw [List.length_append, iht, ihe]
    | block id b ih => intro i K X; exact ih _ _ _
    | loop b ih => intro i K X; show (loopsC C b (i + 1) (C.LP i) X).length + 1 = nl b + 1; rw [ih]
    | scope b ih => intro i K X; show (loopsC C b (i + 1) K (gotoX b (C.LP i) X)).length + 1 = nl b + 1; rw [ih]
    | _ => intro i K X; rfl
  intro c
  induction c with
  | seq a b iha ihb =>
    intro i k K X hl hK hX n B x h1 h2
    change (loopsC C a i (denC C b (i + nl a) K X) X ++ loopsC C b (i + nl a) K X)[n]? = some B at h1
    change (todoC a (.code b :: k) ++ todoC b k)[n]? = some _ at h2
    have e : (todoC a (.code b :: k)).length = nl a := todoC_length a _
    have hlb : LS C fn round Q H (i + nl a) (todoC b k) := by
      have := LS.right (C := C) (a := todoC a (.code b :: k)) (b := todoC b k) hl
      rw [e] at this; exact this
    by_cases c : n < nl a
    · rw [List.getElem?_append_left (by rw [len]; exact c)] at h1
      rw [List.getElem?_append_left (by rw [e]; exact c)] at h2
      exact iha i _ _ X (LS.left hl) (denC_ok hH htbl hit b (.inl hr) _ k K X hlb hK hX) (hX.skip (skips_code b)) n B x h1 h2
    · rw [List.getElem?_append_right (by rw [len]; omega), len] at h1
      rw [List.getElem?_append_right (by rw [e]; omega), e] at h2
      exact ihb _ k K X hlb hK hX _ B x h1 h2
  | cond c t e iht ihe =>
    intro i k K X hl hK hX n B x h1 h2
    change (loopsC C t i K X ++ loopsC C e (i + nl t) K X)[n]? = some B at h1
    change (todoC t k ++ todoC e k)[n]? = some _ at h2
    have el : (todoC t k).length = nl t := todoC_length t _
    have hlb : LS C fn round Q H (i + nl t) (todoC e k) := by
      have := LS.right (C := C) (a := todoC t k) (b := todoC e k) hl
      rw [el] at this; exact this
    by_cases c : n < nl t
    · rw [List.getElem?_append_left (by rw [len]; exact c)] at h1
      rw [List.getElem?_append_left (by rw [el]; exact c)] at h2
      exact iht i _ _ X (LS.left hl) hK hX n B x h1 h2
    · rw [List.getElem?_append_right (by rw [len]; omega), len] at h1
      rw [List.getElem?_append_right (by rw [el]; omega), el] at h2
      exact ihe _ k K X hlb hK hX _ B x h1 h2
  | block id b ih =>
    intro i k K X hl hK hX
    exact ih i (.inBlock id :: k) K (exitX id K X) hl (KS.step (fun T marks m => rfl) hK) (XS.block hK hX)
  | loop b ih =>
    intro i k K X hl hK hX n B x h1 h2
    have h0 : KS C fn round Q H (.inLoop b :: k) (C.LP i) := KS.step (k1 := .code b :: .inLoop b :: k) (fun T marks m => rfl) (hl 0 _ rfl)
    have hlb : LS C fn round Q H (i + 1) (todoC b (.inLoop b :: k)) := fun n x hx => by
      have := hl (n + 1) x (by exact hx)
      rw [show i + 1 + n = i + (n + 1) by omega]; exact this
    cases n with
    | zero =>
      cases h1; cases h2
      exact denC_ok hH htbl hit b (.inl hr) (i + 1) (.inLoop b :: k) (C.LP i) X hlb h0 (hX.skip (skips_loop b))
    | succ n => exact ih (i + 1) (.inLoop b :: k) (C.LP i) X hlb h0 (hX.skip (skips_loop b)) n B x h1 h2
  | rangeFunc f ps a b iha ihb =>
    intro i k K X hl hK hX n B x h1 h2
    change ([LoopAt.range ps a b])[n]? = some _ at h2
    cases n with
    | zero => cases h2; trivial
    | succ n => cases h2
  | scope b ih =>
    intro i k K X hl hK hX n B x h1 h2
    have hlb : LS C fn round Q H (i + 1) (todoC b (.inScope b :: k)) := fun n x hx => by
      have := hl (n + 1) x (by exact hx)
      rw [show i + 1 + n = i + (n + 1) by omega]; exact this
    have hX' := hX.scope (b := b) (G := C.LP i) (hl 0 _ rfl)
    have hK' : KS C fn round Q H (.inScope b :: k) K := KS.step (fun T marks m => rfl) hK
    cases n with
    | zero =>
      cases h1; cases h2
      intro p hp
      rw [hp]
      obtain ⟨pre, q1, q2⟩ := first_todo b p hp (.inScope b :: k)
      refine denC_ok hH htbl hit p.2 (.inl hr) _ (.inScope b :: k) K _ ?_ hK' hX'
      rw [q1] at hlb
      have := LS.right hlb
      rw [q2] at this
      exact this
    | succ n => exact ih (i + 1) (.inScope b :: k) K _ hlb hK' hX' n B x h1 h2
  | _ => intro i k K X hl hK hX n B x h1 h2; cases h1
end
end Go.Proofs.Ytgikimegikelkaa.Ab
