/- The machine told by continuations: temporaries, heaps, one operation. -/
import Derived.Test.YtgikimegikelkaaAbDen
namespace Go.Proofs.Ytgikimegikelkaa.Ab
open Go Go.RowKit
set_option linter.unusedVariables false
set_option linter.unusedSimpArgs false
set_option linter.unusedSectionVars false

/-! ### Temporaries -/
def TS.OK (T : TS) : Prop := ∀ p ∈ T.ov, p.1 ≤ 65535
theorem bc_true {α : Type} (x y : α) : bc true x y = x := rfl
theorem bc_false {α : Type} (x y : α) : bc false x y = y := rfl
theorem look_cons (p : Nat × Value) (l : List (Nat × Value)) (d : Nat) (z : Value) : look (p :: l) d z = bc (Nat.beq p.1 d) p.2 (look l d z) := rfl
theorem get_ov (G : Tr Value) (marks : List Nat) (d : Nat) : ∀ (ov : List (Nat × Value)), (∀ p ∈ ov, p.1 ≤ 65535) → (((⟨ov, G, marks⟩ : TS).tr.get d).getD (.tuple #[])) = look ov d ((G.get d).getD (.tuple #[]))
  | [], _ => rfl
  | p :: l, h => by
    have ih := get_ov G marks d l (fun q hq => h q (List.mem_cons_of_mem _ hq))
    have hp : p.1 ≤ 65535 := h p (List.mem_cons_self ..)
    show (((⟨l, G, marks⟩ : TS).tr.set p.2 30 p.1).get d).getD (.tuple #[]) = _
    rw [Tr.get_set, look_cons]
    by_cases c : d = p.1
    · subst c
      rw [if_pos ⟨rfl, by omega⟩, show Nat.beq p.1 p.1 = true from Nat.beq_refl _]; rfl
    · rw [if_neg (fun h => c h.1), beq_ff (fun e => c e.symm)]; exact ih
theorem TS.get_tr {T : TS} (h : T.OK) (d : Nat) : ((T.tr.get d).getD (.tuple #[])) = T.get d := by
  obtain ⟨ov, G, marks⟩ := T; exact get_ov G marks d ov h
theorem ev_tr {T : TS} (h : T.OK) : evT T.tr = ev T := by
  funext x
  cases x with
  | tmp t => exact TS.get_tr h t
  | _ => rfl
theorem TS.OK.put {T : TS} (h : T.OK) {d : Nat} (hd : d ≤ 65535) (v : Value) : (T.put d v).OK := by
  intro p hp
  rcases List.mem_cons.1 hp with rfl | hp
  · exact hd
  · exact h p hp
theorem Tr.set_self {α : Type} (v : α) : ∀ (f : Nat) (t : Tr α) (n : Nat), t.get n = some v → n + 1 < 2 ^ f → t.set v f n = t
  | 0, t, n, _, _ => rfl
  | f + 1, t, n, h, hn => by
    have e : 2 ^ (f + 1) = 2 * 2 ^ f := by rw [Nat.pow_succ]; omega
    cases t with
    | nil => rw [Tr.get_nil] at h; cases h
    | node u l r =>
      rw [Tr.get_node] at h
      rw [Tr.set_node]
      by_cases h0 : n = 0
      · rw [if_pos h0] at h ⊢; rw [h]
      · rw [if_neg h0] at h ⊢
        by_cases h1 : n % 2 = 1
        · rw [if_pos h1] at h ⊢; rw [Tr.set_self v f l _ h (by omega)]
        · rw [if_neg h1] at h ⊢; rw [Tr.set_self v f r _ h (by omega)]
theorem TS.set_self {T : TS} (h : T.OK) {d : Nat} (hd : d ≤ 65535) {v : Value} (hv : T.get d = v) (hu : v ≠ .tuple #[]) : Tr.set v 30 T.tr d = T.tr := by
  refine Tr.set_self v 30 _ _ ?_ (by omega)
  have := TS.get_tr h d
  rw [hv] at this
  cases hg : T.tr.get d with
  | none => rw [hg] at this; exact absurd this.symm hu
  | some u => rw [hg] at this; exact congrArg some this
theorem TS.tr_put (T : TS) (d : Nat) (v : Value) : (T.put d v).tr = Tr.set v 30 T.tr d := rfl
theorem TS.put_self {T : TS} (h : T.OK) {d : Nat} (hd : d ≤ 65535) {v : Value} (hv : T.get d = v) (hu : v ≠ .tuple #[]) : (T.put d v).tr = T.tr := by
  rw [TS.tr_put]; exact TS.set_self h hd hv hu

/-! ### Heaps -/
structure Pay where
  fn : Nat
  T : Tr Value
  size : Nat
  params : List Nat
  assign : Code
  body : Code
  d : Nat
abbrev Pl := Nat → Option Pay
def Pay.blk (p : Pay) (st : LoopState) (pend : Option Code) : Blk := .loop st pend p.fn p.T p.size p.params p.assign p.body p.d
def fillB (p : Option Pay) : Blk → Blk
  | .loop st pend a b c d e f g => match p with
    | some p => p.blk st pend
    | none => .loop st pend a b c d e f g
  | K => K
def Plain : Blk → Prop
  | .loop _ _ _ _ _ _ _ _ _ => False
  | _ => True
theorem fill_plain {K : Blk} (h : Plain K) (p : Option Pay) : fillB p K = K := by cases K <;> first | rfl | exact h.elim
structure Fill (pl : Pl) (h : Hp) (m : Mem) : Prop where
  next : m.next = h.next
  get : ∀ b, m.get b = (h.g b).map (fillB (pl b))
  loops : ∀ b K, h.g b = some K → ¬ Plain K → ∃ p, pl b = some p
  fresh : ∀ b, h.next ≤ b → pl b = none
def PSub (a b : Pl) : Prop := ∀ x p, a x = some p → b x = some p
theorem PSub.refl (a : Pl) : PSub a a := fun _ _ h => h
theorem PSub.trans {a b c : Pl} (h : PSub a b) (k : PSub b c) : PSub a c := fun x p hp => k x p (h x p hp)

theorem Mem.get_set' (m : Mem) (b : Nat) (K : Blk) (i : Nat) : (m.set b K).get i = if i = b then some K else m.get i := by
  rw [Mem.get_set]
  have : b + 1 < 2 ^ (b + 1) := Nat.lt_two_pow_self
  by_cases c : i = b <;> simp [c, this]
theorem Mem.get_new' (m : Mem) (K : Blk) (i : Nat) : (m.new K).get i = if i = m.next then some K else m.get i := by
  rw [Mem.get_new]
  have : m.next + 1 < 2 ^ (m.next + 1) := Nat.lt_two_pow_self
  by_cases c : i = m.next <;> simp [c, this]

section
variable {pl : Pl} {h : Hp} {m : Mem}
theorem Fill.plain (hF : Fill pl h m) {b : Nat} {K : Blk} (hb : h.g b = some K) (hK : Plain K) : m.get b = some K := by
  rw [hF.get, hb]; exact congrArg some (fill_plain hK _)
theorem Fill.row (hF : Fill pl h m) {b sz : Nat} {cs : List Value} (hb : h.g b = some (.row sz cs)) : m.get b = some (.row sz cs) := hF.plain hb trivial
theorem Fill.map (hF : Fill pl h m) {b c : Nat} {es : List MapEntry} (hb : h.g b = some (.map es c)) : m.get b = some (.map es c) := hF.plain hb trivial
theorem Fill.set (hF : Fill pl h m) (b : Nat) {K : Blk} (hK : Plain K) : Fill pl (h.set b K) (m.set b K) := by
  refine ⟨hF.next, fun i => ?_, fun i K' hi hK' => ?_, hF.fresh⟩
  · rw [Mem.get_set']
    show _ = (if i = b then some K else h.g i).map _
    by_cases c : i = b
    · rw [if_pos c, if_pos c]; exact congrArg some (fill_plain hK _).symm
    · rw [if_neg c, if_neg c]; exact hF.get i
  · change (if i = b then some K else h.g i) = some K' at hi
    by_cases c : i = b
    · rw [if_pos c] at hi; cases hi; exact absurd hK hK'
    · rw [if_neg c] at hi; exact hF.loops i K' hi hK'
theorem Fill.new (hF : Fill pl h m) {K : Blk} (hK : Plain K) : Fill pl (h.new K) (m.new K) := by
  refine ⟨by rw [Mem.next_new, hF.next]; rfl, fun i => ?_, fun i K' hi hK' => ?_, fun b hb => hF.fresh b (Nat.le_trans (Nat.le_succ _) hb)⟩
  · rw [Mem.get_new', hF.next]
    show _ = (if i = h.next then some K else h.g i).map _
    by_cases c : i = h.next
    · rw [if_pos c, if_pos c]; exact congrArg some (fill_plain hK _).symm
    · rw [if_neg c, if_neg c]; exact hF.get i
  · change (if i = h.next then some K else h.g i) = some K' at hi
    by_cases c : i = h.next
    · rw [if_pos c] at hi; cases hi; exact absurd hK hK'
    · rw [if_neg c] at hi; exact hF.loops i K' hi hK'
theorem Fill.bump (hF : Fill pl h m) : Fill pl h.bump ⟨m.t, m.next + 1⟩ :=
  ⟨by rw [hF.next]; rfl, fun i => hF.get i, fun i K hi hK => hF.loops i K hi hK, fun b hb => hF.fresh b (Nat.le_trans (Nat.le_succ _) hb)⟩
/-- A loop's block is turned. -/
theorem Fill.loop (hF : Fill pl h m) {l : Nat} {p : Pay} (hp : pl l = some p) (st : LoopState) (pend : Option Code) : Fill pl (h.set l (stub st pend)) (m.set l (p.blk st pend)) := by
  refine ⟨hF.next, fun i => ?_, fun i K' hi hK' => ?_, hF.fresh⟩
  · rw [Mem.get_set']
    show _ = (if i = l then some (stub st pend) else h.g i).map _
    by_cases c : i = l
    · subst c; rw [if_pos rfl, if_pos rfl, hp]; rfl
    · rw [if_neg c, if_neg c]; exact hF.get i
  · change (if i = l then some _ else h.g i) = some K' at hi
    by_cases c : i = l
    · subst c; exact ⟨p, hp⟩
    · rw [if_neg c] at hi; exact hF.loops i K' hi hK'
/-- A new loop's block. -/
theorem Fill.newLoop (hF : Fill pl h m) (p : Pay) (st : LoopState) (pend : Option Code) : ∃ pl1, PSub pl pl1 ∧ pl1 h.next = some p ∧ Fill pl1 (h.new (stub st pend)) (m.new (p.blk st pend)) := by
  refine ⟨fun i => if i = h.next then some p else pl i, fun x q hx => ?_, if_pos rfl, ⟨by rw [Mem.next_new, hF.next]; rfl, fun i => ?_, fun i K' hi hK' => ?_, fun b hb => ?_⟩⟩
  · show (if x = h.next then some p else pl x) = _
    by_cases c : x = h.next
    · subst c; rw [hF.fresh _ (Nat.le_refl _)] at hx; cases hx
    · rw [if_neg c]; exact hx
  · rw [Mem.get_new', hF.next]
    show _ = (if i = h.next then some (stub st pend) else h.g i).map (fillB (if i = h.next then some p else pl i))
    by_cases c : i = h.next
    · rw [if_pos c, if_pos c, if_pos c]; rfl
    · rw [if_neg c, if_neg c, if_neg c]; exact hF.get i
  · change (if i = h.next then some (stub st pend) else h.g i) = some K' at hi
    show ∃ q, (if i = h.next then some p else pl i) = some q
    by_cases c : i = h.next
    · exact ⟨p, if_pos c⟩
    · rw [if_neg c] at hi ⊢; exact hF.loops i K' hi hK'
  · show (if b = h.next then some p else pl b) = none
    change h.next + 1 ≤ b at hb
    rw [if_neg (by omega)]; exact hF.fresh b (by omega)
end

/-! ### Options -/
theorem bind_some' {α β : Type} {x : Option α} {f : α → Option β} {r : β} (h : x.bind f = some r) : ∃ a, x = some a ∧ f a = some r := by
  cases x with
  | none => cases h
  | some a => exact ⟨a, rfl, h⟩
theorem bc_some {α : Type} {c : Bool} {x : Option α} {r : α} (h : bc c x none = some r) : c = true ∧ x = some r := by
  cases c with
  | true => exact ⟨rfl, h⟩
  | false => cases h
theorem ckB_some {R : Type} {c : Bool} {x : Option R} {r : R} (h : ckB c x = some r) : c = true ∧ x = some r := bc_some h
theorem ckE_some {R : Type} {a b : Option Blk} {x : Option R} {r : R} (h : ckE a b x = some r) : a = b ∧ x = some r := by
  unfold ckE at h
  split at h
  · exact ⟨‹_›, h⟩
  · cases h
end Go.Proofs.Ytgikimegikelkaa.Ab
