/- The machine told by continuations: regions. -/
import Derived.Test.YtgikimegikelkaaAbDen4
namespace Go.Proofs.Ytgikimegikelkaa.Ab
open Go Go.RowKit
set_option linter.unusedVariables false
set_option linter.unusedSimpArgs false
set_option linter.unusedSectionVars false

/-- What a call does, as the machine of lists and tries tells it. -/
def RunsH (E : Env) (H : Pl → Prop) (c : CallTo) (args : List Value) (h : Hp) (v : Value) (h1 : Hp) : Prop :=
  ∀ pl m, H pl → Fill pl h m → ∃ n m1 pl1, PSub pl pl1 ∧ aRun E n c args m = some (v, m1) ∧ Fill pl1 h1 m1
def TblOK {R : Type} (E : Env) (H : Pl → Prop) (tbl : CallTo → List Value → Hp → (Value → Hp → Option R) → Option R) : Prop :=
  ∀ c args h K r, tbl c args h K = some r → ∃ v h1, K v h1 = some r ∧ RunsH E H c args h v h1
def MonoH (H : Pl → Prop) : Prop := ∀ a b, PSub a b → H a → H b

section
variable {R : Type} {all : List Oper} {T : TS} {o : Oper} {r : R}
theorem guardK_ok {A B : TS → Option R} (hT : T.OK) (hk : guardK all T o A B = some r) :
    ∃ T' : TS, T'.tr = T.tr ∧ T'.OK ∧ T'.marks = T.marks ∧ ((wantedT all T.tr o = some true ∧ A T' = some r) ∨ (wantedT all T.tr o = some false ∧ B T' = some r)) := by
  unfold guardK at hk
  unfold wantedT
  split at hk
  · rename_i hg; rw [hg]; exact ⟨T, rfl, hT, rfl, .inl ⟨rfl, hk⟩⟩
  · rename_i j want hg
    rw [hg]
    simp only
    split at hk
    · rename_i oj hj
      rw [hj]
      simp only
      split at hk
      · rename_i t ht
        rw [ht]
        simp only
        rw [TS.get_tr hT]
        split at hk
        · rename_i b hb
          rw [hb]
          obtain ⟨hl, hk⟩ := bif_t hk
          have hl := Nat.le_of_ble_eq_true hl
          cases want with
          | true =>
            cases b with
            | true => exact ⟨T.put t (.bool true), TS.put_self hT hl hb (by intro h; cases h), hT.put hl _, rfl, .inl ⟨rfl, hk⟩⟩
            | false => exact ⟨T.put t (.bool false), TS.put_self hT hl hb (by intro h; cases h), hT.put hl _, rfl, .inr ⟨rfl, hk⟩⟩
          | false =>
            cases b with
            | true => exact ⟨T.put t (.bool true), TS.put_self hT hl hb (by intro h; cases h), hT.put hl _, rfl, .inr ⟨rfl, hk⟩⟩
            | false => exact ⟨T.put t (.bool false), TS.put_self hT hl hb (by intro h; cases h), hT.put hl _, rfl, .inl ⟨rfl, hk⟩⟩
        · rename_i vs hb
          rw [hb]
          simp only
          split at hk
          · rename_i hv; rw [hv]; exact ⟨T, rfl, hT, rfl, .inr ⟨rfl, hk⟩⟩
          · cases hk
        · cases hk
      · rename_i ht; rw [ht]; exact ⟨T, rfl, hT, rfl, .inr ⟨rfl, hk⟩⟩
    · rename_i hj; rw [hj]; exact ⟨T, rfl, hT, rfl, .inr ⟨rfl, hk⟩⟩
theorem putK_ok {size : Nat} {dst : Option Tmp} {v : Value} {K : TS → Option R} (hT : T.OK) (hk : putK size T dst v K = some r) : ∃ T1 : TS, putT T.tr size dst v = some T1.tr ∧ T1.OK ∧ T1.marks = T.marks ∧ K T1 = some r := by
  unfold putK at hk
  unfold putT
  split at hk
  · exact ⟨T, rfl, hT, rfl, hk⟩
  · rename_i d
    obtain ⟨hc, hk⟩ := bif_t hk
    rw [Bool.and_eq_true] at hc
    refine ⟨T.put d v, ?_, hT.put (Nat.le_of_ble_eq_true hc.2) v, rfl, hk⟩
    simp only [hc.1, hc.2, Bool.and_self, cond_true]; rfl
end

theorem opsK_cons {R : Type} (C : Ctx R) (all : List Oper) (o : Oper) (l : List Oper) (T : TS) (h : Hp) (K : TS → Hp → Option R) : opsK C all (o :: l) T h K = guardK all T o
      (fun T => opK C.E C.hint T h o (fun v => putK C.size T o.dst v fun T1 => opsK C all l T1 h K) (fun _ v => putK C.size T o.dst v fun T1 => opsK C all l T1 h K)
        (fun k mk => putK C.size T o.dst (mk h.next) fun T1 => opsK C all l T1 (h.new k) K) (fun v h1 => putK C.size T o.dst v fun T1 => opsK C all l T1 h1 K)
        (fun c args => C.tbl c args h fun v h1 => putK C.size T o.dst v fun T1 => opsK C all l T1 h1 K))
      (fun T => putK C.size T o.dst (.tuple #[]) fun T1 => opsK C all l T1 h K) := rfl
theorem drawsK_cons {R : Type} (C : Ctx R) (all : List Oper) (base : Nat) (o : Oper) (l : List Oper) (i mask : Nat) (ms : List Nat) (D : DD) (K : DD → Option R) : drawsK C all base (o :: l) i (mask :: ms) D K = guardK all D.T o
        (fun T => drawK C base i o mask { D with T := T } fun D1 => drawsK C all base l (i + 1) ms D1 K)
        (fun T => putK C.size T o.dst (.tuple #[]) fun T1 => drawsK C all base l (i + 1) ms { D with T := T1 } K) := rfl
section
variable {R : Type} {C : Ctx R} {H : Pl → Prop} (hH : MonoH H) (htbl : TblOK C.E H C.tbl)
include hH htbl

theorem opsK_ok {all : List Oper} {r : R} : ∀ (l : List Oper) (T : TS) (h : Hp) (K : TS → Hp → Option R) (pl : Pl) (m : Mem), opsK C all l T h K = some r → T.OK → H pl → Fill pl h m →
    ∃ n T1 h1 m1 pl1, runOps (aRun C.E n) C.E all C.size l T.tr m = some (TS.tr T1, m1) ∧ T1.OK ∧ T1.marks = T.marks ∧ PSub pl pl1 ∧ Fill pl1 h1 m1 ∧ K T1 h1 = some r
  | [], T, h, K, pl, m, hk, hT, hpl, hF => ⟨0, T, h, m, pl, runOps_nil _ _, hT, rfl, PSub.refl _, hF, hk⟩
  | o :: l, T, h, K, pl, m, hk, hT, hpl, hF => by
    rw [opsK_cons] at hk
    obtain ⟨T', e1, hT', hmk, hw⟩ := guardK_ok hT hk
    have hev : ∀ m' : Mem, opEval C.E T.tr m' o = opEvalG C.E (ev T') m' o := fun m' => by rw [← e1, opEval_G, ev_tr hT']
    rcases hw with ⟨hw, hk⟩ | ⟨hw, hk⟩
    · have one : ∀ (n0 : Nat) (v : Value) (h1 : Hp) (m1 : Mem) (pl0 : Pl), PSub pl pl0 → applyR (aRun C.E n0) m (opEval C.E T.tr m o) = some (v, m1) → Fill pl0 h1 m1 → putK C.size T' o.dst v (fun T1 => opsK C all l T1 h1 K) = some r →
          ∃ n T1 h1 m1 pl1, runOps (aRun C.E n) C.E all C.size (o :: l) T.tr m = some (TS.tr T1, m1) ∧ T1.OK ∧ T1.marks = T.marks ∧ PSub pl pl1 ∧ Fill pl1 h1 m1 ∧ K T1 h1 = some r := by
        intro n0 v h1 m1 pl0 hs ha hF1 hp
        obtain ⟨T1, p1, p2, p3, p4⟩ := putK_ok hT' hp
        obtain ⟨n, T2, h2, m2, pl2, q1, q2, q3, q4, q5, q6⟩ := opsK_ok l T1 h1 K pl0 m1 p4 p2 (hH _ _ hs hpl) hF1
        refine ⟨max n0 n, T2, h2, m2, pl2, ?_, q2, by rw [q3, p3, hmk], hs.trans q4, q5, q6⟩
        rw [runOps_cons, hw]
        simp only [applyR_mono (aRun_le (Nat.le_max_left n0 n)) ha]
        rw [← e1, p1]
        exact runOps_mono (aRun_le (Nat.le_max_right n0 n)) _ _ _ _ q1
      rcases opK_ok hF hk with ⟨v, h1, h2⟩ | ⟨b, v, KK, hb, hp, h1, h2, h3⟩ | ⟨k, mk, h1, hp, h2⟩ | ⟨v, h', m', h1, h2, h3⟩ | ⟨c, args, h1, h2⟩
      · exact one 0 v h m pl (PSub.refl _) (by rw [hev, h1]; rfl) hF h2
      · exact one 0 v h m pl (PSub.refl _) (by rw [hev, h1 m rfl]; rfl) hF h2
      · exact one 0 (mk h.next) (h.new k) (m.new k) pl (PSub.refl _) (by rw [hev, h1, ← hF.next]; rfl) (hF.new hp) h2
      · exact one 0 v h' m' pl (PSub.refl _) (by rw [hev, h1]; rfl) h3 h2
      · obtain ⟨v, h', q1, q2⟩ := htbl _ _ _ _ _ h2
        obtain ⟨n0, m1, pl1, q3, q4, q5⟩ := q2 pl m hpl hF
        exact one n0 v h' m1 pl1 q3 (by rw [hev, h1]; exact q4) q5 q1
    · obtain ⟨T1, p1, p2, p3, p4⟩ := putK_ok hT' hk
      obtain ⟨n, T2, h2, m2, pl2, q1, q2, q3, q4, q5, q6⟩ := opsK_ok l T1 h K pl m p4 p2 hpl hF
      refine ⟨n, T2, h2, m2, pl2, ?_, q2, by rw [q3, p3, hmk], q4, q5, q6⟩
      rw [runOps_cons, hw]
      simp only
      rw [← e1, p1]
      exact q1

omit hH htbl
/-! ### Regions that draw -/
def PR (h : Hp) (V : Mem) : Prop := ∀ b K, h.g b = some K → Plain K → V.get b = some K
theorem Fill.pr {pl : Pl} {h : Hp} {m : Mem} (hF : Fill pl h m) : PR h m := fun b K hb hK => hF.plain hb hK
def RR (E : Env) : List (Nat × Nat × Option Blk) → List RRec → Prop
  | [], [] => True
  | a :: l, x :: xs => (x.i = a.1 ∧ x.b = a.2.1 ∧ (∃ K, a.2.2 = some K ∧ Plain K ∧ ∀ m' : Mem, m'.get a.2.1 = some K → opEval E x.T m' x.o = .read a.2.1 x.v) ∧ eqVal x.v x.v = true) ∧ RR E l xs
  | _, _ => False
def WR : List (Nat × Hp) → List (Nat × Mem) → Prop
  | [], [] => True
  | a :: l, x :: xs => (x.1 = a.1 ∧ PR a.2 x.2) ∧ WR l xs
  | _, _ => False
theorem layH_cons (sel : Nat → Bool) (a : ARec) (l : List ARec) (h : Hp) : layH sel (a :: l) h = layH sel l (bif sel a.i then h.set a.id a.k else h) := rfl
theorem lay_fill {pl : Pl} (sel : Nat → Bool) : ∀ (l : List ARec) (h : Hp) (m : Mem), (∀ a ∈ l, Plain a.k) → Fill pl h m → Fill pl (layH sel l h) (layA sel l m)
  | [], h, m, _, hF => hF
  | a :: l, h, m, hp, hF => by
    rw [layH_cons, layA]
    refine lay_fill sel l _ _ (fun x hx => hp x (List.mem_cons_of_mem _ hx)) ?_
    cases sel a.i with
    | true => exact hF.set _ (hp a (List.mem_cons_self ..))
    | false => exact hF
theorem layH_next (sel : Nat → Bool) : ∀ (l : List ARec) (h : Hp), (layH sel l h).next = h.next
  | [], h => rfl
  | a :: l, h => by rw [layH_cons, layH_next sel l]; cases sel a.i <;> rfl
theorem keepA_eq (mask : Nat) : ∀ (l : List ARec), keepA mask l = l.filter (fun a => !has mask a.i)
  | [] => rfl
  | a :: l => by
    show (bif has mask a.i then keepA mask l else a :: keepA mask l) = _
    rw [keepA_eq mask l, List.filter_cons]
    cases has mask a.i <;> rfl
theorem sameRead_of {E : Env} {x : RRec} {K : Blk} {m : Mem} (h : ∀ m' : Mem, m'.get x.b = some K → opEval E x.T m' x.o = .read x.b x.v) (hv : eqVal x.v x.v = true) (hm : m.get x.b = some K) : sameRead E x m = true := by
  unfold sameRead
  rw [h m hm]
  simp only [hv, Bool.and_true]
  exact Nat.beq_refl _
theorem ckR_ok {E : Env} {mask : Nat} {h1 : Hp} {m1 : Mem} {r : R} (hp : PR h1 m1) : ∀ (l : List (Nat × Nat × Option Blk)) (xs : List RRec) (K : Option R), RR E l xs → ckR mask h1 l K = some r → xs.all (fun r => has mask r.i || sameRead E r m1) = true ∧ K = some r
  | [], [], K, _, hk => ⟨rfl, hk⟩
  | a :: l, x :: xs, K, hr, hk => by
    obtain ⟨⟨e1, e2, ⟨KK, e3, e4, e5⟩, e6⟩, hr⟩ := hr
    change (bif has mask a.1 then ckR mask h1 l K else ckE (h1.g a.2.1) a.2.2 (ckR mask h1 l K)) = some r at hk
    rw [List.all_cons, e1]
    cases hm : has mask a.1 with
    | true =>
      rw [hm, cond_true] at hk
      obtain ⟨q1, q2⟩ := ckR_ok hp l xs K hr hk
      exact ⟨by simp only [Bool.true_or, Bool.true_and, q1], q2⟩
    | false =>
      rw [hm, cond_false] at hk
      obtain ⟨c1, hk⟩ := ckE_some hk
      obtain ⟨q1, q2⟩ := ckR_ok hp l xs K hr hk
      refine ⟨?_, q2⟩
      rw [q1, Bool.false_or, Bool.and_true]
      refine sameRead_of (K := KK) (by rw [e2]; exact e5) e6 ?_
      rw [e2]; exact hp _ _ (c1.trans e3) e4
  | [], _ :: _, _, h, _ => h.elim
  | _ :: _, [], _, h, _ => h.elim
theorem ckW_ok {E : Env} {mask b : Nat} {K0 : Blk} {x : RRec} {r : R} (hpl : Plain K0) (hx : ∀ m' : Mem, m'.get x.b = some K0 → opEval E x.T m' x.o = .read x.b x.v) (hv : eqVal x.v x.v = true) (hb : x.b = b) : ∀ (l : List (Nat × Hp)) (ws : List (Nat × Mem)) (K : Option R), WR l ws → ckW mask b (some K0) l K = some r → ws.all (fun w => has mask w.1 || sameRead E x w.2) = true ∧ K = some r
  | [], [], K, _, hk => ⟨rfl, hk⟩
  | a :: l, y :: ws, K, hr, hk => by
    obtain ⟨⟨e1, e2⟩, hr⟩ := hr
    change (bif has mask a.1 then ckW mask b (some K0) l K else ckE (a.2.g b) (some K0) (ckW mask b (some K0) l K)) = some r at hk
    rw [List.all_cons, e1]
    cases hm : has mask a.1 with
    | true =>
      rw [hm, cond_true] at hk
      obtain ⟨q1, q2⟩ := ckW_ok hpl hx hv hb l ws K hr hk
      exact ⟨by simp only [Bool.true_or, Bool.true_and, q1], q2⟩
    | false =>
      rw [hm, cond_false] at hk
      obtain ⟨c1, hk⟩ := ckE_some hk
      obtain ⟨q1, q2⟩ := ckW_ok hpl hx hv hb l ws K hr hk
      refine ⟨?_, q2⟩
      rw [q1, Bool.false_or, Bool.and_true]
      refine sameRead_of (K := K0) hx hv ?_
      rw [hb]; exact e2 _ _ c1 hpl
  | [], _ :: _, _, h, _ => h.elim
  | _ :: _, [], _, h, _ => h.elim
theorem allW_ok {mask : Nat} : ∀ (l : List (Nat × Hp)) (ws : List (Nat × Mem)), WR l ws → allW mask l = true → ws.all (fun w => has mask w.1) = true
  | [], [], _, _ => rfl
  | a :: l, y :: ws, hr, hk => by
    obtain ⟨⟨e1, e2⟩, hr⟩ := hr
    change (has mask a.1 && allW mask l) = true at hk
    rw [Bool.and_eq_true] at hk
    rw [List.all_cons, e1, hk.1, allW_ok l ws hr hk.2]; rfl
  | [], _ :: _, h, _ => h.elim
  | _ :: _, [], h, _ => h.elim

structure RelD (E : Env) (pl : Pl) (D : DD) (s : DS) : Prop where
  ok : D.T.OK
  t : s.T = D.T.tr
  fill : Fill pl D.h s.V
  as : s.as = D.as
  plain : ∀ a ∈ D.as, Plain a.k
  rs : RR E D.rs s.rs
  ws : WR D.ws s.ws

theorem drawWK_ok {i : Nat} {o : Oper} {mask : Nat} {D : DD} {s : DS} {pl pl1 : Pl} {v : Value} {h1 : Hp} {m1 : Mem} {K : DD → Option R} {r : R} {call : CallF} {mr : Mem} {x : OpR} (hr : RelD C.E pl D s) (hs : PSub pl pl1) (hF : Fill pl1 h1 m1) (ha : applyR call mr x = some (v, m1)) (hk : drawWK C i o mask D v h1 K = some r) :
    ∃ D1 s1, drawW call C.E C.size i o mask s mr x = some s1 ∧ RelD C.E pl1 D1 s1 ∧ D1.T.marks = D.T.marks ∧ K D1 = some r := by
  unfold drawWK at hk
  obtain ⟨hc, hk⟩ := bif_t hk
  obtain ⟨q1, hk⟩ := ckR_ok hF.pr D.rs s.rs _ hr.rs hk
  obtain ⟨T1, p1, p2, p3, p4⟩ := putK_ok hr.ok hk
  refine ⟨⟨T1, h1, D.rs, keepA mask D.as, (i, D.h) :: D.ws⟩, ⟨T1.tr, m1, s.rs, s.as.filter (fun a => !has mask a.i), (i, s.V) :: s.ws⟩, ?_, ⟨p2, rfl, hF, ?_, fun a ha => ?_, hr.rs, ⟨⟨rfl, hr.fill.pr⟩, hr.ws⟩⟩, p3, p4⟩
  · unfold drawW
    rw [ha]
    simp only [allW_ok _ _ hr.ws hc, q1, Bool.and_self, cond_true, hr.t, p1]
  · show _ = keepA mask D.as
    rw [keepA_eq, hr.as]
  · change a ∈ keepA mask D.as at ha; rw [keepA_eq] at ha; exact hr.plain a (List.mem_filter.1 ha).1
include hH htbl
theorem drawK_ok {base i : Nat} {o : Oper} {mask : Nat} {D : DD} {s : DS} {pl : Pl} {K : DD → Option R} {r : R} (hpl : H pl) (hr : RelD C.E pl D s) (hk : drawK C base i o mask D K = some r) :
    ∃ n D1 s1 pl1, drawStep (aRun C.E n) C.E C.size base i o mask s = some s1 ∧ PSub pl pl1 ∧ RelD C.E pl1 D1 s1 ∧ D1.T.marks = D.T.marks ∧ K D1 = some r := by
  have hFr := lay_fill (pl := pl) (has mask) D.as D.h s.V hr.plain hr.fill
  have hev : ∀ m' : Mem, opEval C.E s.T m' o = opEvalG C.E (ev D.T) m' o := fun m' => by rw [hr.t, opEval_G, ev_tr hr.ok]
  unfold drawK at hk
  rcases opK_ok hFr hk with ⟨v, h1, h2⟩ | ⟨b, v, KK, hb, hp, h1, h2, h3⟩ | ⟨k, mk, h1, hp, h2⟩ | ⟨v, h', m', h1, h2, h3⟩ | ⟨c, args, h1, h2⟩
  · obtain ⟨T1, p1, p2, p3, p4⟩ := putK_ok hr.ok h2
    refine ⟨0, ⟨T1, D.h, D.rs, D.as, D.ws⟩, ⟨T1.tr, s.V, s.rs, s.as, s.ws⟩, pl, ?_, PSub.refl _, ⟨p2, rfl, hr.fill, hr.as, hr.plain, hr.rs, hr.ws⟩, p3, p4⟩
    unfold drawStep
    simp only [hr.as, hev, h1]
    rw [hr.t, p1]
  · obtain ⟨hbase, h2⟩ := ckB_some h2
    have hv : eqVal v v = true := h3 (fun _ => rfl)
    have hread : ∀ m' : Mem, m'.get b = some KK → opEval C.E s.T m' o = .read b v := fun m' hm' => by
      rw [hev]; exact h1 m' (hm'.trans (hFr.plain hb hp).symm)
    rw [hb] at h2
    obtain ⟨q1, h2⟩ := ckW_ok (K0 := KK) (x := ⟨i, o, s.T, b, v⟩) hp hread hv rfl D.ws s.ws _ hr.ws h2
    obtain ⟨T1, p1, p2, p3, p4⟩ := putK_ok hr.ok h2
    refine ⟨0, ⟨T1, D.h, (i, b, some KK) :: D.rs, D.as, D.ws⟩, ⟨T1.tr, s.V, ⟨i, o, s.T, b, v⟩ :: s.rs, s.as, s.ws⟩, pl, ?_, PSub.refl _, ⟨p2, rfl, hr.fill, hr.as, hr.plain, ⟨⟨rfl, rfl, ⟨KK, rfl, hp, hread⟩, hv⟩, hr.rs⟩, hr.ws⟩, p3, p4⟩
    unfold drawStep
    simp only [hr.as, hev, h1 _ rfl, hbase, Bool.true_and]
    rw [q1, cond_true, hr.t, p1]
  · obtain ⟨T1, p1, p2, p3, p4⟩ := putK_ok hr.ok h2
    refine ⟨0, ⟨T1, D.h.bump, D.rs, ⟨i, D.h.next, k⟩ :: D.as, D.ws⟩, ⟨T1.tr, ⟨s.V.t, s.V.next + 1⟩, s.rs, ⟨i, s.V.next, k⟩ :: s.as, s.ws⟩, pl, ?_, PSub.refl _, ⟨p2, rfl, hr.fill.bump, by rw [hr.as, hr.fill.next], fun a ha => ?_, hr.rs, hr.ws⟩, p3, p4⟩
    · unfold drawStep
      simp only [hev, hr.as, h1]
      rw [hr.fill.next, hr.t, p1]
    · rcases List.mem_cons.1 ha with rfl | ha
      · exact hp
      · exact hr.plain a ha
  · obtain ⟨D1, s1, p1, p2, p3, p4⟩ := drawWK_ok (call := aRun C.E 0) (mr := layA (has mask) D.as s.V) (x := .write v m') hr (PSub.refl _) h3 rfl h2
    refine ⟨0, D1, s1, pl, ?_, PSub.refl _, p2, p3, p4⟩
    unfold drawStep
    simp only [hev, hr.as, h1]
    exact p1
  · obtain ⟨v, h', q1, q2⟩ := htbl _ _ _ _ _ h2
    obtain ⟨n0, m1, pl1, q3, q4, q5⟩ := q2 pl _ hpl hFr
    obtain ⟨D1, s1, p1, p2, p3, p4⟩ := drawWK_ok (call := aRun C.E n0) (mr := layA (has mask) D.as s.V) (x := .call c args) hr q3 q5 q4 q1
    refine ⟨n0, D1, s1, pl1, ?_, q3, p2, p3, p4⟩
    unfold drawStep
    simp only [hev, hr.as, h1]
    exact p1
theorem drawsK_ok {all : List Oper} {base : Nat} {r : R} : ∀ (l : List Oper) (i : Nat) (ms : List Nat) (D : DD) (s : DS) (K : DD → Option R) (pl : Pl), drawsK C all base l i ms D K = some r → H pl → RelD C.E pl D s →
    ∃ n D1 s1 pl1, runDraw (aRun C.E n) C.E all C.size base i l ms s = some s1 ∧ PSub pl pl1 ∧ RelD C.E pl1 D1 s1 ∧ D1.T.marks = D.T.marks ∧ K D1 = some r
  | [], i, ms, D, s, K, pl, hk, hpl, hr => ⟨0, D, s, pl, by simp only [runDraw], PSub.refl _, hr, rfl, hk⟩
  | o :: l, i, [], D, s, K, pl, hk, hpl, hr => by cases hk
  | o :: l, i, mask :: ms, D, s, K, pl, hk, hpl, hr => by
    rw [drawsK_cons] at hk
    obtain ⟨T', e1, hT', hmk, hw⟩ := guardK_ok hr.ok hk
    rcases hw with ⟨hw, hk⟩ | ⟨hw, hk⟩
    · have hr' : RelD C.E pl { D with T := T' } s := ⟨hT', by rw [hr.t]; exact e1.symm, hr.fill, hr.as, hr.plain, hr.rs, hr.ws⟩
      obtain ⟨n0, D1, s1, pl1, p1, p2, p3, p4, p5⟩ := drawK_ok hH htbl hpl hr' hk
      obtain ⟨n, D2, s2, pl2, q1, q2, q3, q4, q5⟩ := drawsK_ok l (i + 1) ms D1 s1 K pl1 p5 (hH _ _ p2 hpl) p3
      refine ⟨max n0 n, D2, s2, pl2, ?_, p2.trans q2, q3, by rw [q4, p4, ← hmk], q5⟩
      simp only [runDraw]
      rw [hr.t, hw]
      simp only
      rw [drawStep_mono (aRun_le (Nat.le_max_left n0 n)) p1]
      exact runDraw_mono (aRun_le (Nat.le_max_right n0 n)) _ _ _ _ _ q1
    · obtain ⟨T1, p1, p2, p3, p4⟩ := putK_ok hT' hk
      have hr' : RelD C.E pl { D with T := T1 } { s with T := T1.tr } := ⟨p2, rfl, hr.fill, hr.as, hr.plain, hr.rs, hr.ws⟩
      obtain ⟨n, D2, s2, pl2, q1, q2, q3, q4, q5⟩ := drawsK_ok l (i + 1) ms _ _ K pl p4 hpl hr'
      refine ⟨n, D2, s2, pl2, ?_, q2, q3, by rw [q4]; show T1.marks = _; rw [p3, hmk], q5⟩
      simp only [runDraw]
      rw [hr.t, hw]
      simp only
      rw [← e1, p1]
      exact q1

theorem regionK_ok {ops : List Oper} {draw : Bool} {T : TS} {h : Hp} {K : TS → Hp → Option R} {pl : Pl} {m : Mem} {r : R} (hk : regionK C ops draw T h K = some r) (hT : T.OK) (hpl : H pl) (hF : Fill pl h m) :
    ∃ n T1 h1 m1 pl1, runRegion (aRun C.E n) C.E C.size ops draw T.tr m = some (TS.tr T1, m1) ∧ T1.OK ∧ T1.marks = T.marks ∧ PSub pl pl1 ∧ Fill pl1 h1 m1 ∧ K T1 h1 = some r := by
  unfold regionK at hk
  cases draw with
  | false =>
    rw [cond_false] at hk
    obtain ⟨n, T1, h1, m1, pl1, q⟩ := opsK_ok hH htbl ops T h K pl m hk hT hpl hF
    exact ⟨n, T1, h1, m1, pl1, by unfold runRegion; rw [cond_false]; exact q.1, q.2⟩
  | true =>
    rw [cond_true] at hk
    obtain ⟨hc, hk⟩ := bif_t hk
    have h0 : RelD C.E pl ⟨T, h, [], [], []⟩ ⟨T.tr, m, [], [], []⟩ := ⟨hT, rfl, hF, rfl, fun a ha => by simp at ha, trivial, trivial⟩
    obtain ⟨n, D1, s1, pl1, q1, q2, q3, q4, q5⟩ := drawsK_ok hH htbl ops 0 (masksOf ops) _ _ _ pl hk hpl h0
    refine ⟨n, D1.T, layH (fun _ => true) D1.as D1.h, layA (fun _ => true) s1.as s1.V, pl1, ?_, q3.ok, q4, q2, ?_, q5⟩
    · unfold runRegion
      rw [cond_true, hc, cond_true, hF.next, q1]
      simp only [q3.t]
    · rw [q3.as]; exact lay_fill (fun _ => true) D1.as D1.h s1.V q3.plain q3.fill
end
end Go.Proofs.Ytgikimegikelkaa.Ab
