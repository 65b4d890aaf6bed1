/- The machine told by continuations: one operation does what the machine of lists and tries does (each of them). -/
import Derived.Test.YtgikimegikelkaaAbDen3
namespace Go.Proofs.Ytgikimegikelkaa.Ab
open Go Go.RowKit
set_option linter.unusedVariables false
set_option linter.unusedSimpArgs false
set_option linter.unusedSectionVars false

inductive OpS {R : Type} (E : Env) (e : Operand → Value) (nohint : Prop) (pl : Pl) (h : Hp) (m : Mem) (o : Oper) (KV : Value → Option R) (KR : Nat → Value → Option R) (KA : Blk → (Nat → Value) → Option R) (KW : Value → Hp → Option R) (KC : CallTo → List Value → Option R) (r : R) : Prop
  | V (v : Value) (h1 : opEvalG E e m o = .val v) (h2 : KV v = some r)
  | R (b : Nat) (v : Value) (K : Blk) (hb : h.g b = some K) (hp : Plain K) (h1 : ∀ m' : Mem, m'.get b = m.get b → opEvalG E e m' o = .read b v) (h2 : KR b v = some r) (h3 : nohint → eqVal v v = true)
  | A (k : Blk) (mk : Nat → Value) (h1 : opEvalG E e m o = .alloc k mk) (hp : Plain k) (h2 : KA k mk = some r)
  | W (v : Value) (h' : Hp) (m' : Mem) (h1 : opEvalG E e m o = .write v m') (h2 : KW v h' = some r) (h3 : Fill pl h' m')
  | C (c : CallTo) (args : List Value) (h1 : opEvalG E e m o = .call c args) (h2 : KC c args = some r)

section
variable {E : Env} {R : Type} {pl : Pl} {h : Hp} {m : Mem}
theorem wr_ok (hF : Fill pl h m) {b o : Nat} {vs : List Value} {h1 : Hp} (hw : wr h b o vs = some h1) : ∃ sz cs r, m.get b = some (.row sz cs) ∧ putN cs o vs = some r ∧ Fill pl h1 (m.set b (.row sz r)) := by
  unfold wr at hw
  split at hw
  · rename_i sz cs hg
    split at hw
    · rename_i r hp
      cases hw
      exact ⟨sz, cs, r, hF.row hg, hp, hF.set _ trivial⟩
    · cases hw
  · cases hw
theorem srcH_ok (hF : Fill pl h m) {src : Option Addr} {k : Nat} {l : List Value} (hs : srcH h src k = some l) : srcCells m src k = some l := by
  unfold srcH at hs
  unfold srcCells
  split at hs
  · split at hs
    · rename_i sz cs hg
      simp only [readN, hF.row hg]; exact hs
    · rename_i f hg
      simp only [readN, hF.plain hg trivial]; exact hs
    · cases hs
  · exact hs
  · cases hs
theorem app_ok (hF : Fill pl h m) {t t2 size bytes e : Nat} {zs : List Value} {x : Nat × Nat × Nat × List Value} (ht : sliceElem E t = some (e, size, bytes, zs)) (ht2 : sliceElem E t2 = some x) (hbytes : Nat.ble bytes 1048576 = true)
    {base src : Option Addr} {len cap n c2 : Nat} {p : Sl × Hp} (ha : appS h size base len cap src n = some p) :
    ∃ m1, opAppend E m [t, t2] [.slice base len cap, .slice src n c2] = some (.slice p.1.a p.1.n p.1.c, m1) ∧ Fill pl p.2 m1 := by
  unfold appS at ha
  unfold opAppend
  simp only [ht, ht2]
  split at ha
  · rename_i new hs
    simp only [srcH_ok hF hs]
    cases hc : Nat.ble (len + n) cap with
    | true =>
      rw [hc, cond_true] at ha
      rw [cond_true]
      split at ha
      · rename_i b o
        split at ha
        · rename_i sz cs hg
          simp only [hF.row hg]
          split at ha
          · rename_i r hp
            cases ha
            exact ⟨_, by simp only [hp], hF.set _ trivial⟩
          · cases ha
        · cases ha
      · obtain ⟨hn, ha⟩ := bif_t ha
        cases ha
        exact ⟨m, by simp only [hn, cond_true], hF⟩
      · cases ha
    | false =>
      rw [hc, cond_false] at ha
      rw [cond_false]
      obtain ⟨hn, ha⟩ := bif_t ha
      rw [Bool.and_eq_true] at hn
      rw [hn.1, hn.2, hbytes]
      simp only [Bool.and_self, cond_true]
      split at ha
      · rename_i b o
        split at ha
        · rename_i sz cs hg
          simp only [hF.row hg]
          split at ha
          · rename_i old ho
            obtain ⟨hq, ha⟩ := bif_t ha
            cases ha
            refine ⟨_, by simp only [ho, hq, cond_true, hF.next], Fill.new (K := .row size (old ++ new)) (Fill.set hF _ (K := .dead) trivial) trivial⟩
          · cases ha
        · cases ha
      · obtain ⟨hq, ha⟩ := bif_t ha
        cases ha
        exact ⟨_, by simp only [hq, cond_true, hF.next], hF.new trivial⟩
      · cases ha
  · cases ha
theorem copy_ok (hF : Fill pl h m) {t size bytes e : Nat} {zs : List Value} {ts : List Nat} (ht : sliceElem E t = some (e, size, bytes, zs)) {dst src : Option Addr} {dl sl c1 c2 : Nat} {p : Nat × Hp} (ha : copyS h size dst dl src sl = some p) :
    ∃ m1, opCopy E m (t :: ts) [.slice dst dl c1, .slice src sl c2] = some (.int .i64 p.1, m1) ∧ Fill pl p.2 m1 := by
  unfold copyS at ha
  unfold opCopy
  simp only [ht]
  split at ha
  · rename_i new hs
    simp only [srcH_ok hF hs]
    split at ha
    · rename_i b o
      split at ha
      · rename_i sz cs hg
        simp only [hF.row hg]
        split at ha
        · rename_i r hp
          cases ha
          exact ⟨_, by simp only [hp], hF.set _ trivial⟩
        · cases ha
      · cases ha
    · cases ha; exact ⟨m, rfl, hF⟩
    · cases ha
  · cases ha
theorem clr_ok (hF : Fill pl h m) {t size bytes e : Nat} {zs : List Value} (ht : sliceElem E t = some (e, size, bytes, zs)) {base : Option Addr} {n c1 : Nat} {h1 : Hp} (ha : clrS h zs base n = some h1) :
    ∃ m1, opClear E m [t] [.slice base n c1] = some (.tuple #[], m1) ∧ Fill pl h1 m1 := by
  unfold clrS at ha
  unfold opClear
  simp only [ht]
  cases hc : Nat.beq n 0 with
  | true => rw [hc, cond_true] at ha; cases ha; exact ⟨m, by rw [cond_true], hF⟩
  | false =>
    rw [hc, cond_false] at ha
    rw [cond_false]
    split at ha
    · rename_i b o
      split at ha
      · rename_i sz cs hg
        simp only [hF.row hg]
        split at ha
        · rename_i r hp
          cases ha
          exact ⟨_, by simp only [hp], hF.set _ trivial⟩
        · cases ha
      · cases ha
    · cases ha; exact ⟨m, rfl, hF⟩
    · cases ha
theorem mput_ok (hF : Fill pl h m) {t b kt et : Nat} {i : TypeInfo} {k v : Value} (ht : E.info t = some (.map kt et, i)) (hkey : keyOk E kt k = true) {h1 : Hp} (ha : mput h b k v = some h1) :
    ∃ m1, opMapUpdate E m t (.map (some b)) k v = some m1 ∧ Fill pl h1 m1 := by
  unfold mput at ha
  unfold opMapUpdate
  rw [ht]
  simp only
  split at ha
  · rename_i es clock hg
    rw [hF.map hg]
    simp only [hkey, cond_true]
    split at ha
    · rename_i ix v0 hf
      cases ha
      exact ⟨_, by simp only [hf], hF.set _ trivial⟩
    · rename_i hf
      cases ha
      exact ⟨_, by simp only [hf], hF.set _ trivial⟩
    · cases ha
  · cases ha
theorem mgI_ok {b t kt et : Nat} {i ei : TypeInfo} {ed : TypeDesc} {key : Value} {ki : IntKind} {z : Int} {p : Int × Bool} {ok : Bool} (ht : E.info t = some (.map kt et, i)) (het : E.info et = some (ed, ei)) (hz : ei.zero = some (.int ki z)) (hkey : keyOk E kt key = true) (hg : mgI h b key ki z = some p) :
    ∃ es c, h.g b = some (.map es c) ∧ ∀ m : Mem, m.get b = some (.map es c) → opLookup E m t (.map (some b)) key ok = some (b, bif ok then .tuple #[.int ki p.1, .bool p.2] else .int ki p.1) := by
  unfold mgI at hg
  split at hg
  · rename_i es c hb
    refine ⟨es, c, hb, fun m hm => ?_⟩
    unfold opLookup
    rw [ht]
    simp only
    rw [hm, het]
    simp only [hkey, cond_true, hz]
    split at hg
    · rename_i ix k' x hf
      obtain ⟨hk, hg⟩ := bif_t hg
      cases hg
      obtain rfl := sameKind_refl hk
      simp only [hf]
    · rename_i hf
      cases hg
      simp only [hf]
    · cases hg
  · cases hg
theorem mgB_ok {b t kt et : Nat} {i ei : TypeInfo} {ed : TypeDesc} {key : Value} {z : Bool} {p : Bool × Bool} {ok : Bool} (ht : E.info t = some (.map kt et, i)) (het : E.info et = some (ed, ei)) (hz : ei.zero = some (.bool z)) (hkey : keyOk E kt key = true) (hg : mgB h b key z = some p) :
    ∃ es c, h.g b = some (.map es c) ∧ ∀ m : Mem, m.get b = some (.map es c) → opLookup E m t (.map (some b)) key ok = some (b, bif ok then .tuple #[.bool p.1, .bool p.2] else .bool p.1) := by
  unfold mgB at hg
  split at hg
  · rename_i es c hb
    refine ⟨es, c, hb, fun m hm => ?_⟩
    unfold opLookup
    rw [ht]
    simp only
    rw [hm, het]
    simp only [hkey, cond_true, hz]
    split at hg
    · rename_i ix x hf
      cases hg
      simp only [hf]
    · rename_i hf
      cases hg
      simp only [hf]
    · cases hg
  · cases hg
theorem sameKind_self {k k' : IntKind} (h : sameKind k k' = true) : sameKind k k = true := by have := sameKind_refl h; subst this; exact h

theorem sl_eq {t : Nat} {x : Value} {lo hi : Option Operand} {e : Operand → Value} {size el bytes : Nat} {zs : List Value} {a : Option Addr} {len cap : Nat} {l u : Int} {s : Sl} (ht : sliceElem E t = some (el, size, bytes, zs))
    (hl : (match lo with | none => some 0 | some l => intV (e l)) = some l) (hu : (match hi with | none => some (len : Int) | some u => intV (e u)) = some u) (hs : slA a cap size l u = some s) :
    opSlice E t (.slice a len cap) (lo.map e) (hi.map e) none = some (.slice s.a s.n s.c) := by
  unfold slA at hs
  obtain ⟨hc, hs⟩ := bif_t hs
  simp only [Bool.and_eq_true, decide_eq_true_eq] at hc
  obtain ⟨⟨h0, h1⟩, h2⟩ := hc
  have e1 : natOf (lo.map e) 0 = some l.toNat := by
    cases lo with
    | none => cases hl; rfl
    | some x =>
      simp only [intV] at hl
      simp only [Option.map_some, natOf]
      split at hl
      · rename_i n hx; rw [hx]; cases hl; simp [h0]
      · cases hl
  have e2 : natOf (hi.map e) len = some u.toNat := by
    cases hi with
    | none => cases hu; simp [natOf]
    | some x =>
      simp only [intV] at hu
      simp only [Option.map_some, natOf]
      split at hu
      · rename_i n hx; rw [hx]; cases hu
        have : (0 : Int) ≤ u := by omega
        simp [this]
      · cases hu
  unfold opSlice
  simp only [ht, e1, e2]
  have c1 : Nat.ble l.toNat u.toNat = true := Nat.ble_eq_true_of_le (by omega)
  have c2 : Nat.ble u.toNat cap = true := Nat.ble_eq_true_of_le (by omega)
  rw [c1, c2]
  simp only [Bool.and_self, cond_true]
  split at hs
  · cases hs; rfl
  · cases hs; rfl
  · cases hs
theorem ix_eq {t e len c : Nat} {i ei : TypeInfo} {d : TypeDesc} {a : Option Addr} {k : IntKind} {x : Int} {p : Nat × Nat} (ht : E.info t = some (.slice e, i)) (he : E.info e = some (d, ei)) (hp : ixA a len ei.size x = some p) :
    opIndexAddr E t (.slice a len c) (.int k x) = some (.pointer (some ⟨p.1, p.2, none⟩)) := by
  unfold ixA at hp
  split at hp
  · obtain ⟨hc, hp⟩ := bif_t hp
    cases hp
    unfold opIndexAddr
    simp only [ht, hc, cond_true, he]
  · cases hp

theorem eqAll_ok : ∀ (l r : List Value) (b : Bool), eqAll l r = some b → eqFlats l r = some b
  | [], [], b, h => h
  | [], _ :: _, b, h => by simp [eqAll] at h
  | x :: l, [], b, h => by cases x <;> simp [eqAll] at h
  | x :: l, y :: r, b, h => by
    cases x with
    | int k a =>
      cases y with
      | int k' c =>
        simp only [eqAll] at h
        obtain ⟨hs, h⟩ := bif_t h
        split at h
        · rename_i d hd
          cases h
          have ih := eqAll_ok l r d hd
          unfold eqFlats
          simp only [eqFlat, hs, cond_true]
          cases hc : (a == c) with
          | true => simp only [ih, Bool.true_and]
          | false => simp only [ih, Bool.false_and]
        · cases h
      | _ => simp [eqAll] at h
    | _ => simp [eqAll] at h
theorem eqB_ok {t : Nat} {x y : Value} {b : Bool} (h : eqB E t x y = some b) : binV E .eql t x y = some (.bool b) ∧ binV E .neq t x y = some (.bool (!b)) := by
  unfold eqB at h
  split at h
  · rename_i a n c n' c'
    split at h
    · rename_i e i ht
      cases h
      have : eqIs E t (.slice a n c) (.slice none n' c') = some a.isNone := by cases a <;> rfl
      simp only [binV, ht, okEq, cond_true, this]
      exact ⟨trivial, trivial⟩
    · cases h
  · rename_i xs ys
    split at h
    · rename_i fs i ht
      obtain ⟨hc, h⟩ := bif_t h
      have : eqIs E t (.agg xs) (.agg ys) = some b := by
        show eqStruct E t xs ys = some b
        unfold eqStruct
        simp only [ht, hc, cond_true, eqAll_ok _ _ _ h]
      simp only [binV, ht, okEq, cond_true, this]
      exact ⟨trivial, trivial⟩
    · cases h
  · split at h
    · rename_i b' hb
      cases h
      refine ⟨hb, ?_⟩
      cases x <;> cases y
      all_goals first
        | (simp only [binV] at hb ⊢
           obtain ⟨hs, hb⟩ := bif_t hb
           rw [hs, cond_true]
           simp only [arith, Option.some.injEq, Value.bool.injEq] at hb ⊢
           rw [← hb]; rfl)
        | (simp only [binV] at hb ⊢
           split at hb
           · rename_i d i ht
             obtain ⟨hs, hb⟩ := bif_t hb
             split at hb
             · rename_i c hc
               cases hb
               simp only [hs, cond_true, hc]
             · cases hb
           · cases hb)
    · cases h

theorem opK_ok {hint : Nat → Option (Nat × List Ck)} {T : TS} {o : Oper} {KV : Value → Option R} {KR : Nat → Value → Option R} {KA : Blk → (Nat → Value) → Option R} {KW : Value → Hp → Option R} {KC : CallTo → List Value → Option R} {r : R}
    (hF : Fill pl h m) (hk : opK E hint T h o KV KR KA KW KC = some r) : OpS E (ev T) (∀ d, hint d = none) pl h m o KV KR KA KW KC r := by
  unfold opK at hk
  cases hd : direct o.op with
  | true =>
    rw [hd, cond_true, direct_ok (m := m) hd] at hk
    split at hk
    · rename_i v hv; exact .V v hv hk
    · rename_i k mk hv; exact .A k mk hv (alloc_plain hv) hk
    · cases hk
  | false =>
    rw [hd, cond_false] at hk
    obtain ⟨dst, op, ty, pos, after, guard⟩ := o
    cases op with
    | makeFunc fn first cap =>
      simp only at hk
      split at hk
      · rename_i f
        refine .V _ ?_ hk
        simp only [opEvalG]
        congr 2
        · apply Array.ext'; simp
        · apply Array.ext'; simp
      · cases hk
    | pick c a b =>
      simp only at hk
      split at hk
      · rename_i t ht
        cases t with
        | true => exact .V (ev T a) (by simp only [opEvalG, ht, cond_true]) hk
        | false => exact .V (ev T b) (by simp only [opEvalG, ht, cond_false]) hk
      · cases hk
    | load t a =>
      simp only at hk
      split at hk
      · rename_i b off ha
        obtain ⟨v, KK, h1, hp, h2, h3, h4⟩ := loadK_ok hk
        refine .R b v KK h1 hp (fun m' hm' => ?_) h3 (fun hn => h4 ?_)
        · simp only [opEvalG, opLoad, ha, h2 m' (hm'.trans (hF.plain h1 hp))]; rfl
        · cases dst with
          | none => rfl
          | some d => exact hn d
      · cases hk
    | store t a x =>
      simp only at hk
      split at hk
      · rename_i b off d i ha ht
        obtain ⟨hc, hk⟩ := bif_t hk
        obtain ⟨h1, hw, hk⟩ := bind_some' hk
        obtain ⟨sz, cs, r', h2, h3, h4⟩ := wr_ok hF hw
        refine .W (.tuple #[]) h1 _ ?_ hk h4
        simp only [opEvalG, opStore, ha, storeV, ht, hc, cond_true, h2, h3]; rfl
      · cases hk
    | binOp op t x y yt =>
      have heq : ∀ b, (op = .eql ∧ eqB E t (ev T x) (ev T y) = some b ∧ KV (.bool b) = some r) ∨ (op = .neq ∧ eqB E t (ev T x) (ev T y) = some b ∧ KV (.bool (!b)) = some r) → OpS E (ev T) (∀ d, hint d = none) pl h m ⟨dst, .binOp op t x y yt, ty, pos, after, guard⟩ KV KR KA KW KC r := by
        rintro b (⟨rfl, h1, h2⟩ | ⟨rfl, h1, h2⟩)
        · exact .V _ (by simp only [opEvalG, (eqB_ok h1).1]; rfl) h2
        · exact .V _ (by simp only [opEvalG, (eqB_ok h1).2]; rfl) h2
      by_cases he : op = .eql
      · subst he
        simp only at hk
        split at hk
        · rename_i b hb; exact heq b (.inl ⟨rfl, hb, hk⟩)
        · cases hk
      by_cases hne : op = .neq
      · subst hne
        simp only at hk
        split at hk
        · rename_i b hb; exact heq b (.inr ⟨rfl, hb, hk⟩)
        · cases hk
      replace hk : (match ev T x, ev T y with
    | .int k a, .int k' b => bif sameKind k k' then ckB (!(b == 0)) (match op with
        | .quo => KV (.int k (k.wrap (a.tdiv b)))
        | .rem => KV (.int k (a.tmod b))
        | _ => none) else none
    | _, _ => none) = some r := by
        cases op <;> first | exact absurd rfl he | exact absurd rfl hne | exact hk
      simp only at hk
      split at hk
      · rename_i k a k' b ha hb
        obtain ⟨hs, hk⟩ := bif_t hk
        obtain ⟨hz, hk⟩ := ckB_some hk
        have hz' : (b == 0) = false := by simpa using hz
        cases op <;> (simp only at hk; try cases hk)
        all_goals refine .V _ ?_ hk
        all_goals simp only [opEvalG, ha, hb, binV, hs, cond_true, arith, hz', cond_false]; rfl
      · cases hk
    | indexAddr t x ix =>
      simp only at hk
      split at hk
      · rename_i e i a len c k n ht hx hi
        split at hk
        · rename_i d ei he
          obtain ⟨p, hp, hk⟩ := bind_some' hk
          refine .V _ ?_ hk
          simp only [opEvalG, hx, hi, ix_eq ht he hp]; rfl
        · cases hk
      · rename_i n e i b off k x' ht hx hi
        split at hk
        · rename_i d ei he
          obtain ⟨hc, hk⟩ := ckB_some hk
          refine .V _ ?_ hk
          simp only [opEvalG, hx, hi, opIndexAddr, ht, hc, cond_true, he]; rfl
        · cases hk
      · cases hk
    | slice t x lo hi mx =>
      cases mx with
      | some y => simp only at hk; cases hk
      | none =>
        simp only at hk
        split at hk
        · rename_i el size bytes zs a len cap ht hx
          split at hk
          · rename_i l u hl hu
            obtain ⟨s, hs, hk⟩ := bind_some' hk
            refine .V _ ?_ hk
            have e := sl_eq (lo := lo) (hi := hi) (e := ev T) (x := ev T x) ht hl hu hs
            simp only [opEvalG, hx, Option.map_none]
            rw [e]; rfl
          · cases hk
        · cases hk
    | lookup t x k ok =>
      simp only at hk
      split at hk
      · rename_i kt et i b ht hx
        split at hk
        · rename_i ed ei het
          obtain ⟨hkey, hk⟩ := bif_t hk
          split at hk
          · rename_i ki z hz
            obtain ⟨hsk, hk⟩ := bif_t hk
            obtain ⟨p, hp, hk⟩ := bind_some' hk
            obtain ⟨es, c, h1, h2⟩ := mgI_ok (ok := ok) ht het hz hkey hp
            refine .R b _ (.map es c) h1 trivial (fun m' hm' => ?_) hk (fun _ => ?_)
            · simp only [opEvalG, hx, h2 m' (hm'.trans (hF.map h1))]; rfl
            · obtain ⟨p1, p2⟩ := p
              cases ok <;> simp [eqVal, eqCells, eqCell, hsk]
          · rename_i z hz
            obtain ⟨p, hp, hk⟩ := bind_some' hk
            obtain ⟨es, c, h1, h2⟩ := mgB_ok (ok := ok) ht het hz hkey hp
            refine .R b _ (.map es c) h1 trivial (fun m' hm' => ?_) hk (fun _ => ?_)
            · simp only [opEvalG, hx, h2 m' (hm'.trans (hF.map h1))]; rfl
            · obtain ⟨p1, p2⟩ := p
              cases ok <;> simp [eqVal, eqCells, eqCell]
          · cases hk
        · cases hk
      · cases hk
    | mapUpdate t x k v =>
      simp only at hk
      split at hk
      · rename_i kt et i b ht hx
        obtain ⟨hkey, hk⟩ := bif_t hk
        obtain ⟨h1, hw, hk⟩ := bind_some' hk
        obtain ⟨m1, h2, h3⟩ := mput_ok hF ht hkey hw
        refine .W (.tuple #[]) h1 m1 ?_ hk h3
        simp only [opEvalG, hx, h2]; rfl
      · cases hk
    | insert t x k v =>
      simp only at hk
      split at hk
      · rename_i kt et i b ht hx
        obtain ⟨hkey, hk⟩ := bif_t hk
        obtain ⟨h1, hw, hk⟩ := bind_some' hk
        obtain ⟨m1, h2, h3⟩ := mput_ok hF ht hkey hw
        refine .W (.tuple #[]) h1 m1 ?_ hk h3
        simp only [opEvalG, hx, h2]; rfl
      · cases hk
    | makeSlice t l c =>
      simp only at hk
      split at hk
      · rename_i el size bytes zs kl l' kc c' ht hl hc
        obtain ⟨hb, hk⟩ := bif_t hk
        obtain ⟨hq, hk⟩ := ckB_some hk
        refine .A (.row size (repl zs c'.toNat)) (fun b => .slice (some ⟨b, 0, none⟩) l'.toNat c'.toNat) ?_ trivial hk
        simp only [opEvalG, hl, hc, opMakeSlice, ht, hq, hb, Bool.and_self, cond_true]; rfl
      · cases hk
    | call c =>
      obtain ⟨callee, args, argTypes⟩ := c
      cases callee with
      | value f =>
        simp only at hk
        split at hk
        · rename_i fn first cap hf
          split at hk
          · refine .C _ _ ?_ hk
            simp only [opEvalG, hf]; rfl
          · refine .C _ _ ?_ hk
            simp only [opEvalG, hf]; rfl
          · cases hk
        · cases hk
      | invoke r m => simp only at hk; cases hk
      | builtin b =>
        simp only at hk
        split at hk
        · rename_i t a n c hts hargs
          split at hk
          · rename_i e i ht
            refine .V _ ?_ hk
            simp only [opEvalG, hts, hargs, opBuiltin, ht]
          · cases hk
        · rename_i t b hts hargs
          split at hk
          · rename_i kt et i ht
            obtain ⟨n, hn, hk⟩ := bind_some' hk
            unfold mlen at hn
            split at hn
            · rename_i es c hg
              cases hn
              refine .R b _ (.map es c) hg trivial (fun m' hm' => ?_) hk (fun _ => by simp [eqVal, eqCell, sameKind])
              simp only [opEvalG, hts, hargs, opBuiltin, ht, hm'.trans (hF.map hg)]
            · cases hn
          · cases hk
        · rename_i ts k a l hargs
          split at hk
          · rename_i n hn
            refine .V _ ?_ hk
            simp only [opEvalG, hargs, opBuiltin, hn]
          · cases hk
        · rename_i ts k a l hargs
          split at hk
          · rename_i n hn
            refine .V _ ?_ hk
            simp only [opEvalG, hargs, opBuiltin, hn]
          · cases hk
        · rename_i t t2 base len cap src n c2 hts hargs
          split at hk
          · rename_i e size bytes zs x ht ht2
            obtain ⟨hb, hk⟩ := bif_t hk
            obtain ⟨p, hp, hk⟩ := bind_some' hk
            obtain ⟨m1, h1, h2⟩ := app_ok (c2 := c2) hF ht ht2 hb hp
            refine .W _ p.2 m1 ?_ hk h2
            simp only [opEvalG, hts, hargs, opBuiltin, h1]; rfl
          · cases hk
        · rename_i t ts dst dl c1 src sl c2 hts hargs
          split at hk
          · rename_i e size bytes zs ht
            obtain ⟨p, hp, hk⟩ := bind_some' hk
            obtain ⟨m1, h1, h2⟩ := copy_ok (ts := ts) (c1 := c1) (c2 := c2) hF ht hp
            refine .W _ p.2 m1 ?_ hk h2
            simp only [opEvalG, hts, hargs, opBuiltin, h1]; rfl
          · cases hk
        · rename_i t base n c1 hts hargs
          split at hk
          · rename_i e size bytes zs ht
            obtain ⟨h1, hw, hk⟩ := bind_some' hk
            obtain ⟨m1, h2, h3⟩ := clr_ok (c1 := c1) hF ht hw
            refine .W _ h1 m1 ?_ hk h3
            simp only [opEvalG, hts, hargs, opBuiltin, h2]; rfl
          · cases hk
        · cases hk
    | _ => simp only at hk; cases hk
end
end Go.Proofs.Ytgikimegikelkaa.Ab
