/- How a law's arguments read: from the row's reading to the heap that is read alone. -/
import Derived.Test.YtgikimegikelkaaAbEv
import Derived.ChangeArms
import Derived.Carry
namespace Go.Proofs.Ytgikimegikelkaa.Ab
open Go Go.RowKit Go.ChangeShapes Go.WideShapes
set_option linter.all false

/-- Are all fields of a struct numbers, one cell each? -/
noncomputable def flatI (P : Program) : List Field → Nat → Bool
  | [], _ => true
  | f :: l, i => (match P.underlying f.type with | some (.int .i64) => true | _ => false) && Nat.beq f.offset i && Nat.beq (P.cellsOf f.type) 1 && flatI P l (i + 1)
theorem flatI_get {P : Program} : ∀ (l : List Field) (j i : Nat) (f : Field), flatI P l j = true → l[i]? = some f → P.underlying f.type = some (.int .i64) ∧ f.offset = j + i ∧ P.cellsOf f.type = 1
  | [], j, i, f, h, hi => by simp at hi
  | g :: l, j, i, f, h, hi => by
    simp only [flatI, Bool.and_eq_true] at h
    obtain ⟨⟨⟨h1, h2⟩, h3⟩, h4⟩ := h
    cases i with
    | zero =>
      simp at hi; subst hi
      refine ⟨?_, by rw [Nat.eq_of_beq_eq_true h2]; rfl, Nat.eq_of_beq_eq_true h3⟩
      split at h1
      · assumption
      · cases h1
    | succ i =>
      obtain ⟨q1, q2, q3⟩ := flatI_get l (j + 1) i f h4 (by simpa using hi)
      exact ⟨q1, by rw [q2]; omega, q3⟩
def IsInts (cs : List Value) (zs : List Int) : Prop := cs = zs.map (fun z => Value.int .i64 z)

section
variable {H : Type} {enc : TypeId × Value → H} {P : Program} {w : World} {spare : Nat → Bool} {held : Bool}
theorem choose_list {α : Type} {p : Nat → α → Prop} : ∀ (n : Nat), (∀ i, i < n → ∃ a, p i a) → ∃ l : List α, l.length = n ∧ ∀ i a, l[i]? = some a → p i a
  | 0, _ => ⟨[], rfl, fun i a h => by simp at h⟩
  | n + 1, h => by
    obtain ⟨l, h1, h2⟩ := choose_list n (fun i hi => h i (by omega))
    obtain ⟨a, ha⟩ := h n (by omega)
    refine ⟨l ++ [a], by simp [h1], fun i b hb => ?_⟩
    by_cases c : i < l.length
    · rw [List.getElem?_append_left c] at hb; exact h2 i b hb
    · rw [List.getElem?_append_right (by omega)] at hb
      have hi : i - l.length = 0 := by have := (List.getElem?_eq_some_iff.1 hb).1; simp at this; omega
      rw [hi] at hb; simp at hb; subst hb
      have : i = n := by omega
      subst this; exact ha
theorem ints_read {t : TypeId} {fs : Array Field} (ht : P.underlying t = some (.struct fs)) (hall : flatI P fs.toList 0 = true) (hc : P.cellsOf t = fs.size) {n : Nat} {cs : List Value} {x : DataW H × List MemPlace} (h : DataW.trod enc P w 0 spare held n t cs = some x) :
    ∃ zs : List Int, zs.length = fs.size ∧ IsInts cs zs := by
  obtain ⟨xs, m, _, _, hl, hlen, hf⟩ := DataW.trod_struct ht h
  have key : ∀ i, i < fs.size → ∃ z : Int, cs[i]? = some (.int .i64 z) := by
    intro i hi
    have hfi : fs[i]? = some fs[i] := Array.getElem?_eq_getElem hi
    obtain ⟨q1, q2, q3⟩ := flatI_get fs.toList 0 i fs[i] hall (by simpa using hfi)
    have := hf i _ hfi
    rw [q2, q3, Nat.zero_add, List.getElem?_eq_getElem (by omega)] at this
    obtain ⟨z, hz, _⟩ := DataW.trod_int q1 this
    refine ⟨z, ?_⟩
    have h0 : ((cs.drop i).take 1)[0]? = some (.int .i64 z) := by rw [hz]; rfl
    rw [List.getElem?_take, if_pos (by omega), List.getElem?_drop] at h0
    simpa using h0
  obtain ⟨zs, h1, h2⟩ := choose_list fs.size key
  refine ⟨zs, h1, List.ext_getElem? fun i => ?_⟩
  rw [List.getElem?_map]
  cases hz : zs[i]? with
  | none => rw [List.getElem?_eq_none_iff] at hz; rw [List.getElem?_eq_none_iff.2 (by omega)]; rfl
  | some z => rw [h2 i z hz]; rfl
theorem int_read {t : TypeId} (ht : P.underlying t = some (.int .i64)) {n : Nat} {cs : List Value} {x : DataW H × List MemPlace} (h : DataW.trod enc P w 0 spare held n t cs = some x) : ∃ zs : List Int, zs.length = 1 ∧ IsInts cs zs := by
  obtain ⟨z, hz, _⟩ := DataW.trod_int ht h
  exact ⟨[z], rfl, hz⟩

/-- A slice reads as a list of rows of numbers. -/
def RowI (h : Hp) (a : Option Addr) (sz : Nat) (l : List (List Int)) : Prop := Pla a ∧ ∀ i zs, l[i]? = some zs → zs.length = sz ∧ ∃ b o, a = some ⟨b, o, none⟩ ∧ b < h.next ∧ ∀ j z, zs[j]? = some z → rd h b (o + i * sz + j) = some (.int .i64 z)
theorem ArgS.pla {A : Option Addr} {n c : Nat} (h : ArgS w A n c) : Pla A := by
  rcases h with ⟨rfl, _⟩ | ⟨b, o, rfl, _⟩ <;> trivial
theorem rd0 {b o : Nat} {k : IntKind} {z : Int} (h : w.cell? ⟨b, o, none⟩ = some (.int k z)) : rd (hp0 w) b o = some (.int k z) := by
  have hb : b < w.heap.size := by
    unfold World.cell? at h
    split at h
    · rename_i hc; exact (Array.getElem?_eq_some_iff.1 hc).1
    · cases h
  have e : (hp0 w).g b = some (.ro (roOf w b)) := if_pos hb
  unfold rd
  rw [e]
  show roOf w b o = _
  unfold roOf
  rw [h]
theorem rd0b {b o : Nat} {z : Bool} (h : w.cell? ⟨b, o, none⟩ = some (.bool z)) : rd (hp0 w) b o = some (.bool z) := by
  have hb : b < w.heap.size := by
    unfold World.cell? at h
    split at h
    · rename_i hc; exact (Array.getElem?_eq_some_iff.1 hc).1
    · cases h
  have e : (hp0 w).g b = some (.ro (roOf w b)) := if_pos hb
  unfold rd
  rw [e]
  show roOf w b o = _
  unfold roOf
  rw [h]
theorem rows_read {t e : TypeId} {sz : Nat} (ht : P.underlying t = some (.slice e)) (hsz : P.cellsOf e = sz)
    (he : ∀ n cs x, DataW.trod enc P w 0 spare held n e cs = some x → ∃ zs : List Int, zs.length = sz ∧ IsInts cs zs) {A : Option Addr} {len cap fuel : Nat} {x : DataW H × List MemPlace} (hok : ArgS w A len cap) (h : DataW.trod enc P w 0 spare held fuel t [.slice A len cap] = some x) :
    ∃ l : List (List Int), l.length = len ∧ RowI (hp0 w) A sz l ∧ len ≤ maxLen := by
  rcases Go.Deep.open_slice ht h with ⟨hcs, _⟩ | ⟨a, len', cap', m, n, D, Pl, hcs, _, hl, hm, hmm, _, hx⟩
  · simp at hcs
    obtain ⟨rfl, rfl, rfl⟩ := hcs
    exact ⟨[], rfl, ⟨trivial, fun i zs h => by simp at h⟩, Nat.zero_le _⟩
  · simp at hcs
    obtain ⟨rfl, rfl, rfl⟩ := hcs
    rcases hok with ⟨h0, _⟩ | ⟨b, o, ha, hb, hn⟩
    · cases h0
    cases ha
    have hlm : len ≤ m := by rw [hmm]; split <;> omega
    obtain ⟨l, h1, h2⟩ := choose_list (p := fun i (zs : List Int) => zs.length = sz ∧ ∀ j z, zs[j]? = some z → w.cell? ⟨b, o + i * sz + j, none⟩ = some (.int .i64 z)) len (fun i hi => by
      obtain ⟨cs', h3, h4⟩ := hx i (by omega)
      obtain ⟨zs, h5, h6⟩ := he n cs' _ h4
      refine ⟨zs, h5, fun j z hz => ?_⟩
      obtain ⟨_, h7, h8⟩ := World.cells?_some h3
      have hj : j < sz := by rw [← h5]; exact (List.getElem?_eq_some_iff.1 hz).1
      have h9 := h8 j (by omega)
      rw [hsz, add_loc, add_loc] at h9
      rw [h9, h6, List.getElem?_map, hz]; rfl)
    refine ⟨l, h1, ⟨trivial, fun i zs hz => ?_⟩, by omega⟩
    obtain ⟨q1, q2⟩ := h2 i zs hz
    exact ⟨q1, b, o, rfl, hb, fun j z hj => rd0 (q2 j z hj)⟩

theorem okWide_row {t : TypeId} {fs : Array Field} {ts : List TypeId} {base : Nat} {v : Value} (ht : P.underlying t = some (.struct fs)) (hts : P.cellTypes P.depth t = some ts) (h : Value.okWide P w .any base t v) :
    ∃ cs : Array Value, v = .agg cs ∧ cs.size = P.cellsOf t ∧ ∀ i c u, cs[i]? = some c → ts[i % ts.length]? = some u → Cell.okWide P w .any base u c := by
  simp only [Value.okWide, ht] at h
  obtain ⟨cs, rfl, h1, ts', h2, _, h3⟩ := h
  rw [hts] at h2; cases h2
  refine ⟨cs, rfl, h1, fun i c u hc hu => ?_⟩
  obtain ⟨u', h4, h5⟩ := h3 i c hc
  rw [hu] at h4; cases h4
  exact h5
theorem okWide_cell {t e : TypeId} {base : Nat} {v : Value} (ht : P.underlying t = some (.slice e)) (h : Value.okWide P w .any base t v) : Cell.okWide P w .any base t v := by
  simpa only [Value.okWide, ht] using h
theorem okc_int {t : TypeId} {base : Nat} {c : Value} (ht : P.underlying t = some (.int .i64)) (h : Cell.okWide P w .any base t c) : ∃ z, c = .int .i64 z := by
  simp only [Cell.okWide, ht] at h
  cases c <;> simp_all [Cell.ok]
theorem okc_slice {t e : TypeId} {base : Nat} {c : Value} (ht : P.underlying t = some (.slice e)) (h : Cell.okWide P w .any base t c) : ∃ a n k, c = .slice a n k := by
  simp only [Cell.okWide, ht] at h
  cases c <;> simp_all [Cell.ok]
end

theorem RowI.arcs {h : Hp} {a : Option Addr} {l : List (List Int)} (hl : RowI h a 4 l) : ∃ l' : List Arc, l'.length = l.length ∧ Arcs h a l' := by
  refine ⟨l.map fun zs => ⟨zs.getD 0 0, zs.getD 1 0, zs.getD 2 0, zs.getD 3 0⟩, by simp, hl.1, fun i x hx => ?_⟩
  rw [List.getElem?_map] at hx
  cases hz : l[i]? with
  | none => rw [hz] at hx; cases hx
  | some zs =>
    rw [hz] at hx; cases hx
    obtain ⟨h1, b, o, h2, h3, h4⟩ := hl.2 i zs hz
    match zs, h1 with
    | [z0, z1, z2, z3], _ => exact ⟨b, o, h2, h3, h4 0 z0 rfl, h4 1 z1 rfl, h4 2 z2 rfl, h4 3 z3 rfl⟩
theorem RowI.ints {h : Hp} {a : Option Addr} {l : List (List Int)} (hl : RowI h a 1 l) : ∃ l' : List Int, l'.length = l.length ∧ Ints h a l' := by
  refine ⟨l.map fun zs => zs.getD 0 0, by simp, hl.1, fun i x hx => ?_⟩
  rw [List.getElem?_map] at hx
  cases hz : l[i]? with
  | none => rw [hz] at hx; cases hx
  | some zs =>
    rw [hz] at hx; cases hx
    obtain ⟨h1, b, o, h2, h3, h4⟩ := hl.2 i zs hz
    match zs, h1 with
    | [z0], _ => exact ⟨b, o, h2, h3, h4 0 z0 rfl⟩
end Go.Proofs.Ytgikimegikelkaa.Ab
