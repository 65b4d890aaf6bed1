/- slices.IndexFunc over allotments with plan.Between's predicate: the first place where gate and origin are as the captured allotment's. -/
import Derived.Test.YtgikimegikelkaaQ0
import Derived.Lib.Hide
import Derived.Shelf.Abstract
namespace Go.Proofs.Ytgikimegikelkaa.Q
open Go.RowKit Go.Proofs.YtgikimegikelkaaW.PrintWords Go.Proofs.YtgikimegikelkaaW.PrintLast Go.Proofs.YtgikimegikelkaaW.PrintMore
set_option linter.unusedVariables false
set_option linter.unusedSimpArgs false

/-- What is asked of a function value: at each element of the list, in each world of the kind I, it answers p and leaves a world of this kind. -/
def Pred {α : Type} (g : Nat) (lb : Array Value) (enc : α → Value) (p : α → Bool) (l : List α) (I : World → Prop) : Prop :=
  ∀ (W : World) (x : α), I W → x ∈ l → Calls Try.prog g (#[enc x] ++ lb) W fun e w' => e = .returned (.bool (p x)) ∧ I w'
theorem getD_mem {α : Type} {l : List α} {k : Nat} {d : α} (h : k < l.length) : l.getD k d ∈ l := by
  rw [List.getD_eq_getElem?_getD, List.getElem?_eq_getElem h]
  exact List.getElem_mem h

/-- The first place of an element with p, or -1. -/
def idxP {α : Type} (p : α → Bool) : List α → Int
  | [] => -1
  | x :: r => if p x then 0 else if idxP p r < 0 then -1 else idxP p r + 1
theorem idxP_ge {α : Type} (p : α → Bool) (l : List α) : -1 ≤ idxP p l ∧ idxP p l < l.length := by
  induction l with
  | nil => simp [idxP]
  | cons x r ih =>
    unfold idxP
    split
    · simp only [List.length_cons]; omega
    · split <;> simp only [List.length_cons] <;> omega
theorem idxP_miss {α : Type} (p : α → Bool) (l : List α) (h : ∀ x ∈ l, p x = false) : idxP p l = -1 := by
  induction l with
  | nil => rfl
  | cons x r ih =>
    unfold idxP
    rw [h x (by simp), ih (fun y hy => h y (by simp [hy]))]
    rfl
theorem idxP_hit {α : Type} (p : α → Bool) (l : List α) (d : α) (k : Nat) (hk : k < l.length) (h : ∀ j, j < k → p (l.getD j d) = false) (hp : p (l.getD k d) = true) : idxP p l = k := by
  induction l generalizing k with
  | nil => simp at hk
  | cons x r ih =>
    unfold idxP
    cases k with
    | zero =>
      have hx : p x = true := by simpa using hp
      rw [hx]; rfl
    | succ k =>
      have h0 : p x = false := by simpa using h 0 (by omega)
      have := ih k (by simpa using hk) (fun j hj => by simpa using h (j + 1) (by omega)) (by simpa using hp)
      rw [h0, this]
      simp only [Bool.false_eq_true, if_false]
      rw [if_neg (by omega)]
      omega

def encAllot (x : S106) : Value := .agg #[.int .i64 x.f0, .int .i64 x.f1, .int .i64 x.f2]

set_option maxHeartbeats 2000000 in
theorem indexFunc_allot (p : S106 → Bool) (g : Nat) (lb : Array Value) (eg : ∀ args w, (callFunc g args).run Try.prog w = .ok (.enter g args) w) (A0 : Option Addr) (c : Nat) (l : List S106) (w : World)
    (hl : l.length ≤ 9223372036854775807) (I : World → Prop) (h0 : I w) (hr : ∀ W, I W → Kd.C k106 W A0 l.length l) (hp : Pred g lb encAllot p l I) :
    Calls Try.prog 106 #[.slice A0 l.length c, .func (.func g) #[] lb] w fun e w' => e = .returned (.int .i64 (idxP p l)) ∧ I w' := by
  have HR := Aside0.mk hr
  have HP := Aside0.mk hp
  have HI := Aside0.mk h0
  clear hr hp h0
  go_enter Try.func106, Try.ntmps106
  go_wp2
  go_loopg [5, 8] l.length (fun gg _ s8 wr => ∃ kk : Nat, kk ≤ l.length ∧ Aside0 (l.length - kk ≤ gg) ∧ s8 = .int .i64 kk ∧ Aside0 (I wr) ∧ Aside0 (∀ j, j < kk → p (l.getD j z106) = false))
  case atStart => exact ⟨0, Nat.zero_le _, ⟨by omega⟩, rfl, HI, ⟨fun j hj => absurd hj (Nat.not_lt_zero _)⟩⟩
  case round =>
    clear HI
    obtain ⟨kk, hkk, hg, rfl, BW, A⟩ := hrel
    by_cases hlt : kk < l.length
    · have hltz : (kk : Int) < (l.length : Int) := by omega
      obtain ⟨ad, e0, h0, h1, h2⟩ := at_T106 (HR.out wr BW.out) kk (by omega) hltz
      cases e0
      simp only [Int.toNat_natCast] at h0 h1 h2
      have hcall := HP.out wr (rd_T106 l kk) BW.out (getD_mem (l := l) (k := kk) (d := z106) hlt)
      have hz : Aside0 (l.getD kk z106 = rd_T106 l kk) := ⟨rfl⟩
      generalize rd_T106 l kk = y at h0 h1 h2 hcall hz
      cases hq : p y with
      | true =>
        rw [hq] at hcall
        simp only [encAllot] at hcall
        have HQ := Aside0.mk hq
        clear hq
        go_wp2_with fail
        refine hcall.mono ?_
        rintro e w' ⟨rfl, hb'⟩
        go_wp2
        go_ret
        refine ⟨?_, hb'⟩
        rw [idxP_hit p l z106 kk hlt A.out (by rw [hz.out]; exact HQ.out)]
        rfl
      | false =>
        rw [hq] at hcall
        simp only [encAllot] at hcall
        have HQ := Aside0.mk hq
        clear hq
        go_wp2_with fail
        refine hcall.mono ?_
        rintro e w' ⟨rfl, hb'⟩
        go_wp2
        go_roundg (l.length - (kk + 1))
        case measure => have := hg.out; omega
        case rel =>
          refine ⟨kk + 1, by omega, ⟨by omega⟩, by go_num, ⟨hb'⟩, ⟨fun j hj => ?_⟩⟩
          by_cases e : j = kk
          · subst e
            rw [hz.out]; exact HQ.out
          · exact A.out j (by omega)
    · have hltz : ¬ (kk : Int) < (l.length : Int) := by omega
      have hk : kk = l.length := by omega
      have AO := A.out
      rw [hk] at AO
      have HM := Lib.hid (idxP_miss p l (fun x hx => by
        obtain ⟨i, hi, rfl⟩ := List.getElem_of_mem hx
        have := AO i hi
        rwa [List.getD_eq_getElem?_getD, List.getElem?_eq_getElem hi] at this))
      clear AO hk
      go_wp2
      go_ret
      refine ⟨?_, BW.out⟩
      rw [HM.out]
      rfl

/-- Gate and origin are these. -/
def isPair (a b : Int) (x : S106) : Bool := decide (a = x.f0 ∧ b = x.f1)

set_option maxHeartbeats 2000000 in
theorem between1_pred (a b c : Int) (B : Nat) (w : World) (l : List S106) (h0 : w.heap[B]? = some (.cells #[.int .i64 a, .int .i64 b, .int .i64 c] 106 (0, 0))) :
    Pred 107 #[.pointer (some ⟨B, 0, none⟩)] encAllot (isPair a b) l (fun W => Below w.heap.size w W) := by
  intro W x hb _
  have hW := blk_below h0 hb
  have hc0 : W.cell? ⟨B, 0, none⟩ = some (.int .i64 a) := (blk_cell hW 0).trans rfl
  have hc1 : W.cell? ⟨B, 1, none⟩ = some (.int .i64 b) := (blk_cell hW 1).trans rfl
  have hca0 : ∀ o, (W.alloc o).cell? ⟨B, 0, none⟩ = some (.int .i64 a) := fun o => (blk_cell (blk_alloc hW _) 0).trans rfl
  have hca1 : ∀ o, (W.alloc o).cell? ⟨B, 1, none⟩ = some (.int .i64 b) := fun o => (blk_cell (blk_alloc hW _) 1).trans rfl
  have HB := Aside0.mk hb
  clear hb h0 hW
  show Calls Try.prog 107 #[encAllot x, .pointer (some ⟨B, 0, none⟩)] W _
  unfold encAllot
  have HX : Aside0 (isPair a b x = decide (a = x.f0 ∧ b = x.f1)) := ⟨rfl⟩
  generalize isPair a b x = q at HX ⊢
  obtain ⟨x0, x1, x2⟩ := x
  go_enter Try.func107, Try.ntmps107
  go_wp2
  all_goals
    go_ret
    refine ⟨?_, below_alloc HB.out _⟩
    rw [HX.out]
    refine congrArg (fun b => Ending.returned (Value.bool b)) ?_
    rw [Bool.eq_iff_iff, decide_eq_true_iff]
    simp
    try omega

def api_Allot.f (l0 : List (S106)) (a1_0 : Int) (a1_1 : Int) (a1_2 : Int) : Option Int := if l0.length ≤ 1048576 then some (idxP (isPair a1_0 a1_1) l0) else none
theorem api_Allot.calls (A0 : Option Addr) (c0 : Nat) (l0 : List (S106)) (a1_0 : Int) (a1_1 : Int) (a1_2 : Int) (r : Int) (gb : Nat) (w : World) (hr0 : Kd.C k106 w A0 l0.length l0) (hc0 : l0.length ≤ c0)
    (hb : w.heap[gb]? = some (.cells #[.int .i64 a1_0, .int .i64 a1_1, .int .i64 a1_2] 106 (0, 0))) (h : api_Allot.f l0 a1_0 a1_1 a1_2 = some r) :
    Calls Try.prog 106 #[.slice A0 l0.length c0, .func (.func 107) #[] #[.pointer (some ⟨gb, 0, none⟩)]] w fun e w' => e = .returned (.int .i64 r) ∧ Below w.heap.size w w' := by
  unfold api_Allot.f at h
  split at h
  · rename_i hl
    obtain rfl := Option.some.inj h
    exact indexFunc_allot (isPair a1_0 a1_1) 107 _ (Go.Proofs.enters_of Try.func107 (by kernel_rfl) rfl) A0 c0 l0 w (by omega) (fun W => Below w.heap.size w W) (Below.refl _ _) (fun W hW => Kd.C_below hr0 hW) (between1_pred a1_0 a1_1 a1_2 gb w l0 hb)
  · cases h
end Go.Proofs.Ytgikimegikelkaa.Q
