/- Functions of the program, told over a heap, with their proofs against the machine of lists and tries (printed by dprint.py). -/
import Derived.Test.YtgikimegikelkaaAbE
import Derived.Test.YtgikimegikelkaaAbDen8
namespace Go.Proofs.Ytgikimegikelkaa.Dn
open Go Go.Proofs.Ytgikimegikelkaa.Ab Go.Proofs.Ytgikimegikelkaa.AbT Go.Proofs
set_option linter.unusedVariables false
set_option linter.unusedSimpArgs false
set_option maxRecDepth 100000
/-! ### weirgate/cost.Check$1: function 110 -/
noncomputable def d_cost_Check_1.body : Code := match Try.f110.body with | some b => b | none => .skip
noncomputable def d_cost_Check_1.hint : Nat → Option (Nat × List Ck) := fun d => none
noncomputable def d_cost_Check_1.tbl {R : Type} : TblTy R := noTbl
noncomputable def d_cost_Check_1.it {R : Type} : ItTy R := noIt
noncomputable def d_cost_Check_1.L : List LEnt := []
noncomputable def d_cost_Check_1.r (k : Nat) (x1 : Int) (b2 : Nat) (o3 : Nat) (h : Hp) : Option (Value × Hp) := bc (decide (x1 ≥ 0)) ((asI .i64 (rd h b2 o3)).bind fun x4 => some (.bool (decide (x1 < x4)), h)) (some (.bool false, h))
noncomputable def d_cost_Check_1.v (k : Nat) (args : List Value) (h : Hp) : Option (Value × Hp) := castAL [.cell (.int .i64), .cell .ptr] args fun vs => match vs with | [.int .i64 x1, .pointer (some ⟨b2, o3, none⟩)] => d_cost_Check_1.r k x1 b2 o3 h | _ => none
theorem d_cost_Check_1.r_den (k : Nat) (x1 : Int) (b2 : Nat) (o3 : Nat) (h : Hp) : denF ((ctx E1 12 d_cost_Check_1.hint (d_cost_Check_1.tbl) d_cost_Check_1.it (LPof (d_cost_Check_1.L)) (YOof (d_cost_Check_1.L))) k) Try.f110 [.int .i64 x1, .pointer (some ⟨b2, o3, none⟩)] h pairK = d_cost_Check_1.r k x1 b2 o3 h := by kernel_rfl
theorem d_cost_Check_1.L_ok : ∀ i x, (d_cost_Check_1.L)[i]? = some x → LOK (ctx E1 12 d_cost_Check_1.hint (d_cost_Check_1.tbl) d_cost_Check_1.it (LPof (d_cost_Check_1.L)) (YOof (d_cost_Check_1.L))) (ctxY E1 12 d_cost_Check_1.hint (d_cost_Check_1.tbl)) Try.f110 (todoC d_cost_Check_1.body []) i x := by
  exact LOK_nil
theorem d_cost_Check_1.snd {H : Pl → Prop} (hH : MonoH H) (k : Nat) : SndF E1 H 110 (d_cost_Check_1.v k) := by
  intro args h v h1 hk
  obtain ⟨ht, hk⟩ := castAL_ok hk
  obtain ⟨v0, vs0, rfl, hv0, ht0⟩ := TyAL_cons ht
  obtain ⟨x1, rfl⟩ := hv0
  obtain ⟨v1, vs1, rfl, hv1, ht1⟩ := TyAL_cons ht0
  obtain ⟨b2, o3, rfl⟩ := hv1
  obtain rfl := TyAL_nil ht1
  refine fn_ok' (E := E1) (N := 12) (g := 110) (F := Try.f110) (hint := d_cost_Check_1.hint) (tbl := d_cost_Check_1.tbl) (tblY := d_cost_Check_1.tbl) (itK := d_cost_Check_1.it) (L := d_cost_Check_1.L) (body := d_cost_Check_1.body) (by kernel_rfl) (by kernel_rfl) (by kernel_rfl) hH ?_ ?_ ?_ d_cost_Check_1.L_ok k (by kernel_rfl) ((d_cost_Check_1.r_den k x1 b2 o3 h).trans hk)
  · intro k; exact noTbl_ok k
  · intro l' p' k; exact noTbl_ok k
  · intro k; exact noIt_ok k

/-! ### weirgate/cost.Check: function 54 -/
noncomputable def d_cost_Check.body : Code := match Try.f54.body with | some b => b | none => .skip
noncomputable def d_cost_Check.hint : Nat → Option (Nat × List Ck) := fun d => none
noncomputable def d_cost_Check.tbl {R : Type} : TblTy R := addF 110 [.cell .bool] d_cost_Check_1.v (noTbl)
noncomputable def d_cost_Check.it {R : Type} : ItTy R := noIt
noncomputable def d_cost_Check.b0 (k : Nat) (L0 : Nat → Nat → Option Addr → Nat → Nat → Int → Int → List Nat → Hp → Option (Value × Hp)) (b20 : Nat) (o21 : Nat) (a26 : Option Addr) (n27 : Nat) (c28 : Nat) (x29 : Int) (x30 : Int) (mk : List Nat) (h : Hp) : Option (Value × Hp) := bc (decide (x30 < x29)) ((ixA a26 n27 4 x30).bind fun p31 => (asI .i64 (rd h p31.1 p31.2)).bind fun x32 => (asI .i64 (rd h p31.1 (p31.2 + 1))).bind fun x33 => (asI .i64 (rd h p31.1 (p31.2 + 2))).bind fun x34 => (asI .i64 (rd h p31.1 (p31.2 + 3))).bind fun x35 => lt (h.new (.row 0 [.int .i64 0, .int .i64 0, .int .i64 0, .int .i64 0])) fun h36 => (wr h36 h.next 0 [.int .i64 x32, .int .i64 x33, .int .i64 x34, .int .i64 x35]).bind fun h37 => (asI .i64 (rd h37 h.next 0)).bind fun x38 => (d_cost_Check_1.r k x38 b20 o21 h37).bind fun q39 => (asB (some q39.1)).bind fun x40 => bc (!(!x40)) ((asI .i64 (rd q39.2 h.next (0 + 1))).bind fun x41 => (d_cost_Check_1.r k x41 b20 o21 q39.2).bind fun q42 => (asB (some q42.1)).bind fun x43 => bc (!(!x43)) ((asI .i64 (rd q42.2 h.next 0)).bind fun x44 => (asI .i64 (rd q42.2 h.next (0 + 1))).bind fun x45 => bc (!(x44 == x45)) ((asI .i64 (rd q42.2 h.next (0 + 2))).bind fun x46 => bc (!(decide (x46 < 0))) ((asI .i64 (rd q42.2 h.next (0 + 2))).bind fun x47 => bc (!(decide (x47 > 1073741824))) ((asI .i64 (rd q42.2 h.next (0 + 3))).bind fun x48 => bc (!(decide (x48 < 0))) ((asI .i64 (rd q42.2 h.next (0 + 3))).bind fun x49 => bc (decide (x49 > 1048576)) ((takeM q42.2 mk).bind fun h50 => some (.int .i64 1, h50)) (L0 b20 o21 a26 n27 c28 x29 (w64 (x30 + 1)) mk q42.2)) ((takeM q42.2 mk).bind fun h51 => some (.int .i64 1, h51))) ((takeM q42.2 mk).bind fun h52 => some (.int .i64 1, h52))) ((takeM q42.2 mk).bind fun h53 => some (.int .i64 1, h53))) ((takeM q42.2 mk).bind fun h54 => some (.int .i64 1, h54))) ((takeM q42.2 mk).bind fun h55 => some (.int .i64 1, h55))) ((takeM q39.2 mk).bind fun h56 => some (.int .i64 1, h56))) ((takeM h mk).bind fun h57 => some (.int .i64 0, h57))
noncomputable def d_cost_Check.LL : Nat → (Nat → Nat → Option Addr → Nat → Nat → Int → Int → List Nat → Hp → Option (Value × Hp))
  | 0 => fun _ _ _ _ _ _ _ _ _ => none
  | k + 1 => d_cost_Check.b0 k (d_cost_Check.LL k)
noncomputable def d_cost_Check.l0 (k : Nat) : Nat → Nat → Option Addr → Nat → Nat → Int → Int → List Nat → Hp → Option (Value × Hp) := (d_cost_Check.LL k)
theorem d_cost_Check.l0_succ (k : Nat) : d_cost_Check.l0 (k + 1) = d_cost_Check.b0 k (d_cost_Check.l0 k) := rfl
noncomputable def d_cost_Check.l0v (k : Nat) (vs : List Value) (mk : List Nat) (h : Hp) : Option (Value × Hp) := match vs with | [.func (.func _) ⟨[]⟩ ⟨[.pointer (some ⟨b20, o21, none⟩)]⟩, .slice a26 n27 c28, .int .i64 x29, .int .i64 x30] => d_cost_Check.l0 k b20 o21 a26 n27 c28 x29 x30 mk h | _ => none
noncomputable def d_cost_Check.L : List LEnt := [.lp [(3, .fn 110 [.ptr]), (20, .cell .slc), (21, .cell (.int .i64)), (22, .cell (.int .i64))] (d_cost_Check.l0v)]
noncomputable def d_cost_Check.r (k : Nat) (x2 : Int) (a7 : Option Addr) (n8 : Nat) (c9 : Nat) (h : Hp) : Option (Value × Hp) := lt (h.new (.row 0 [.int .i64 x2, .slice a7 n8 c9])) fun h14 => (asI .i64 (rd h14 h.next 0)).bind fun x15 => bc (!(decide (x15 > 256))) ((asS (rd h14 h.next (0 + 1))).bind fun s16 => bc (decide (((s16.n : Nat) : Int) > 2048)) (some (.int .i64 2, h14)) ((asI .i64 (rd h14 h.next 0)).bind fun x17 => bc (decide (x17 < 1)) (some (.int .i64 1, h14)) ((asS (rd h14 h.next (0 + 1))).bind fun s18 => d_cost_Check.l0 k h.next 0 s18.a s18.n s18.c ((s18.n : Nat) : Int) 0 [] h14))) (some (.int .i64 2, h14))
noncomputable def d_cost_Check.v (k : Nat) (args : List Value) (h : Hp) : Option (Value × Hp) := castAL [.agg [.int .i64, .slc]] args fun vs => match vs with | [.agg ⟨[.int .i64 x2, .slice a7 n8 c9]⟩] => d_cost_Check.r k x2 a7 n8 c9 h | _ => none
theorem d_cost_Check.l0_den (k : Nat) (b20 : Nat) (o21 : Nat) (a26 : Option Addr) (n27 : Nat) (c28 : Nat) (x29 : Int) (x30 : Int) (mk : List Nat) (h : Hp) (G : Tr Value) : loopF' ((ctx E1 66 d_cost_Check.hint (d_cost_Check.tbl) d_cost_Check.it (LPof (d_cost_Check.L)) (YOof (d_cost_Check.L))) k) Try.f54 pairK 0 ⟨[(3, .func (.func 110) #[] #[.pointer (some ⟨b20, o21, none⟩)]), (20, .slice a26 n27 c28), (21, .int .i64 x29), (22, .int .i64 x30)], G, mk⟩ h = d_cost_Check.l0 (k + 1) b20 o21 a26 n27 c28 x29 x30 mk h := by kernel_rfl
theorem d_cost_Check.r_den (k : Nat) (x2 : Int) (a7 : Option Addr) (n8 : Nat) (c9 : Nat) (h : Hp) : denF ((ctx E1 66 d_cost_Check.hint (d_cost_Check.tbl) d_cost_Check.it (LPof (d_cost_Check.L)) (YOof (d_cost_Check.L))) k) Try.f54 [.agg #[.int .i64 x2, .slice a7 n8 c9]] h pairK = d_cost_Check.r k x2 a7 n8 c9 h := by kernel_rfl
theorem d_cost_Check.L_ok : ∀ i x, (d_cost_Check.L)[i]? = some x → LOK (ctx E1 66 d_cost_Check.hint (d_cost_Check.tbl) d_cost_Check.it (LPof (d_cost_Check.L)) (YOof (d_cost_Check.L))) (ctxY E1 66 d_cost_Check.hint (d_cost_Check.tbl)) Try.f54 (todoC d_cost_Check.body []) i x := by
  refine LOK_cons (P := fun i x => LOK (ctx E1 66 d_cost_Check.hint (d_cost_Check.tbl) d_cost_Check.it (LPof (d_cost_Check.L)) (YOof (d_cost_Check.L))) (ctxY E1 66 d_cost_Check.hint (d_cost_Check.tbl)) Try.f54 (todoC d_cost_Check.body []) (i) x) ?_ ?_
  · refine ⟨by kernel_rfl, fun vs mk h ht => ?_, fun k vs mk h r ht hk G => ?_⟩
    · obtain ⟨v0, vs0, rfl, hv0, ht0⟩ := TySL_cons ht
      obtain ⟨cs19, rfl, hv0c⟩ := hv0
      obtain ⟨w23, cs22, rfl, hw24, hc25⟩ := TyCL_cons hv0c
      obtain ⟨b20, o21, rfl⟩ := hw24
      obtain rfl := TyCL_nil hc25
      obtain ⟨v1, vs1, rfl, hv1, ht1⟩ := TySL_cons ht0
      obtain ⟨a26, n27, c28, rfl⟩ := hv1
      obtain ⟨v2, vs2, rfl, hv2, ht2⟩ := TySL_cons ht1
      obtain ⟨x29, rfl⟩ := hv2
      obtain ⟨v3, vs3, rfl, hv3, ht3⟩ := TySL_cons ht2
      obtain ⟨x30, rfl⟩ := hv3
      obtain rfl := TySL_nil ht3
      rfl
    · obtain ⟨v0, vs0, rfl, hv0, ht0⟩ := TySL_cons ht
      obtain ⟨cs19, rfl, hv0c⟩ := hv0
      obtain ⟨w23, cs22, rfl, hw24, hc25⟩ := TyCL_cons hv0c
      obtain ⟨b20, o21, rfl⟩ := hw24
      obtain rfl := TyCL_nil hc25
      obtain ⟨v1, vs1, rfl, hv1, ht1⟩ := TySL_cons ht0
      obtain ⟨a26, n27, c28, rfl⟩ := hv1
      obtain ⟨v2, vs2, rfl, hv2, ht2⟩ := TySL_cons ht1
      obtain ⟨x29, rfl⟩ := hv2
      obtain ⟨v3, vs3, rfl, hv3, ht3⟩ := TySL_cons ht2
      obtain ⟨x30, rfl⟩ := hv3
      obtain rfl := TySL_nil ht3
      exact (d_cost_Check.l0_den k b20 o21 a26 n27 c28 x29 x30 mk h G).trans hk
  exact LOK_nil
theorem d_cost_Check.snd {H : Pl → Prop} (hH : MonoH H) (k : Nat) : SndF E1 H 54 (d_cost_Check.v k) := by
  intro args h v h1 hk
  obtain ⟨ht, hk⟩ := castAL_ok hk
  obtain ⟨v0, vs0, rfl, hv0, ht0⟩ := TyAL_cons ht
  obtain ⟨cs1, rfl, hv0c⟩ := hv0
  obtain ⟨w4, cs3, rfl, hw5, hc6⟩ := TyCL_cons hv0c
  obtain ⟨x2, rfl⟩ := hw5
  obtain ⟨w11, cs10, rfl, hw12, hc13⟩ := TyCL_cons hc6
  obtain ⟨a7, n8, c9, rfl⟩ := hw12
  obtain rfl := TyCL_nil hc13
  obtain rfl := TyAL_nil ht0
  refine fn_ok' (E := E1) (N := 66) (g := 54) (F := Try.f54) (hint := d_cost_Check.hint) (tbl := d_cost_Check.tbl) (tblY := d_cost_Check.tbl) (itK := d_cost_Check.it) (L := d_cost_Check.L) (body := d_cost_Check.body) (by kernel_rfl) (by kernel_rfl) (by kernel_rfl) hH ?_ ?_ ?_ d_cost_Check.L_ok k (by kernel_rfl) ((d_cost_Check.r_den k x2 a7 n8 c9 h).trans hk)
  · intro k; exact addF_ok (d_cost_Check_1.snd hH k) (noTbl_ok k)
  · intro l' p' k; exact addF_ok (d_cost_Check_1.snd (hH.pay _ _) k) (noTbl_ok k)
  · intro k; exact noIt_ok k

/-! ### weirgate/cost.flows: function 120 -/
noncomputable def d_cost_flows.body : Code := match Try.f120.body with | some b => b | none => .skip
noncomputable def d_cost_flows.hint : Nat → Option (Nat × List Ck) := fun d => none
noncomputable def d_cost_flows.tbl {R : Type} : TblTy R := noTbl
noncomputable def d_cost_flows.it {R : Type} : ItTy R := noIt
noncomputable def d_cost_flows.b0 (k : Nat) (L0 : Int → Int → Nat → Nat → Option Addr → Nat → Nat → Int → Option Addr → Nat → Nat → Int → Int → List Nat → Hp → Option (Value × Hp)) (L1 : Int → Int → Nat → Nat → Int → Option Addr → Nat → Nat → Int → Int → List Nat → Hp → Option (Value × Hp)) (x55 : Int) (x56 : Int) (b57 : Nat) (o58 : Nat) (a59 : Option Addr) (n60 : Nat) (c61 : Nat) (x62 : Int) (a63 : Option Addr) (n64 : Nat) (c65 : Nat) (x66 : Int) (x67 : Int) (mk : List Nat) (h : Hp) : Option (Value × Hp) := bc (decide (x67 < x66)) ((ixA a63 n64 4 x67).bind fun p68 => (asI .i64 (rd h p68.1 p68.2)).bind fun x69 => (asI .i64 (rd h p68.1 (p68.2 + 1))).bind fun x70 => (asI .i64 (rd h p68.1 (p68.2 + 2))).bind fun x71 => (asI .i64 (rd h p68.1 (p68.2 + 3))).bind fun x72 => lt (h.new (.row 0 [.int .i64 0, .int .i64 0, .int .i64 0, .int .i64 0])) fun h73 => (wr h73 h.next 0 [.int .i64 x69, .int .i64 x70, .int .i64 x71, .int .i64 x72]).bind fun h74 => (asS (rd h74 b57 (o58 + 2))).bind fun s75 => (ixA s75.a s75.n 1 x67).bind fun p76 => (asI .i64 (rd h74 p76.1 p76.2)).bind fun x77 => bc (!(decide (x77 < 0))) ((asI .i64 (rd h74 h.next (0 + 2))).bind fun x78 => bc (decide (x77 > x78)) ((takeM h74 mk).bind fun h79 => some (.bool false, h79)) ((asI .i64 (rd h74 h.next 0)).bind fun x80 => (ixA a59 n60 1 x80).bind fun p81 => (asI .i64 (rd h74 p81.1 p81.2)).bind fun x82 => (ixA a59 n60 1 x80).bind fun p83 => (wr h74 p83.1 p83.2 [.int .i64 (w64 (x82 + x77))]).bind fun h84 => (asI .i64 (rd h84 h.next (0 + 1))).bind fun x85 => (ixA a59 n60 1 x85).bind fun p86 => (asI .i64 (rd h84 p86.1 p86.2)).bind fun x87 => (ixA a59 n60 1 x85).bind fun p88 => (wr h84 p88.1 p88.2 [.int .i64 (w64 (x87 - x77))]).bind fun h89 => (asI .i64 (rd h89 h.next (0 + 3))).bind fun x90 => L0 x55 x56 b57 o58 a59 n60 c61 (w64 (x62 + (w64 (x77 * x90)))) a63 n64 c65 x66 (w64 (x67 + 1)) mk h89)) ((takeM h74 mk).bind fun h91 => some (.bool false, h91))) (L1 x55 x56 b57 o58 x62 a59 n60 c61 ((n60 : Nat) : Int) 0 mk h)
noncomputable def d_cost_flows.b1 (k : Nat) (L0 : Int → Int → Nat → Nat → Option Addr → Nat → Nat → Int → Option Addr → Nat → Nat → Int → Int → List Nat → Hp → Option (Value × Hp)) (L1 : Int → Int → Nat → Nat → Int → Option Addr → Nat → Nat → Int → Int → List Nat → Hp → Option (Value × Hp)) (x92 : Int) (x93 : Int) (b94 : Nat) (o95 : Nat) (x96 : Int) (a97 : Option Addr) (n98 : Nat) (c99 : Nat) (x100 : Int) (x101 : Int) (mk : List Nat) (h : Hp) : Option (Value × Hp) := bc (decide (x101 < x100)) ((ixA a97 n98 1 x101).bind fun p102 => (asI .i64 (rd h p102.1 p102.2)).bind fun x103 => bc (x101 == x92) ((asI .i64 (rd h b94 o95)).bind fun x104 => bc (!(!(x103 == x104))) (bc (!(x101 == x92)) (bc (!(x101 == x93)) (bc (!(x103 == 0)) ((takeM h mk).bind fun h105 => some (.bool false, h105)) (L1 x92 x93 b94 o95 x96 a97 n98 c99 x100 (w64 (x101 + 1)) mk h)) (L1 x92 x93 b94 o95 x96 a97 n98 c99 x100 (w64 (x101 + 1)) mk h)) (L1 x92 x93 b94 o95 x96 a97 n98 c99 x100 (w64 (x101 + 1)) mk h)) ((takeM h mk).bind fun h106 => some (.bool false, h106))) (bc (!(x101 == x92)) (bc (!(x101 == x93)) (bc (!(x103 == 0)) ((takeM h mk).bind fun h107 => some (.bool false, h107)) (L1 x92 x93 b94 o95 x96 a97 n98 c99 x100 (w64 (x101 + 1)) mk h)) (L1 x92 x93 b94 o95 x96 a97 n98 c99 x100 (w64 (x101 + 1)) mk h)) (L1 x92 x93 b94 o95 x96 a97 n98 c99 x100 (w64 (x101 + 1)) mk h))) ((asI .i64 (rd h b94 (o95 + 1))).bind fun x108 => (takeM h mk).bind fun h109 => some (.bool (x96 == x108), h109))
noncomputable def d_cost_flows.LL : Nat → (Int → Int → Nat → Nat → Option Addr → Nat → Nat → Int → Option Addr → Nat → Nat → Int → Int → List Nat → Hp → Option (Value × Hp)) × (Int → Int → Nat → Nat → Int → Option Addr → Nat → Nat → Int → Int → List Nat → Hp → Option (Value × Hp))
  | 0 => (fun _ _ _ _ _ _ _ _ _ _ _ _ _ _ _ => none, fun _ _ _ _ _ _ _ _ _ _ _ _ => none)
  | k + 1 => (d_cost_flows.b0 k (d_cost_flows.LL k).1 (d_cost_flows.LL k).2, d_cost_flows.b1 k (d_cost_flows.LL k).1 (d_cost_flows.LL k).2)
noncomputable def d_cost_flows.l0 (k : Nat) : Int → Int → Nat → Nat → Option Addr → Nat → Nat → Int → Option Addr → Nat → Nat → Int → Int → List Nat → Hp → Option (Value × Hp) := (d_cost_flows.LL k).1
noncomputable def d_cost_flows.l1 (k : Nat) : Int → Int → Nat → Nat → Int → Option Addr → Nat → Nat → Int → Int → List Nat → Hp → Option (Value × Hp) := (d_cost_flows.LL k).2
theorem d_cost_flows.l0_succ (k : Nat) : d_cost_flows.l0 (k + 1) = d_cost_flows.b0 k (d_cost_flows.l0 k) (d_cost_flows.l1 k) := rfl
theorem d_cost_flows.l1_succ (k : Nat) : d_cost_flows.l1 (k + 1) = d_cost_flows.b1 k (d_cost_flows.l0 k) (d_cost_flows.l1 k) := rfl
noncomputable def d_cost_flows.l0v (k : Nat) (vs : List Value) (mk : List Nat) (h : Hp) : Option (Value × Hp) := match vs with | [.int .i64 x55, .int .i64 x56, .pointer (some ⟨b57, o58, none⟩), .slice a59 n60 c61, .int .i64 x62, .slice a63 n64 c65, .int .i64 x66, .int .i64 x67] => d_cost_flows.l0 k x55 x56 b57 o58 a59 n60 c61 x62 a63 n64 c65 x66 x67 mk h | _ => none
noncomputable def d_cost_flows.l1v (k : Nat) (vs : List Value) (mk : List Nat) (h : Hp) : Option (Value × Hp) := match vs with | [.int .i64 x92, .int .i64 x93, .pointer (some ⟨b94, o95, none⟩), .int .i64 x96, .slice a97 n98 c99, .int .i64 x100, .int .i64 x101] => d_cost_flows.l1 k x92 x93 b94 o95 x96 a97 n98 c99 x100 x101 mk h | _ => none
noncomputable def d_cost_flows.L : List LEnt := [.lp [(1, .cell (.int .i64)), (2, .cell (.int .i64)), (7, .cell .ptr), (9, .cell .slc), (10, .cell (.int .i64)), (27, .cell .slc), (28, .cell (.int .i64)), (29, .cell (.int .i64))] (d_cost_flows.l0v), .lp [(1, .cell (.int .i64)), (2, .cell (.int .i64)), (7, .cell .ptr), (10, .cell (.int .i64)), (70, .cell .slc), (71, .cell (.int .i64)), (72, .cell (.int .i64))] (d_cost_flows.l1v)]
noncomputable def d_cost_flows.r (k : Nat) (x2 : Int) (a7 : Option Addr) (n8 : Nat) (c9 : Nat) (x14 : Int) (x15 : Int) (x17 : Int) (x22 : Int) (a27 : Option Addr) (n28 : Nat) (c29 : Nat) (a34 : Option Addr) (n35 : Nat) (c36 : Nat) (a41 : Option Addr) (n42 : Nat) (c43 : Nat) (h : Hp) : Option (Value × Hp) := lt (h.new (.row 0 [.int .i64 x2, .slice a7 n8 c9])) fun h48 => lt (h48.new (.row 0 [.int .i64 x17, .int .i64 x22, .slice a27 n28 c29, .slice a34 n35 c36, .slice a41 n42 c43])) fun h49 => (asS (rd h49 h48.next (0 + 2))).bind fun s50 => (asS (rd h49 h.next (0 + 1))).bind fun s51 => bc (!(((s50.n : Nat) : Int) == ((s51.n : Nat) : Int))) (some (.bool false, h49)) ((asI .i64 (rd h49 h.next 0)).bind fun x52 => ckB (decide (0 ≤ x52) && decide (x52 ≤ x52) && decide (x52 ≤ 1048576)) (lt (h49.new (.row 1 (repl [.int .i64 0] (x52 : Int).toNat))) fun h53 => (asS (rd h53 h.next (0 + 1))).bind fun s54 => d_cost_flows.l0 k x14 x15 h48.next 0 (some ⟨h49.next, 0, none⟩) ((x52 : Int).toNat) ((x52 : Int).toNat) 0 s54.a s54.n s54.c ((s54.n : Nat) : Int) 0 [] h53))
noncomputable def d_cost_flows.v (k : Nat) (args : List Value) (h : Hp) : Option (Value × Hp) := castAL [.agg [.int .i64, .slc], .cell (.int .i64), .cell (.int .i64), .agg [.int .i64, .int .i64, .slc, .slc, .slc]] args fun vs => match vs with | [.agg ⟨[.int .i64 x2, .slice a7 n8 c9]⟩, .int .i64 x14, .int .i64 x15, .agg ⟨[.int .i64 x17, .int .i64 x22, .slice a27 n28 c29, .slice a34 n35 c36, .slice a41 n42 c43]⟩] => d_cost_flows.r k x2 a7 n8 c9 x14 x15 x17 x22 a27 n28 c29 a34 n35 c36 a41 n42 c43 h | _ => none
theorem d_cost_flows.l0_den (k : Nat) (x55 : Int) (x56 : Int) (b57 : Nat) (o58 : Nat) (a59 : Option Addr) (n60 : Nat) (c61 : Nat) (x62 : Int) (a63 : Option Addr) (n64 : Nat) (c65 : Nat) (x66 : Int) (x67 : Int) (mk : List Nat) (h : Hp) (G : Tr Value) : loopF' ((ctx E1 105 d_cost_flows.hint (d_cost_flows.tbl) d_cost_flows.it (LPof (d_cost_flows.L)) (YOof (d_cost_flows.L))) k) Try.f120 pairK 0 ⟨[(1, .int .i64 x55), (2, .int .i64 x56), (7, .pointer (some ⟨b57, o58, none⟩)), (9, .slice a59 n60 c61), (10, .int .i64 x62), (27, .slice a63 n64 c65), (28, .int .i64 x66), (29, .int .i64 x67)], G, mk⟩ h = d_cost_flows.l0 (k + 1) x55 x56 b57 o58 a59 n60 c61 x62 a63 n64 c65 x66 x67 mk h := by kernel_rfl
theorem d_cost_flows.l1_den (k : Nat) (x92 : Int) (x93 : Int) (b94 : Nat) (o95 : Nat) (x96 : Int) (a97 : Option Addr) (n98 : Nat) (c99 : Nat) (x100 : Int) (x101 : Int) (mk : List Nat) (h : Hp) (G : Tr Value) : loopF' ((ctx E1 105 d_cost_flows.hint (d_cost_flows.tbl) d_cost_flows.it (LPof (d_cost_flows.L)) (YOof (d_cost_flows.L))) k) Try.f120 pairK 1 ⟨[(1, .int .i64 x92), (2, .int .i64 x93), (7, .pointer (some ⟨b94, o95, none⟩)), (10, .int .i64 x96), (70, .slice a97 n98 c99), (71, .int .i64 x100), (72, .int .i64 x101)], G, mk⟩ h = d_cost_flows.l1 (k + 1) x92 x93 b94 o95 x96 a97 n98 c99 x100 x101 mk h := by kernel_rfl
theorem d_cost_flows.r_den (k : Nat) (x2 : Int) (a7 : Option Addr) (n8 : Nat) (c9 : Nat) (x14 : Int) (x15 : Int) (x17 : Int) (x22 : Int) (a27 : Option Addr) (n28 : Nat) (c29 : Nat) (a34 : Option Addr) (n35 : Nat) (c36 : Nat) (a41 : Option Addr) (n42 : Nat) (c43 : Nat) (h : Hp) : denF ((ctx E1 105 d_cost_flows.hint (d_cost_flows.tbl) d_cost_flows.it (LPof (d_cost_flows.L)) (YOof (d_cost_flows.L))) k) Try.f120 [.agg #[.int .i64 x2, .slice a7 n8 c9], .int .i64 x14, .int .i64 x15, .agg #[.int .i64 x17, .int .i64 x22, .slice a27 n28 c29, .slice a34 n35 c36, .slice a41 n42 c43]] h pairK = d_cost_flows.r k x2 a7 n8 c9 x14 x15 x17 x22 a27 n28 c29 a34 n35 c36 a41 n42 c43 h := by kernel_rfl
theorem d_cost_flows.L_ok : ∀ i x, (d_cost_flows.L)[i]? = some x → LOK (ctx E1 105 d_cost_flows.hint (d_cost_flows.tbl) d_cost_flows.it (LPof (d_cost_flows.L)) (YOof (d_cost_flows.L))) (ctxY E1 105 d_cost_flows.hint (d_cost_flows.tbl)) Try.f120 (todoC d_cost_flows.body []) i x := by
  refine LOK_cons (P := fun i x => LOK (ctx E1 105 d_cost_flows.hint (d_cost_flows.tbl) d_cost_flows.it (LPof (d_cost_flows.L)) (YOof (d_cost_flows.L))) (ctxY E1 105 d_cost_flows.hint (d_cost_flows.tbl)) Try.f120 (todoC d_cost_flows.body []) (i) x) ?_ ?_
  · refine ⟨by kernel_rfl, fun vs mk h ht => ?_, fun k vs mk h r ht hk G => ?_⟩
    · obtain ⟨v0, vs0, rfl, hv0, ht0⟩ := TySL_cons ht
      obtain ⟨x55, rfl⟩ := hv0
      obtain ⟨v1, vs1, rfl, hv1, ht1⟩ := TySL_cons ht0
      obtain ⟨x56, rfl⟩ := hv1
      obtain ⟨v2, vs2, rfl, hv2, ht2⟩ := TySL_cons ht1
      obtain ⟨b57, o58, rfl⟩ := hv2
      obtain ⟨v3, vs3, rfl, hv3, ht3⟩ := TySL_cons ht2
      obtain ⟨a59, n60, c61, rfl⟩ := hv3
      obtain ⟨v4, vs4, rfl, hv4, ht4⟩ := TySL_cons ht3
      obtain ⟨x62, rfl⟩ := hv4
      obtain ⟨v5, vs5, rfl, hv5, ht5⟩ := TySL_cons ht4
      obtain ⟨a63, n64, c65, rfl⟩ := hv5
      obtain ⟨v6, vs6, rfl, hv6, ht6⟩ := TySL_cons ht5
      obtain ⟨x66, rfl⟩ := hv6
      obtain ⟨v7, vs7, rfl, hv7, ht7⟩ := TySL_cons ht6
      obtain ⟨x67, rfl⟩ := hv7
      obtain rfl := TySL_nil ht7
      rfl
    · obtain ⟨v0, vs0, rfl, hv0, ht0⟩ := TySL_cons ht
      obtain ⟨x55, rfl⟩ := hv0
      obtain ⟨v1, vs1, rfl, hv1, ht1⟩ := TySL_cons ht0
      obtain ⟨x56, rfl⟩ := hv1
      obtain ⟨v2, vs2, rfl, hv2, ht2⟩ := TySL_cons ht1
      obtain ⟨b57, o58, rfl⟩ := hv2
      obtain ⟨v3, vs3, rfl, hv3, ht3⟩ := TySL_cons ht2
      obtain ⟨a59, n60, c61, rfl⟩ := hv3
      obtain ⟨v4, vs4, rfl, hv4, ht4⟩ := TySL_cons ht3
      obtain ⟨x62, rfl⟩ := hv4
      obtain ⟨v5, vs5, rfl, hv5, ht5⟩ := TySL_cons ht4
      obtain ⟨a63, n64, c65, rfl⟩ := hv5
      obtain ⟨v6, vs6, rfl, hv6, ht6⟩ := TySL_cons ht5
      obtain ⟨x66, rfl⟩ := hv6
      obtain ⟨v7, vs7, rfl, hv7, ht7⟩ := TySL_cons ht6
      obtain ⟨x67, rfl⟩ := hv7
      obtain rfl := TySL_nil ht7
      exact (d_cost_flows.l0_den k x55 x56 b57 o58 a59 n60 c61 x62 a63 n64 c65 x66 x67 mk h G).trans hk
  refine LOK_cons (P := fun i x => LOK (ctx E1 105 d_cost_flows.hint (d_cost_flows.tbl) d_cost_flows.it (LPof (d_cost_flows.L)) (YOof (d_cost_flows.L))) (ctxY E1 105 d_cost_flows.hint (d_cost_flows.tbl)) Try.f120 (todoC d_cost_flows.body []) (i + 1) x) ?_ ?_
  · refine ⟨by kernel_rfl, fun vs mk h ht => ?_, fun k vs mk h r ht hk G => ?_⟩
    · obtain ⟨v0, vs0, rfl, hv0, ht0⟩ := TySL_cons ht
      obtain ⟨x92, rfl⟩ := hv0
      obtain ⟨v1, vs1, rfl, hv1, ht1⟩ := TySL_cons ht0
      obtain ⟨x93, rfl⟩ := hv1
      obtain ⟨v2, vs2, rfl, hv2, ht2⟩ := TySL_cons ht1
      obtain ⟨b94, o95, rfl⟩ := hv2
      obtain ⟨v3, vs3, rfl, hv3, ht3⟩ := TySL_cons ht2
      obtain ⟨x96, rfl⟩ := hv3
      obtain ⟨v4, vs4, rfl, hv4, ht4⟩ := TySL_cons ht3
      obtain ⟨a97, n98, c99, rfl⟩ := hv4
      obtain ⟨v5, vs5, rfl, hv5, ht5⟩ := TySL_cons ht4
      obtain ⟨x100, rfl⟩ := hv5
      obtain ⟨v6, vs6, rfl, hv6, ht6⟩ := TySL_cons ht5
      obtain ⟨x101, rfl⟩ := hv6
      obtain rfl := TySL_nil ht6
      rfl
    · obtain ⟨v0, vs0, rfl, hv0, ht0⟩ := TySL_cons ht
      obtain ⟨x92, rfl⟩ := hv0
      obtain ⟨v1, vs1, rfl, hv1, ht1⟩ := TySL_cons ht0
      obtain ⟨x93, rfl⟩ := hv1
      obtain ⟨v2, vs2, rfl, hv2, ht2⟩ := TySL_cons ht1
      obtain ⟨b94, o95, rfl⟩ := hv2
      obtain ⟨v3, vs3, rfl, hv3, ht3⟩ := TySL_cons ht2
      obtain ⟨x96, rfl⟩ := hv3
      obtain ⟨v4, vs4, rfl, hv4, ht4⟩ := TySL_cons ht3
      obtain ⟨a97, n98, c99, rfl⟩ := hv4
      obtain ⟨v5, vs5, rfl, hv5, ht5⟩ := TySL_cons ht4
      obtain ⟨x100, rfl⟩ := hv5
      obtain ⟨v6, vs6, rfl, hv6, ht6⟩ := TySL_cons ht5
      obtain ⟨x101, rfl⟩ := hv6
      obtain rfl := TySL_nil ht6
      exact (d_cost_flows.l1_den k x92 x93 b94 o95 x96 a97 n98 c99 x100 x101 mk h G).trans hk
  exact LOK_nil
theorem d_cost_flows.snd {H : Pl → Prop} (hH : MonoH H) (k : Nat) : SndF E1 H 120 (d_cost_flows.v k) := by
  intro args h v h1 hk
  obtain ⟨ht, hk⟩ := castAL_ok hk
  obtain ⟨v0, vs0, rfl, hv0, ht0⟩ := TyAL_cons ht
  obtain ⟨cs1, rfl, hv0c⟩ := hv0
  obtain ⟨w4, cs3, rfl, hw5, hc6⟩ := TyCL_cons hv0c
  obtain ⟨x2, rfl⟩ := hw5
  obtain ⟨w11, cs10, rfl, hw12, hc13⟩ := TyCL_cons hc6
  obtain ⟨a7, n8, c9, rfl⟩ := hw12
  obtain rfl := TyCL_nil hc13
  obtain ⟨v1, vs1, rfl, hv1, ht1⟩ := TyAL_cons ht0
  obtain ⟨x14, rfl⟩ := hv1
  obtain ⟨v2, vs2, rfl, hv2, ht2⟩ := TyAL_cons ht1
  obtain ⟨x15, rfl⟩ := hv2
  obtain ⟨v3, vs3, rfl, hv3, ht3⟩ := TyAL_cons ht2
  obtain ⟨cs16, rfl, hv3c⟩ := hv3
  obtain ⟨w19, cs18, rfl, hw20, hc21⟩ := TyCL_cons hv3c
  obtain ⟨x17, rfl⟩ := hw20
  obtain ⟨w24, cs23, rfl, hw25, hc26⟩ := TyCL_cons hc21
  obtain ⟨x22, rfl⟩ := hw25
  obtain ⟨w31, cs30, rfl, hw32, hc33⟩ := TyCL_cons hc26
  obtain ⟨a27, n28, c29, rfl⟩ := hw32
  obtain ⟨w38, cs37, rfl, hw39, hc40⟩ := TyCL_cons hc33
  obtain ⟨a34, n35, c36, rfl⟩ := hw39
  obtain ⟨w45, cs44, rfl, hw46, hc47⟩ := TyCL_cons hc40
  obtain ⟨a41, n42, c43, rfl⟩ := hw46
  obtain rfl := TyCL_nil hc47
  obtain rfl := TyAL_nil ht3
  refine fn_ok' (E := E1) (N := 105) (g := 120) (F := Try.f120) (hint := d_cost_flows.hint) (tbl := d_cost_flows.tbl) (tblY := d_cost_flows.tbl) (itK := d_cost_flows.it) (L := d_cost_flows.L) (body := d_cost_flows.body) (by kernel_rfl) (by kernel_rfl) (by kernel_rfl) hH ?_ ?_ ?_ d_cost_flows.L_ok k (by kernel_rfl) ((d_cost_flows.r_den k x2 a7 n8 c9 x14 x15 x17 x22 a27 n28 c29 a34 n35 c36 a41 n42 c43 h).trans hk)
  · intro k; exact noTbl_ok k
  · intro l' p' k; exact noTbl_ok k
  · intro k; exact noIt_ok k

/-! ### weirgate/cost.priced$1: function 148 -/
noncomputable def d_cost_priced_1.body : Code := match Try.f148.body with | some b => b | none => .skip
noncomputable def d_cost_priced_1.hint : Nat → Option (Nat × List Ck) := fun d => none
noncomputable def d_cost_priced_1.tbl {R : Type} : TblTy R := noTbl
noncomputable def d_cost_priced_1.it {R : Type} : ItTy R := noIt
noncomputable def d_cost_priced_1.L : List LEnt := []
noncomputable def d_cost_priced_1.r (k : Nat) (x1 : Int) (h : Hp) : Option (Value × Hp) := bc (!(decide (x1 < 0))) (some (.bool (decide (x1 > 1073741824)), h)) (some (.bool true, h))
noncomputable def d_cost_priced_1.v (k : Nat) (args : List Value) (h : Hp) : Option (Value × Hp) := castAL [.cell (.int .i64)] args fun vs => match vs with | [.int .i64 x1] => d_cost_priced_1.r k x1 h | _ => none
theorem d_cost_priced_1.r_den (k : Nat) (x1 : Int) (h : Hp) : denF ((ctx E1 9 d_cost_priced_1.hint (d_cost_priced_1.tbl) d_cost_priced_1.it (LPof (d_cost_priced_1.L)) (YOof (d_cost_priced_1.L))) k) Try.f148 [.int .i64 x1] h pairK = d_cost_priced_1.r k x1 h := by kernel_rfl
theorem d_cost_priced_1.L_ok : ∀ i x, (d_cost_priced_1.L)[i]? = some x → LOK (ctx E1 9 d_cost_priced_1.hint (d_cost_priced_1.tbl) d_cost_priced_1.it (LPof (d_cost_priced_1.L)) (YOof (d_cost_priced_1.L))) (ctxY E1 9 d_cost_priced_1.hint (d_cost_priced_1.tbl)) Try.f148 (todoC d_cost_priced_1.body []) i x := by
  exact LOK_nil
theorem d_cost_priced_1.snd {H : Pl → Prop} (hH : MonoH H) (k : Nat) : SndF E1 H 148 (d_cost_priced_1.v k) := by
  intro args h v h1 hk
  obtain ⟨ht, hk⟩ := castAL_ok hk
  obtain ⟨v0, vs0, rfl, hv0, ht0⟩ := TyAL_cons ht
  obtain ⟨x1, rfl⟩ := hv0
  obtain rfl := TyAL_nil ht0
  refine fn_ok' (E := E1) (N := 9) (g := 148) (F := Try.f148) (hint := d_cost_priced_1.hint) (tbl := d_cost_priced_1.tbl) (tblY := d_cost_priced_1.tbl) (itK := d_cost_priced_1.it) (L := d_cost_priced_1.L) (body := d_cost_priced_1.body) (by kernel_rfl) (by kernel_rfl) (by kernel_rfl) hH ?_ ?_ ?_ d_cost_priced_1.L_ok k (by kernel_rfl) ((d_cost_priced_1.r_den k x1 h).trans hk)
  · intro k; exact noTbl_ok k
  · intro l' p' k; exact noTbl_ok k
  · intro k; exact noIt_ok k

/-! ### slices.IndexFunc[[]int,int]: function 97 -/
noncomputable def d_slices_IndexFunc_int_int.body : Code := match Try.f97.body with | some b => b | none => .skip
noncomputable def d_slices_IndexFunc_int_int.hint : Nat → Option (Nat × List Ck) := fun d => none
noncomputable def d_slices_IndexFunc_int_int.tbl {R : Type} : TblTy R := addF 148 [.cell .bool] d_cost_priced_1.v (noTbl)
noncomputable def d_slices_IndexFunc_int_int.it {R : Type} : ItTy R := noIt
noncomputable def d_slices_IndexFunc_int_int.b0 (k : Nat) (L0 : Option Addr → Nat → Nat → Int → Int → List Nat → Hp → Option (Value × Hp)) (a5 : Option Addr) (n6 : Nat) (c7 : Nat) (x9 : Int) (x10 : Int) (mk : List Nat) (h : Hp) : Option (Value × Hp) := bc (decide (x10 < x9)) ((ixA a5 n6 1 x10).bind fun p11 => (asI .i64 (rd h p11.1 p11.2)).bind fun x12 => (d_cost_priced_1.r k x12 h).bind fun q13 => (asB (some q13.1)).bind fun x14 => bc x14 ((takeM q13.2 mk).bind fun h15 => some (.int .i64 x10, h15)) (L0 a5 n6 c7 x9 (w64 (x10 + 1)) mk q13.2)) ((takeM h mk).bind fun h16 => some (.int .i64 (-1), h16))
noncomputable def d_slices_IndexFunc_int_int.LL : Nat → (Option Addr → Nat → Nat → Int → Int → List Nat → Hp → Option (Value × Hp))
  | 0 => fun _ _ _ _ _ _ _ => none
  | k + 1 => d_slices_IndexFunc_int_int.b0 k (d_slices_IndexFunc_int_int.LL k)
noncomputable def d_slices_IndexFunc_int_int.l0 (k : Nat) : Option Addr → Nat → Nat → Int → Int → List Nat → Hp → Option (Value × Hp) := (d_slices_IndexFunc_int_int.LL k)
theorem d_slices_IndexFunc_int_int.l0_succ (k : Nat) : d_slices_IndexFunc_int_int.l0 (k + 1) = d_slices_IndexFunc_int_int.b0 k (d_slices_IndexFunc_int_int.l0 k) := rfl
noncomputable def d_slices_IndexFunc_int_int.l0v (k : Nat) (vs : List Value) (mk : List Nat) (h : Hp) : Option (Value × Hp) := match vs with | [.slice a5 n6 c7, .func (.func _) ⟨[]⟩ ⟨[]⟩, .int .i64 x9, .int .i64 x10] => d_slices_IndexFunc_int_int.l0 k a5 n6 c7 x9 x10 mk h | _ => none
noncomputable def d_slices_IndexFunc_int_int.L : List LEnt := [.lp [(0, .cell .slc), (1, .fn 148 []), (7, .cell (.int .i64)), (8, .cell (.int .i64))] (d_slices_IndexFunc_int_int.l0v)]
noncomputable def d_slices_IndexFunc_int_int.r (k : Nat) (a1 : Option Addr) (n2 : Nat) (c3 : Nat) (h : Hp) : Option (Value × Hp) := d_slices_IndexFunc_int_int.l0 k a1 n2 c3 ((n2 : Nat) : Int) 0 [] h
noncomputable def d_slices_IndexFunc_int_int.v (k : Nat) (args : List Value) (h : Hp) : Option (Value × Hp) := castAL [.cell .slc, .fn 148 []] args fun vs => match vs with | [.slice a1 n2 c3, .func (.func _) ⟨[]⟩ ⟨[]⟩] => d_slices_IndexFunc_int_int.r k a1 n2 c3 h | _ => none
theorem d_slices_IndexFunc_int_int.l0_den (k : Nat) (a5 : Option Addr) (n6 : Nat) (c7 : Nat) (x9 : Int) (x10 : Int) (mk : List Nat) (h : Hp) (G : Tr Value) : loopF' ((ctx E1 19 d_slices_IndexFunc_int_int.hint (d_slices_IndexFunc_int_int.tbl) d_slices_IndexFunc_int_int.it (LPof (d_slices_IndexFunc_int_int.L)) (YOof (d_slices_IndexFunc_int_int.L))) k) Try.f97 pairK 0 ⟨[(0, .slice a5 n6 c7), (1, .func (.func 148) #[] #[]), (7, .int .i64 x9), (8, .int .i64 x10)], G, mk⟩ h = d_slices_IndexFunc_int_int.l0 (k + 1) a5 n6 c7 x9 x10 mk h := by kernel_rfl
theorem d_slices_IndexFunc_int_int.r_den (k : Nat) (a1 : Option Addr) (n2 : Nat) (c3 : Nat) (h : Hp) : denF ((ctx E1 19 d_slices_IndexFunc_int_int.hint (d_slices_IndexFunc_int_int.tbl) d_slices_IndexFunc_int_int.it (LPof (d_slices_IndexFunc_int_int.L)) (YOof (d_slices_IndexFunc_int_int.L))) k) Try.f97 [.slice a1 n2 c3, .func (.func 148) #[] #[]] h pairK = d_slices_IndexFunc_int_int.r k a1 n2 c3 h := by kernel_rfl
theorem d_slices_IndexFunc_int_int.L_ok : ∀ i x, (d_slices_IndexFunc_int_int.L)[i]? = some x → LOK (ctx E1 19 d_slices_IndexFunc_int_int.hint (d_slices_IndexFunc_int_int.tbl) d_slices_IndexFunc_int_int.it (LPof (d_slices_IndexFunc_int_int.L)) (YOof (d_slices_IndexFunc_int_int.L))) (ctxY E1 19 d_slices_IndexFunc_int_int.hint (d_slices_IndexFunc_int_int.tbl)) Try.f97 (todoC d_slices_IndexFunc_int_int.body []) i x := by
  refine LOK_cons (P := fun i x => LOK (ctx E1 19 d_slices_IndexFunc_int_int.hint (d_slices_IndexFunc_int_int.tbl) d_slices_IndexFunc_int_int.it (LPof (d_slices_IndexFunc_int_int.L)) (YOof (d_slices_IndexFunc_int_int.L))) (ctxY E1 19 d_slices_IndexFunc_int_int.hint (d_slices_IndexFunc_int_int.tbl)) Try.f97 (todoC d_slices_IndexFunc_int_int.body []) (i) x) ?_ ?_
  · refine ⟨by kernel_rfl, fun vs mk h ht => ?_, fun k vs mk h r ht hk G => ?_⟩
    · obtain ⟨v0, vs0, rfl, hv0, ht0⟩ := TySL_cons ht
      obtain ⟨a5, n6, c7, rfl⟩ := hv0
      obtain ⟨v1, vs1, rfl, hv1, ht1⟩ := TySL_cons ht0
      obtain ⟨cs8, rfl, hv1c⟩ := hv1
      obtain rfl := TyCL_nil hv1c
      obtain ⟨v2, vs2, rfl, hv2, ht2⟩ := TySL_cons ht1
      obtain ⟨x9, rfl⟩ := hv2
      obtain ⟨v3, vs3, rfl, hv3, ht3⟩ := TySL_cons ht2
      obtain ⟨x10, rfl⟩ := hv3
      obtain rfl := TySL_nil ht3
      rfl
    · obtain ⟨v0, vs0, rfl, hv0, ht0⟩ := TySL_cons ht
      obtain ⟨a5, n6, c7, rfl⟩ := hv0
      obtain ⟨v1, vs1, rfl, hv1, ht1⟩ := TySL_cons ht0
      obtain ⟨cs8, rfl, hv1c⟩ := hv1
      obtain rfl := TyCL_nil hv1c
      obtain ⟨v2, vs2, rfl, hv2, ht2⟩ := TySL_cons ht1
      obtain ⟨x9, rfl⟩ := hv2
      obtain ⟨v3, vs3, rfl, hv3, ht3⟩ := TySL_cons ht2
      obtain ⟨x10, rfl⟩ := hv3
      obtain rfl := TySL_nil ht3
      exact (d_slices_IndexFunc_int_int.l0_den k a5 n6 c7 x9 x10 mk h G).trans hk
  exact LOK_nil
theorem d_slices_IndexFunc_int_int.snd {H : Pl → Prop} (hH : MonoH H) (k : Nat) : SndF E1 H 97 (d_slices_IndexFunc_int_int.v k) := by
  intro args h v h1 hk
  obtain ⟨ht, hk⟩ := castAL_ok hk
  obtain ⟨v0, vs0, rfl, hv0, ht0⟩ := TyAL_cons ht
  obtain ⟨a1, n2, c3, rfl⟩ := hv0
  obtain ⟨v1, vs1, rfl, hv1, ht1⟩ := TyAL_cons ht0
  obtain ⟨cs4, rfl, hv1c⟩ := hv1
  obtain rfl := TyCL_nil hv1c
  obtain rfl := TyAL_nil ht1
  refine fn_ok' (E := E1) (N := 19) (g := 97) (F := Try.f97) (hint := d_slices_IndexFunc_int_int.hint) (tbl := d_slices_IndexFunc_int_int.tbl) (tblY := d_slices_IndexFunc_int_int.tbl) (itK := d_slices_IndexFunc_int_int.it) (L := d_slices_IndexFunc_int_int.L) (body := d_slices_IndexFunc_int_int.body) (by kernel_rfl) (by kernel_rfl) (by kernel_rfl) hH ?_ ?_ ?_ d_slices_IndexFunc_int_int.L_ok k (by kernel_rfl) ((d_slices_IndexFunc_int_int.r_den k a1 n2 c3 h).trans hk)
  · intro k; exact addF_ok (d_cost_priced_1.snd hH k) (noTbl_ok k)
  · intro l' p' k; exact addF_ok (d_cost_priced_1.snd (hH.pay _ _) k) (noTbl_ok k)
  · intro k; exact noIt_ok k

/-! ### slices.ContainsFunc[[]int,int]: function 91 -/
noncomputable def d_slices_ContainsFunc_int_int.body : Code := match Try.f91.body with | some b => b | none => .skip
noncomputable def d_slices_ContainsFunc_int_int.hint : Nat → Option (Nat × List Ck) := fun d => none
noncomputable def d_slices_ContainsFunc_int_int.tbl {R : Type} : TblTy R := addF 97 [.cell (.int .i64)] d_slices_IndexFunc_int_int.v (noTbl)
noncomputable def d_slices_ContainsFunc_int_int.it {R : Type} : ItTy R := noIt
noncomputable def d_slices_ContainsFunc_int_int.L : List LEnt := []
noncomputable def d_slices_ContainsFunc_int_int.r (k : Nat) (a1 : Option Addr) (n2 : Nat) (c3 : Nat) (h : Hp) : Option (Value × Hp) := (d_slices_IndexFunc_int_int.r k a1 n2 c3 h).bind fun q5 => (asI .i64 (some q5.1)).bind fun x6 => some (.bool (decide (x6 ≥ 0)), q5.2)
noncomputable def d_slices_ContainsFunc_int_int.v (k : Nat) (args : List Value) (h : Hp) : Option (Value × Hp) := castAL [.cell .slc, .fn 148 []] args fun vs => match vs with | [.slice a1 n2 c3, .func (.func _) ⟨[]⟩ ⟨[]⟩] => d_slices_ContainsFunc_int_int.r k a1 n2 c3 h | _ => none
theorem d_slices_ContainsFunc_int_int.r_den (k : Nat) (a1 : Option Addr) (n2 : Nat) (c3 : Nat) (h : Hp) : denF ((ctx E1 9 d_slices_ContainsFunc_int_int.hint (d_slices_ContainsFunc_int_int.tbl) d_slices_ContainsFunc_int_int.it (LPof (d_slices_ContainsFunc_int_int.L)) (YOof (d_slices_ContainsFunc_int_int.L))) k) Try.f91 [.slice a1 n2 c3, .func (.func 148) #[] #[]] h pairK = d_slices_ContainsFunc_int_int.r k a1 n2 c3 h := by kernel_rfl
theorem d_slices_ContainsFunc_int_int.L_ok : ∀ i x, (d_slices_ContainsFunc_int_int.L)[i]? = some x → LOK (ctx E1 9 d_slices_ContainsFunc_int_int.hint (d_slices_ContainsFunc_int_int.tbl) d_slices_ContainsFunc_int_int.it (LPof (d_slices_ContainsFunc_int_int.L)) (YOof (d_slices_ContainsFunc_int_int.L))) (ctxY E1 9 d_slices_ContainsFunc_int_int.hint (d_slices_ContainsFunc_int_int.tbl)) Try.f91 (todoC d_slices_ContainsFunc_int_int.body []) i x := by
  exact LOK_nil
theorem d_slices_ContainsFunc_int_int.snd {H : Pl → Prop} (hH : MonoH H) (k : Nat) : SndF E1 H 91 (d_slices_ContainsFunc_int_int.v k) := by
  intro args h v h1 hk
  obtain ⟨ht, hk⟩ := castAL_ok hk
  obtain ⟨v0, vs0, rfl, hv0, ht0⟩ := TyAL_cons ht
  obtain ⟨a1, n2, c3, rfl⟩ := hv0
  obtain ⟨v1, vs1, rfl, hv1, ht1⟩ := TyAL_cons ht0
  obtain ⟨cs4, rfl, hv1c⟩ := hv1
  obtain rfl := TyCL_nil hv1c
  obtain rfl := TyAL_nil ht1
  refine fn_ok' (E := E1) (N := 9) (g := 91) (F := Try.f91) (hint := d_slices_ContainsFunc_int_int.hint) (tbl := d_slices_ContainsFunc_int_int.tbl) (tblY := d_slices_ContainsFunc_int_int.tbl) (itK := d_slices_ContainsFunc_int_int.it) (L := d_slices_ContainsFunc_int_int.L) (body := d_slices_ContainsFunc_int_int.body) (by kernel_rfl) (by kernel_rfl) (by kernel_rfl) hH ?_ ?_ ?_ d_slices_ContainsFunc_int_int.L_ok k (by kernel_rfl) ((d_slices_ContainsFunc_int_int.r_den k a1 n2 c3 h).trans hk)
  · intro k; exact addF_ok (d_slices_IndexFunc_int_int.snd hH k) (noTbl_ok k)
  · intro l' p' k; exact addF_ok (d_slices_IndexFunc_int_int.snd (hH.pay _ _) k) (noTbl_ok k)
  · intro k; exact noIt_ok k

/-! ### weirgate/cost.priced: function 121 -/
noncomputable def d_cost_priced.body : Code := match Try.f121.body with | some b => b | none => .skip
noncomputable def d_cost_priced.hint : Nat → Option (Nat × List Ck) := fun d => none
noncomputable def d_cost_priced.tbl {R : Type} : TblTy R := addF 91 [.cell .bool] d_slices_ContainsFunc_int_int.v (noTbl)
noncomputable def d_cost_priced.it {R : Type} : ItTy R := noIt
noncomputable def d_cost_priced.b0 (k : Nat) (L0 : Nat → Nat → Option Addr → Nat → Nat → Int → Int → List Nat → Hp → Option (Value × Hp)) (b58 : Nat) (o59 : Nat) (a60 : Option Addr) (n61 : Nat) (c62 : Nat) (x63 : Int) (x64 : Int) (mk : List Nat) (h : Hp) : Option (Value × Hp) := bc (decide (x64 < x63)) ((ixA a60 n61 4 x64).bind fun p65 => (asI .i64 (rd h p65.1 p65.2)).bind fun x66 => (asI .i64 (rd h p65.1 (p65.2 + 1))).bind fun x67 => (asI .i64 (rd h p65.1 (p65.2 + 2))).bind fun x68 => (asI .i64 (rd h p65.1 (p65.2 + 3))).bind fun x69 => lt (h.new (.row 0 [.int .i64 0, .int .i64 0, .int .i64 0, .int .i64 0])) fun h70 => (wr h70 h.next 0 [.int .i64 x66, .int .i64 x67, .int .i64 x68, .int .i64 x69]).bind fun h71 => (asI .i64 (rd h71 h.next (0 + 3))).bind fun x72 => ckB (Nat.ble (h.next + 1) h71.next) ((asS (rd h71 b58 (o59 + 3))).bind fun s73 => ckB (Nat.ble (b58 + 1) h71.next) ((asI .i64 (rd h71 h.next 0)).bind fun x74 => ckB (Nat.ble (h.next + 1) h71.next) ((ixA s73.a s73.n 1 x74).bind fun p75 => (asI .i64 (rd h71 p75.1 p75.2)).bind fun x76 => ckB (Nat.ble (p75.1 + 1) h71.next) ((asS (rd h71 b58 (o59 + 3))).bind fun s77 => ckB (Nat.ble (b58 + 1) h71.next) ((asI .i64 (rd h71 h.next (0 + 1))).bind fun x78 => ckB (Nat.ble (h.next + 1) h71.next) ((ixA s77.a s77.n 1 x78).bind fun p79 => (asI .i64 (rd h71 p79.1 p79.2)).bind fun x80 => ckB (Nat.ble (p79.1 + 1) h71.next) ((asS (rd h71 b58 (o59 + 2))).bind fun s81 => ckB (Nat.ble (b58 + 1) h71.next) ((ixA s81.a s81.n 1 x64).bind fun p82 => (asI .i64 (rd h71 p82.1 p82.2)).bind fun x83 => ckB (Nat.ble (p82.1 + 1) h71.next) ((asI .i64 (rd h71 h.next (0 + 2))).bind fun x84 => ckB (Nat.ble (h.next + 1) h71.next) (bc (decide (x83 < x84)) (bc (!(decide ((w64 ((w64 (x72 + x76)) - x80)) < 0))) ((asS (rd h71 b58 (o59 + 2))).bind fun s85 => ckB (Nat.ble (b58 + 1) h71.next) ((ixA s85.a s85.n 1 x64).bind fun p86 => (asI .i64 (rd h71 p86.1 p86.2)).bind fun x87 => ckB (Nat.ble (p86.1 + 1) h71.next) (bc (decide (x87 > 0)) (bc (decide ((w64 ((w64 (x72 + x76)) - x80)) > 0)) ((takeM h71 mk).bind fun h88 => some (.bool false, h88)) (L0 b58 o59 a60 n61 c62 x63 (w64 (x64 + 1)) mk h71)) (L0 b58 o59 a60 n61 c62 x63 (w64 (x64 + 1)) mk h71)))) ((takeM h71 mk).bind fun h89 => some (.bool false, h89))) ((asS (rd h71 b58 (o59 + 2))).bind fun s90 => ckB (Nat.ble (b58 + 1) h71.next) ((ixA s90.a s90.n 1 x64).bind fun p91 => (asI .i64 (rd h71 p91.1 p91.2)).bind fun x92 => ckB (Nat.ble (p91.1 + 1) h71.next) (bc (decide (x92 > 0)) (bc (decide ((w64 ((w64 (x72 + x76)) - x80)) > 0)) ((takeM h71 mk).bind fun h93 => some (.bool false, h93)) (L0 b58 o59 a60 n61 c62 x63 (w64 (x64 + 1)) mk h71)) (L0 b58 o59 a60 n61 c62 x63 (w64 (x64 + 1)) mk h71))))))))))))))) ((takeM h mk).bind fun h94 => some (.bool true, h94))
noncomputable def d_cost_priced.LL : Nat → (Nat → Nat → Option Addr → Nat → Nat → Int → Int → List Nat → Hp → Option (Value × Hp))
  | 0 => fun _ _ _ _ _ _ _ _ _ => none
  | k + 1 => d_cost_priced.b0 k (d_cost_priced.LL k)
noncomputable def d_cost_priced.l0 (k : Nat) : Nat → Nat → Option Addr → Nat → Nat → Int → Int → List Nat → Hp → Option (Value × Hp) := (d_cost_priced.LL k)
theorem d_cost_priced.l0_succ (k : Nat) : d_cost_priced.l0 (k + 1) = d_cost_priced.b0 k (d_cost_priced.l0 k) := rfl
noncomputable def d_cost_priced.l0v (k : Nat) (vs : List Value) (mk : List Nat) (h : Hp) : Option (Value × Hp) := match vs with | [.pointer (some ⟨b58, o59, none⟩), .slice a60 n61 c62, .int .i64 x63, .int .i64 x64] => d_cost_priced.l0 k b58 o59 a60 n61 c62 x63 x64 mk h | _ => none
noncomputable def d_cost_priced.L : List LEnt := [.lp [(5, .cell .ptr), (30, .cell .slc), (31, .cell (.int .i64)), (32, .cell (.int .i64))] (d_cost_priced.l0v)]
noncomputable def d_cost_priced.r (k : Nat) (x2 : Int) (a7 : Option Addr) (n8 : Nat) (c9 : Nat) (x14 : Int) (x16 : Int) (x21 : Int) (a26 : Option Addr) (n27 : Nat) (c28 : Nat) (a33 : Option Addr) (n34 : Nat) (c35 : Nat) (a40 : Option Addr) (n41 : Nat) (c42 : Nat) (h : Hp) : Option (Value × Hp) := lt (h.new (.row 0 [.int .i64 x2, .slice a7 n8 c9])) fun h47 => lt (h47.new (.row 0 [.int .i64 x16, .int .i64 x21, .slice a26 n27 c28, .slice a33 n34 c35, .slice a40 n41 c42])) fun h48 => (asS (rd h48 h47.next (0 + 3))).bind fun s49 => (asI .i64 (rd h48 h.next 0)).bind fun x50 => bc (!(!(((s49.n : Nat) : Int) == x50))) ((asS (rd h48 h47.next (0 + 3))).bind fun s51 => (ixA s51.a s51.n 1 x14).bind fun p52 => (asI .i64 (rd h48 p52.1 p52.2)).bind fun x53 => bc (!(!(x53 == 0))) ((asS (rd h48 h47.next (0 + 3))).bind fun s54 => (d_slices_ContainsFunc_int_int.r k s54.a s54.n s54.c h48).bind fun q55 => (asB (some q55.1)).bind fun x56 => bc x56 (some (.bool false, q55.2)) ((asS (rd q55.2 h.next (0 + 1))).bind fun s57 => d_cost_priced.l0 k h47.next 0 s57.a s57.n s57.c ((s57.n : Nat) : Int) 0 [] q55.2)) (some (.bool false, h48))) (some (.bool false, h48))
noncomputable def d_cost_priced.v (k : Nat) (args : List Value) (h : Hp) : Option (Value × Hp) := castAL [.agg [.int .i64, .slc], .cell (.int .i64), .agg [.int .i64, .int .i64, .slc, .slc, .slc]] args fun vs => match vs with | [.agg ⟨[.int .i64 x2, .slice a7 n8 c9]⟩, .int .i64 x14, .agg ⟨[.int .i64 x16, .int .i64 x21, .slice a26 n27 c28, .slice a33 n34 c35, .slice a40 n41 c42]⟩] => d_cost_priced.r k x2 a7 n8 c9 x14 x16 x21 a26 n27 c28 a33 n34 c35 a40 n41 c42 h | _ => none
theorem d_cost_priced.l0_den (k : Nat) (b58 : Nat) (o59 : Nat) (a60 : Option Addr) (n61 : Nat) (c62 : Nat) (x63 : Int) (x64 : Int) (mk : List Nat) (h : Hp) (G : Tr Value) : loopF' ((ctx E1 78 d_cost_priced.hint (d_cost_priced.tbl) d_cost_priced.it (LPof (d_cost_priced.L)) (YOof (d_cost_priced.L))) k) Try.f121 pairK 0 ⟨[(5, .pointer (some ⟨b58, o59, none⟩)), (30, .slice a60 n61 c62), (31, .int .i64 x63), (32, .int .i64 x64)], G, mk⟩ h = d_cost_priced.l0 (k + 1) b58 o59 a60 n61 c62 x63 x64 mk h := by kernel_rfl
theorem d_cost_priced.r_den (k : Nat) (x2 : Int) (a7 : Option Addr) (n8 : Nat) (c9 : Nat) (x14 : Int) (x16 : Int) (x21 : Int) (a26 : Option Addr) (n27 : Nat) (c28 : Nat) (a33 : Option Addr) (n34 : Nat) (c35 : Nat) (a40 : Option Addr) (n41 : Nat) (c42 : Nat) (h : Hp) : denF ((ctx E1 78 d_cost_priced.hint (d_cost_priced.tbl) d_cost_priced.it (LPof (d_cost_priced.L)) (YOof (d_cost_priced.L))) k) Try.f121 [.agg #[.int .i64 x2, .slice a7 n8 c9], .int .i64 x14, .agg #[.int .i64 x16, .int .i64 x21, .slice a26 n27 c28, .slice a33 n34 c35, .slice a40 n41 c42]] h pairK = d_cost_priced.r k x2 a7 n8 c9 x14 x16 x21 a26 n27 c28 a33 n34 c35 a40 n41 c42 h := by kernel_rfl
theorem d_cost_priced.L_ok : ∀ i x, (d_cost_priced.L)[i]? = some x → LOK (ctx E1 78 d_cost_priced.hint (d_cost_priced.tbl) d_cost_priced.it (LPof (d_cost_priced.L)) (YOof (d_cost_priced.L))) (ctxY E1 78 d_cost_priced.hint (d_cost_priced.tbl)) Try.f121 (todoC d_cost_priced.body []) i x := by
  refine LOK_cons (P := fun i x => LOK (ctx E1 78 d_cost_priced.hint (d_cost_priced.tbl) d_cost_priced.it (LPof (d_cost_priced.L)) (YOof (d_cost_priced.L))) (ctxY E1 78 d_cost_priced.hint (d_cost_priced.tbl)) Try.f121 (todoC d_cost_priced.body []) (i) x) ?_ ?_
  · refine ⟨by kernel_rfl, fun vs mk h ht => ?_, fun k vs mk h r ht hk G => ?_⟩
    · obtain ⟨v0, vs0, rfl, hv0, ht0⟩ := TySL_cons ht
      obtain ⟨b58, o59, rfl⟩ := hv0
      obtain ⟨v1, vs1, rfl, hv1, ht1⟩ := TySL_cons ht0
      obtain ⟨a60, n61, c62, rfl⟩ := hv1
      obtain ⟨v2, vs2, rfl, hv2, ht2⟩ := TySL_cons ht1
      obtain ⟨x63, rfl⟩ := hv2
      obtain ⟨v3, vs3, rfl, hv3, ht3⟩ := TySL_cons ht2
      obtain ⟨x64, rfl⟩ := hv3
      obtain rfl := TySL_nil ht3
      rfl
    · obtain ⟨v0, vs0, rfl, hv0, ht0⟩ := TySL_cons ht
      obtain ⟨b58, o59, rfl⟩ := hv0
      obtain ⟨v1, vs1, rfl, hv1, ht1⟩ := TySL_cons ht0
      obtain ⟨a60, n61, c62, rfl⟩ := hv1
      obtain ⟨v2, vs2, rfl, hv2, ht2⟩ := TySL_cons ht1
      obtain ⟨x63, rfl⟩ := hv2
      obtain ⟨v3, vs3, rfl, hv3, ht3⟩ := TySL_cons ht2
      obtain ⟨x64, rfl⟩ := hv3
      obtain rfl := TySL_nil ht3
      exact (d_cost_priced.l0_den k b58 o59 a60 n61 c62 x63 x64 mk h G).trans hk
  exact LOK_nil
theorem d_cost_priced.snd {H : Pl → Prop} (hH : MonoH H) (k : Nat) : SndF E1 H 121 (d_cost_priced.v k) := by
  intro args h v h1 hk
  obtain ⟨ht, hk⟩ := castAL_ok hk
  obtain ⟨v0, vs0, rfl, hv0, ht0⟩ := TyAL_cons ht
  obtain ⟨cs1, rfl, hv0c⟩ := hv0
  obtain ⟨w4, cs3, rfl, hw5, hc6⟩ := TyCL_cons hv0c
  obtain ⟨x2, rfl⟩ := hw5
  obtain ⟨w11, cs10, rfl, hw12, hc13⟩ := TyCL_cons hc6
  obtain ⟨a7, n8, c9, rfl⟩ := hw12
  obtain rfl := TyCL_nil hc13
  obtain ⟨v1, vs1, rfl, hv1, ht1⟩ := TyAL_cons ht0
  obtain ⟨x14, rfl⟩ := hv1
  obtain ⟨v2, vs2, rfl, hv2, ht2⟩ := TyAL_cons ht1
  obtain ⟨cs15, rfl, hv2c⟩ := hv2
  obtain ⟨w18, cs17, rfl, hw19, hc20⟩ := TyCL_cons hv2c
  obtain ⟨x16, rfl⟩ := hw19
  obtain ⟨w23, cs22, rfl, hw24, hc25⟩ := TyCL_cons hc20
  obtain ⟨x21, rfl⟩ := hw24
  obtain ⟨w30, cs29, rfl, hw31, hc32⟩ := TyCL_cons hc25
  obtain ⟨a26, n27, c28, rfl⟩ := hw31
  obtain ⟨w37, cs36, rfl, hw38, hc39⟩ := TyCL_cons hc32
  obtain ⟨a33, n34, c35, rfl⟩ := hw38
  obtain ⟨w44, cs43, rfl, hw45, hc46⟩ := TyCL_cons hc39
  obtain ⟨a40, n41, c42, rfl⟩ := hw45
  obtain rfl := TyCL_nil hc46
  obtain rfl := TyAL_nil ht2
  refine fn_ok' (E := E1) (N := 78) (g := 121) (F := Try.f121) (hint := d_cost_priced.hint) (tbl := d_cost_priced.tbl) (tblY := d_cost_priced.tbl) (itK := d_cost_priced.it) (L := d_cost_priced.L) (body := d_cost_priced.body) (by kernel_rfl) (by kernel_rfl) (by kernel_rfl) hH ?_ ?_ ?_ d_cost_priced.L_ok k (by kernel_rfl) ((d_cost_priced.r_den k x2 a7 n8 c9 x14 x16 x21 a26 n27 c28 a33 n34 c35 a40 n41 c42 h).trans hk)
  · intro k; exact addF_ok (d_slices_ContainsFunc_int_int.snd hH k) (noTbl_ok k)
  · intro l' p' k; exact addF_ok (d_slices_ContainsFunc_int_int.snd (hH.pay _ _) k) (noTbl_ok k)
  · intro k; exact noIt_ok k
end Go.Proofs.Ytgikimegikelkaa.Dn
