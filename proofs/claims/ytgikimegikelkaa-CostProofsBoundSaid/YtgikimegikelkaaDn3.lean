/- Functions of the program, told over a heap, with their proofs against the machine of lists and tries (printed by dprint.py). -/
import Derived.Test.YtgikimegikelkaaAbE
import Derived.Test.YtgikimegikelkaaAbDen8
import Derived.Test.YtgikimegikelkaaDn2
namespace Go.Proofs.Ytgikimegikelkaa.Dn
open Go Go.Proofs.Ytgikimegikelkaa.Ab Go.Proofs.Ytgikimegikelkaa.AbT Go.Proofs
set_option linter.unusedVariables false
set_option linter.unusedSimpArgs false
set_option maxRecDepth 100000
/-! ### weirgate/weirgateref11.Check: function 53 -/
noncomputable def d_ref11_Check.body : Code := match Try.f53.body with | some b => b | none => .skip
noncomputable def d_ref11_Check.hint : Nat → Option (Nat × List Ck) := fun d => none
noncomputable def d_ref11_Check.tbl {R : Type} : TblTy R := addF 109 [.cell .bool] d_ref11_Node.v (noTbl)
noncomputable def d_ref11_Check.it {R : Type} : ItTy R := noIt
noncomputable def d_ref11_Check.b0 (k : Nat) (L0 : Nat → Nat → Int → List Nat → Hp → Option (Value × Hp)) (b18 : Nat) (o19 : Nat) (x20 : Int) (mk : List Nat) (h : Hp) : Option (Value × Hp) := (asS (rd h b18 (o19 + 1))).bind fun s21 => bc (decide (x20 < ((s21.n : Nat) : Int))) ((asS (rd h b18 (o19 + 1))).bind fun s22 => (ixA s22.a s22.n 4 x20).bind fun p23 => (asI .i64 (rd h p23.1 p23.2)).bind fun x24 => (asI .i64 (rd h p23.1 (p23.2 + 1))).bind fun x25 => (asI .i64 (rd h p23.1 (p23.2 + 2))).bind fun x26 => (asI .i64 (rd h p23.1 (p23.2 + 3))).bind fun x27 => lt (h.new (.row 0 [.int .i64 0, .int .i64 0, .int .i64 0, .int .i64 0])) fun h28 => (wr h28 h.next 0 [.int .i64 x24, .int .i64 x25, .int .i64 x26, .int .i64 x27]).bind fun h29 => (asI .i64 (rd h29 b18 o19)).bind fun x30 => (asS (rd h29 b18 (o19 + 1))).bind fun s31 => (asI .i64 (rd h29 h.next 0)).bind fun x32 => (d_ref11_Node.r k x30 s31.a s31.n s31.c x32 h29).bind fun q33 => (asB (some q33.1)).bind fun x34 => bc (!(!x34)) ((asI .i64 (rd q33.2 b18 o19)).bind fun x35 => (asS (rd q33.2 b18 (o19 + 1))).bind fun s36 => (asI .i64 (rd q33.2 h.next (0 + 1))).bind fun x37 => (d_ref11_Node.r k x35 s36.a s36.n s36.c x37 q33.2).bind fun q38 => (asB (some q38.1)).bind fun x39 => bc (!(!x39)) ((asI .i64 (rd q38.2 h.next 0)).bind fun x40 => (asI .i64 (rd q38.2 h.next (0 + 1))).bind fun x41 => bc (!(x40 == x41)) ((asI .i64 (rd q38.2 h.next (0 + 2))).bind fun x42 => bc (!(decide (x42 < 0))) ((asI .i64 (rd q38.2 h.next (0 + 2))).bind fun x43 => bc (!(decide (x43 > 1073741824))) ((asI .i64 (rd q38.2 h.next (0 + 3))).bind fun x44 => bc (!(decide (x44 < 0))) ((asI .i64 (rd q38.2 h.next (0 + 3))).bind fun x45 => bc (decide (x45 > 1048576)) ((takeM q38.2 mk).bind fun h46 => some (.int .i64 1, h46)) (L0 b18 o19 (w64 (x20 + 1)) mk q38.2)) ((takeM q38.2 mk).bind fun h47 => some (.int .i64 1, h47))) ((takeM q38.2 mk).bind fun h48 => some (.int .i64 1, h48))) ((takeM q38.2 mk).bind fun h49 => some (.int .i64 1, h49))) ((takeM q38.2 mk).bind fun h50 => some (.int .i64 1, h50))) ((takeM q38.2 mk).bind fun h51 => some (.int .i64 1, h51))) ((takeM q33.2 mk).bind fun h52 => some (.int .i64 1, h52))) ((takeM h mk).bind fun h53 => some (.int .i64 0, h53))
noncomputable def d_ref11_Check.LL : Nat → (Nat → Nat → Int → List Nat → Hp → Option (Value × Hp))
  | 0 => fun _ _ _ _ _ => none
  | k + 1 => d_ref11_Check.b0 k (d_ref11_Check.LL k)
noncomputable def d_ref11_Check.l0 (k : Nat) : Nat → Nat → Int → List Nat → Hp → Option (Value × Hp) := (d_ref11_Check.LL k)
theorem d_ref11_Check.l0_succ (k : Nat) : d_ref11_Check.l0 (k + 1) = d_ref11_Check.b0 k (d_ref11_Check.l0 k) := rfl
noncomputable def d_ref11_Check.l0v (k : Nat) (vs : List Value) (mk : List Nat) (h : Hp) : Option (Value × Hp) := match vs with | [.pointer (some ⟨b18, o19, none⟩), .int .i64 x20] => d_ref11_Check.l0 k b18 o19 x20 mk h | _ => none
noncomputable def d_ref11_Check.L : List LEnt := [.lp [(1, .cell .ptr), (3, .cell (.int .i64))] (d_ref11_Check.l0v)]
noncomputable def d_ref11_Check.r (k : Nat) (x2 : Int) (a7 : Option Addr) (n8 : Nat) (c9 : Nat) (h : Hp) : Option (Value × Hp) := lt (h.new (.row 0 [.int .i64 x2, .slice a7 n8 c9])) fun h14 => (asI .i64 (rd h14 h.next 0)).bind fun x15 => bc (!(decide (x15 > 256))) ((asS (rd h14 h.next (0 + 1))).bind fun s16 => bc (decide (((s16.n : Nat) : Int) > 2048)) (some (.int .i64 2, h14)) ((asI .i64 (rd h14 h.next 0)).bind fun x17 => bc (decide (x17 < 1)) (some (.int .i64 1, h14)) (d_ref11_Check.l0 k h.next 0 0 [] h14))) (some (.int .i64 2, h14))
noncomputable def d_ref11_Check.v (k : Nat) (args : List Value) (h : Hp) : Option (Value × Hp) := castAL [.agg [.int .i64, .slc]] args fun vs => match vs with | [.agg ⟨[.int .i64 x2, .slice a7 n8 c9]⟩] => d_ref11_Check.r k x2 a7 n8 c9 h | _ => none
theorem d_ref11_Check.l0_den (k : Nat) (b18 : Nat) (o19 : Nat) (x20 : Int) (mk : List Nat) (h : Hp) (G : Tr Value) : loopF' ((ctx E1 68 d_ref11_Check.hint (d_ref11_Check.tbl) d_ref11_Check.it (LPof (d_ref11_Check.L)) (YOof (d_ref11_Check.L))) k) Try.f53 pairK 0 ⟨[(1, .pointer (some ⟨b18, o19, none⟩)), (3, .int .i64 x20)], G, mk⟩ h = d_ref11_Check.l0 (k + 1) b18 o19 x20 mk h := by kernel_rfl
theorem d_ref11_Check.r_den (k : Nat) (x2 : Int) (a7 : Option Addr) (n8 : Nat) (c9 : Nat) (h : Hp) : denF ((ctx E1 68 d_ref11_Check.hint (d_ref11_Check.tbl) d_ref11_Check.it (LPof (d_ref11_Check.L)) (YOof (d_ref11_Check.L))) k) Try.f53 [.agg #[.int .i64 x2, .slice a7 n8 c9]] h pairK = d_ref11_Check.r k x2 a7 n8 c9 h := by kernel_rfl
theorem d_ref11_Check.L_ok : ∀ i x, (d_ref11_Check.L)[i]? = some x → LOK (ctx E1 68 d_ref11_Check.hint (d_ref11_Check.tbl) d_ref11_Check.it (LPof (d_ref11_Check.L)) (YOof (d_ref11_Check.L))) (ctxY E1 68 d_ref11_Check.hint (d_ref11_Check.tbl)) Try.f53 (todoC d_ref11_Check.body []) i x := by
  refine LOK_cons (P := fun i x => LOK (ctx E1 68 d_ref11_Check.hint (d_ref11_Check.tbl) d_ref11_Check.it (LPof (d_ref11_Check.L)) (YOof (d_ref11_Check.L))) (ctxY E1 68 d_ref11_Check.hint (d_ref11_Check.tbl)) Try.f53 (todoC d_ref11_Check.body []) (i) x) ?_ ?_
  · refine ⟨by kernel_rfl, fun vs mk h ht => ?_, fun k vs mk h r ht hk G => ?_⟩
    · obtain ⟨v0, vs0, rfl, hv0, ht0⟩ := TySL_cons ht
      obtain ⟨b18, o19, rfl⟩ := hv0
      obtain ⟨v1, vs1, rfl, hv1, ht1⟩ := TySL_cons ht0
      obtain ⟨x20, rfl⟩ := hv1
      obtain rfl := TySL_nil ht1
      rfl
    · obtain ⟨v0, vs0, rfl, hv0, ht0⟩ := TySL_cons ht
      obtain ⟨b18, o19, rfl⟩ := hv0
      obtain ⟨v1, vs1, rfl, hv1, ht1⟩ := TySL_cons ht0
      obtain ⟨x20, rfl⟩ := hv1
      obtain rfl := TySL_nil ht1
      exact (d_ref11_Check.l0_den k b18 o19 x20 mk h G).trans hk
  exact LOK_nil
theorem d_ref11_Check.snd {H : Pl → Prop} (hH : MonoH H) (k : Nat) : SndF E1 H 53 (d_ref11_Check.v k) := by
  intro args h v h1 hk
  obtain ⟨ht, hk⟩ := castAL_ok hk
  obtain ⟨v0, vs0, rfl, hv0, ht0⟩ := TyAL_cons ht
  obtain ⟨cs1, rfl, hv0c⟩ := hv0
  obtain ⟨w4, cs3, rfl, hw5, hc6⟩ := TyCL_cons hv0c
  obtain ⟨x2, rfl⟩ := hw5
  obtain ⟨w11, cs10, rfl, hw12, hc13⟩ := TyCL_cons hc6
  obtain ⟨a7, n8, c9, rfl⟩ := hw12
  obtain rfl := TyCL_nil hc13
  obtain rfl := TyAL_nil ht0
  refine fn_ok' (E := E1) (N := 68) (g := 53) (F := Try.f53) (hint := d_ref11_Check.hint) (tbl := d_ref11_Check.tbl) (tblY := d_ref11_Check.tbl) (itK := d_ref11_Check.it) (L := d_ref11_Check.L) (body := d_ref11_Check.body) (by kernel_rfl) (by kernel_rfl) (by kernel_rfl) hH ?_ ?_ ?_ d_ref11_Check.L_ok k (by kernel_rfl) ((d_ref11_Check.r_den k x2 a7 n8 c9 h).trans hk)
  · intro k; exact addF_ok (d_ref11_Node.snd hH k) (noTbl_ok k)
  · intro l' p' k; exact addF_ok (d_ref11_Node.snd (hH.pay _ _) k) (noTbl_ok k)
  · intro k; exact noIt_ok k

/-! ### weirgate/weirgateref11.Task: function 55 -/
noncomputable def d_ref11_Task.body : Code := match Try.f55.body with | some b => b | none => .skip
noncomputable def d_ref11_Task.hint : Nat → Option (Nat × List Ck) := fun d => none
noncomputable def d_ref11_Task.tbl {R : Type} : TblTy R := addF 53 [.cell (.int .i64)] d_ref11_Check.v (addF 109 [.cell .bool] d_ref11_Node.v (noTbl))
noncomputable def d_ref11_Task.it {R : Type} : ItTy R := noIt
noncomputable def d_ref11_Task.L : List LEnt := []
noncomputable def d_ref11_Task.r (k : Nat) (x2 : Int) (a7 : Option Addr) (n8 : Nat) (c9 : Nat) (x14 : Int) (x15 : Int) (x16 : Int) (h : Hp) : Option (Value × Hp) := lt (h.new (.row 0 [.int .i64 x2, .slice a7 n8 c9])) fun h17 => (asI .i64 (rd h17 h.next 0)).bind fun x18 => (asS (rd h17 h.next (0 + 1))).bind fun s19 => (d_ref11_Check.r k x18 s19.a s19.n s19.c h17).bind fun q20 => (asI .i64 (some q20.1)).bind fun x21 => bc (x21 == 0) ((asI .i64 (rd q20.2 h.next 0)).bind fun x22 => (asS (rd q20.2 h.next (0 + 1))).bind fun s23 => (d_ref11_Node.r k x22 s23.a s23.n s23.c x14 q20.2).bind fun q24 => (asB (some q24.1)).bind fun x25 => bc x25 ((asI .i64 (rd q24.2 h.next 0)).bind fun x26 => (asS (rd q24.2 h.next (0 + 1))).bind fun s27 => (d_ref11_Node.r k x26 s27.a s27.n s27.c x15 q24.2).bind fun q28 => (asB (some q28.1)).bind fun x29 => bc x29 (bc (!(x14 == x15)) (bc (decide (x16 ≥ 0)) (some (.bool (decide (x16 ≤ 2199023255552)), q28.2)) (some (.bool false, q28.2))) (some (.bool false, q28.2))) (some (.bool false, q28.2))) (some (.bool false, q24.2))) (some (.bool false, q20.2))
noncomputable def d_ref11_Task.v (k : Nat) (args : List Value) (h : Hp) : Option (Value × Hp) := castAL [.agg [.int .i64, .slc], .cell (.int .i64), .cell (.int .i64), .cell (.int .i64)] args fun vs => match vs with | [.agg ⟨[.int .i64 x2, .slice a7 n8 c9]⟩, .int .i64 x14, .int .i64 x15, .int .i64 x16] => d_ref11_Task.r k x2 a7 n8 c9 x14 x15 x16 h | _ => none
theorem d_ref11_Task.r_den (k : Nat) (x2 : Int) (a7 : Option Addr) (n8 : Nat) (c9 : Nat) (x14 : Int) (x15 : Int) (x16 : Int) (h : Hp) : denF ((ctx E1 35 d_ref11_Task.hint (d_ref11_Task.tbl) d_ref11_Task.it (LPof (d_ref11_Task.L)) (YOof (d_ref11_Task.L))) k) Try.f55 [.agg #[.int .i64 x2, .slice a7 n8 c9], .int .i64 x14, .int .i64 x15, .int .i64 x16] h pairK = d_ref11_Task.r k x2 a7 n8 c9 x14 x15 x16 h := by kernel_rfl
theorem d_ref11_Task.L_ok : ∀ i x, (d_ref11_Task.L)[i]? = some x → LOK (ctx E1 35 d_ref11_Task.hint (d_ref11_Task.tbl) d_ref11_Task.it (LPof (d_ref11_Task.L)) (YOof (d_ref11_Task.L))) (ctxY E1 35 d_ref11_Task.hint (d_ref11_Task.tbl)) Try.f55 (todoC d_ref11_Task.body []) i x := by
  exact LOK_nil
theorem d_ref11_Task.snd {H : Pl → Prop} (hH : MonoH H) (k : Nat) : SndF E1 H 55 (d_ref11_Task.v k) := by
  intro args h v h1 hk
  obtain ⟨ht, hk⟩ := castAL_ok hk
  obtain ⟨v0, vs0, rfl, hv0, ht0⟩ := TyAL_cons ht
  obtain ⟨cs1, rfl, hv0c⟩ := hv0
  obtain ⟨w4, cs3, rfl, hw5, hc6⟩ := TyCL_cons hv0c
  obtain ⟨x2, rfl⟩ := hw5
  obtain ⟨w11, cs10, rfl, hw12, hc13⟩ := TyCL_cons hc6
  obtain ⟨a7, n8, c9, rfl⟩ := hw12
  obtain rfl := TyCL_nil hc13
  obtain ⟨v1, vs1, rfl, hv1, ht1⟩ := TyAL_cons ht0
  obtain ⟨x14, rfl⟩ := hv1
  obtain ⟨v2, vs2, rfl, hv2, ht2⟩ := TyAL_cons ht1
  obtain ⟨x15, rfl⟩ := hv2
  obtain ⟨v3, vs3, rfl, hv3, ht3⟩ := TyAL_cons ht2
  obtain ⟨x16, rfl⟩ := hv3
  obtain rfl := TyAL_nil ht3
  refine fn_ok' (E := E1) (N := 35) (g := 55) (F := Try.f55) (hint := d_ref11_Task.hint) (tbl := d_ref11_Task.tbl) (tblY := d_ref11_Task.tbl) (itK := d_ref11_Task.it) (L := d_ref11_Task.L) (body := d_ref11_Task.body) (by kernel_rfl) (by kernel_rfl) (by kernel_rfl) hH ?_ ?_ ?_ d_ref11_Task.L_ok k (by kernel_rfl) ((d_ref11_Task.r_den k x2 a7 n8 c9 x14 x15 x16 h).trans hk)
  · intro k; exact addF_ok (d_ref11_Check.snd hH k) (addF_ok (d_ref11_Node.snd hH k) (noTbl_ok k))
  · intro l' p' k; exact addF_ok (d_ref11_Check.snd (hH.pay _ _) k) (addF_ok (d_ref11_Node.snd (hH.pay _ _) k) (noTbl_ok k))
  · intro k; exact noIt_ok k

/-! ### weirgate/cost.task: function 111 -/
noncomputable def d_cost_task.body : Code := match Try.f111.body with | some b => b | none => .skip
noncomputable def d_cost_task.hint : Nat → Option (Nat × List Ck) := fun d => none
noncomputable def d_cost_task.tbl {R : Type} : TblTy R := noTbl
noncomputable def d_cost_task.it {R : Type} : ItTy R := noIt
noncomputable def d_cost_task.L : List LEnt := []
noncomputable def d_cost_task.r (k : Nat) (x2 : Int) (a7 : Option Addr) (n8 : Nat) (c9 : Nat) (x14 : Int) (x15 : Int) (x16 : Int) (h : Hp) : Option (Value × Hp) := lt (h.new (.row 0 [.int .i64 x2, .slice a7 n8 c9])) fun h17 => bc (decide (x14 ≥ 0)) ((asI .i64 (rd h17 h.next 0)).bind fun x18 => bc (decide (x14 < x18)) (bc (decide (x15 ≥ 0)) ((asI .i64 (rd h17 h.next 0)).bind fun x19 => bc (decide (x15 < x19)) (bc (!(x14 == x15)) (bc (decide (x16 ≥ 0)) (some (.bool (decide (x16 ≤ 2199023255552)), h17)) (some (.bool false, h17))) (some (.bool false, h17))) (some (.bool false, h17))) (some (.bool false, h17))) (some (.bool false, h17))) (some (.bool false, h17))
noncomputable def d_cost_task.v (k : Nat) (args : List Value) (h : Hp) : Option (Value × Hp) := castAL [.agg [.int .i64, .slc], .cell (.int .i64), .cell (.int .i64), .cell (.int .i64)] args fun vs => match vs with | [.agg ⟨[.int .i64 x2, .slice a7 n8 c9]⟩, .int .i64 x14, .int .i64 x15, .int .i64 x16] => d_cost_task.r k x2 a7 n8 c9 x14 x15 x16 h | _ => none
theorem d_cost_task.r_den (k : Nat) (x2 : Int) (a7 : Option Addr) (n8 : Nat) (c9 : Nat) (x14 : Int) (x15 : Int) (x16 : Int) (h : Hp) : denF ((ctx E1 40 d_cost_task.hint (d_cost_task.tbl) d_cost_task.it (LPof (d_cost_task.L)) (YOof (d_cost_task.L))) k) Try.f111 [.agg #[.int .i64 x2, .slice a7 n8 c9], .int .i64 x14, .int .i64 x15, .int .i64 x16] h pairK = d_cost_task.r k x2 a7 n8 c9 x14 x15 x16 h := by kernel_rfl
theorem d_cost_task.L_ok : ∀ i x, (d_cost_task.L)[i]? = some x → LOK (ctx E1 40 d_cost_task.hint (d_cost_task.tbl) d_cost_task.it (LPof (d_cost_task.L)) (YOof (d_cost_task.L))) (ctxY E1 40 d_cost_task.hint (d_cost_task.tbl)) Try.f111 (todoC d_cost_task.body []) i x := by
  exact LOK_nil
theorem d_cost_task.snd {H : Pl → Prop} (hH : MonoH H) (k : Nat) : SndF E1 H 111 (d_cost_task.v k) := by
  intro args h v h1 hk
  obtain ⟨ht, hk⟩ := castAL_ok hk
  obtain ⟨v0, vs0, rfl, hv0, ht0⟩ := TyAL_cons ht
  obtain ⟨cs1, rfl, hv0c⟩ := hv0
  obtain ⟨w4, cs3, rfl, hw5, hc6⟩ := TyCL_cons hv0c
  obtain ⟨x2, rfl⟩ := hw5
  obtain ⟨w11, cs10, rfl, hw12, hc13⟩ := TyCL_cons hc6
  obtain ⟨a7, n8, c9, rfl⟩ := hw12
  obtain rfl := TyCL_nil hc13
  obtain ⟨v1, vs1, rfl, hv1, ht1⟩ := TyAL_cons ht0
  obtain ⟨x14, rfl⟩ := hv1
  obtain ⟨v2, vs2, rfl, hv2, ht2⟩ := TyAL_cons ht1
  obtain ⟨x15, rfl⟩ := hv2
  obtain ⟨v3, vs3, rfl, hv3, ht3⟩ := TyAL_cons ht2
  obtain ⟨x16, rfl⟩ := hv3
  obtain rfl := TyAL_nil ht3
  refine fn_ok' (E := E1) (N := 40) (g := 111) (F := Try.f111) (hint := d_cost_task.hint) (tbl := d_cost_task.tbl) (tblY := d_cost_task.tbl) (itK := d_cost_task.it) (L := d_cost_task.L) (body := d_cost_task.body) (by kernel_rfl) (by kernel_rfl) (by kernel_rfl) hH ?_ ?_ ?_ d_cost_task.L_ok k (by kernel_rfl) ((d_cost_task.r_den k x2 a7 n8 c9 x14 x15 x16 h).trans hk)
  · intro k; exact noTbl_ok k
  · intro l' p' k; exact noTbl_ok k
  · intro k; exact noIt_ok k

/-! ### (*weirgate/cost.network).total: function 145 -/
noncomputable def d_cost_network_total.body : Code := match Try.f145.body with | some b => b | none => .skip
noncomputable def d_cost_network_total.hint : Nat → Option (Nat × List Ck) := fun d => none
noncomputable def d_cost_network_total.tbl {R : Type} : TblTy R := noTbl
noncomputable def d_cost_network_total.it {R : Type} : ItTy R := noIt
noncomputable def d_cost_network_total.b0 (k : Nat) (L0 : Nat → Nat → Int → Option Addr → Nat → Nat → Int → Int → List Nat → Hp → Option (Value × Hp)) (b4 : Nat) (o5 : Nat) (x6 : Int) (a7 : Option Addr) (n8 : Nat) (c9 : Nat) (x10 : Int) (x11 : Int) (mk : List Nat) (h : Hp) : Option (Value × Hp) := bc (decide (x11 < x10)) ((ixA a7 n8 4 x11).bind fun p12 => (asI .i64 (rd h p12.1 p12.2)).bind fun x13 => (asI .i64 (rd h p12.1 (p12.2 + 1))).bind fun x14 => (asI .i64 (rd h p12.1 (p12.2 + 2))).bind fun x15 => (asI .i64 (rd h p12.1 (p12.2 + 3))).bind fun x16 => lt (h.new (.row 0 [.int .i64 0, .int .i64 0, .int .i64 0, .int .i64 0])) fun h17 => (wr h17 h.next 0 [.int .i64 x13, .int .i64 x14, .int .i64 x15, .int .i64 x16]).bind fun h18 => (asI .i64 (rd h18 h.next (0 + 3))).bind fun x19 => ckB (Nat.ble (h.next + 1) h18.next) ((asS (rd h18 b4 (o5 + 2))).bind fun s20 => ckB (Nat.ble (b4 + 1) h18.next) ((ixA s20.a s20.n 1 x11).bind fun p21 => (asI .i64 (rd h18 p21.1 p21.2)).bind fun x22 => ckB (Nat.ble (p21.1 + 1) h18.next) (L0 b4 o5 (w64 (x6 + (w64 (x19 * x22)))) a7 n8 c9 x10 (w64 (x11 + 1)) mk h18)))) ((takeM h mk).bind fun h23 => some (.int .i64 x6, h23))
noncomputable def d_cost_network_total.LL : Nat → (Nat → Nat → Int → Option Addr → Nat → Nat → Int → Int → List Nat → Hp → Option (Value × Hp))
  | 0 => fun _ _ _ _ _ _ _ _ _ _ => none
  | k + 1 => d_cost_network_total.b0 k (d_cost_network_total.LL k)
noncomputable def d_cost_network_total.l0 (k : Nat) : Nat → Nat → Int → Option Addr → Nat → Nat → Int → Int → List Nat → Hp → Option (Value × Hp) := (d_cost_network_total.LL k)
theorem d_cost_network_total.l0_succ (k : Nat) : d_cost_network_total.l0 (k + 1) = d_cost_network_total.b0 k (d_cost_network_total.l0 k) := rfl
noncomputable def d_cost_network_total.l0v (k : Nat) (vs : List Value) (mk : List Nat) (h : Hp) : Option (Value × Hp) := match vs with | [.pointer (some ⟨b4, o5, none⟩), .int .i64 x6, .slice a7 n8 c9, .int .i64 x10, .int .i64 x11] => d_cost_network_total.l0 k b4 o5 x6 a7 n8 c9 x10 x11 mk h | _ => none
noncomputable def d_cost_network_total.L : List LEnt := [.lp [(0, .cell .ptr), (3, .cell (.int .i64)), (10, .cell .slc), (11, .cell (.int .i64)), (12, .cell (.int .i64))] (d_cost_network_total.l0v)]
noncomputable def d_cost_network_total.r (k : Nat) (b1 : Nat) (o2 : Nat) (h : Hp) : Option (Value × Hp) := (asS (rd h b1 (o2 + 1))).bind fun s3 => d_cost_network_total.l0 k b1 o2 0 s3.a s3.n s3.c ((s3.n : Nat) : Int) 0 [] h
noncomputable def d_cost_network_total.v (k : Nat) (args : List Value) (h : Hp) : Option (Value × Hp) := castAL [.cell .ptr] args fun vs => match vs with | [.pointer (some ⟨b1, o2, none⟩)] => d_cost_network_total.r k b1 o2 h | _ => none
theorem d_cost_network_total.l0_den (k : Nat) (b4 : Nat) (o5 : Nat) (x6 : Int) (a7 : Option Addr) (n8 : Nat) (c9 : Nat) (x10 : Int) (x11 : Int) (mk : List Nat) (h : Hp) (G : Tr Value) : loopF' ((ctx E1 31 d_cost_network_total.hint (d_cost_network_total.tbl) d_cost_network_total.it (LPof (d_cost_network_total.L)) (YOof (d_cost_network_total.L))) k) Try.f145 pairK 0 ⟨[(0, .pointer (some ⟨b4, o5, none⟩)), (3, .int .i64 x6), (10, .slice a7 n8 c9), (11, .int .i64 x10), (12, .int .i64 x11)], G, mk⟩ h = d_cost_network_total.l0 (k + 1) b4 o5 x6 a7 n8 c9 x10 x11 mk h := by kernel_rfl
theorem d_cost_network_total.r_den (k : Nat) (b1 : Nat) (o2 : Nat) (h : Hp) : denF ((ctx E1 31 d_cost_network_total.hint (d_cost_network_total.tbl) d_cost_network_total.it (LPof (d_cost_network_total.L)) (YOof (d_cost_network_total.L))) k) Try.f145 [.pointer (some ⟨b1, o2, none⟩)] h pairK = d_cost_network_total.r k b1 o2 h := by kernel_rfl
theorem d_cost_network_total.L_ok : ∀ i x, (d_cost_network_total.L)[i]? = some x → LOK (ctx E1 31 d_cost_network_total.hint (d_cost_network_total.tbl) d_cost_network_total.it (LPof (d_cost_network_total.L)) (YOof (d_cost_network_total.L))) (ctxY E1 31 d_cost_network_total.hint (d_cost_network_total.tbl)) Try.f145 (todoC d_cost_network_total.body []) i x := by
  refine LOK_cons (P := fun i x => LOK (ctx E1 31 d_cost_network_total.hint (d_cost_network_total.tbl) d_cost_network_total.it (LPof (d_cost_network_total.L)) (YOof (d_cost_network_total.L))) (ctxY E1 31 d_cost_network_total.hint (d_cost_network_total.tbl)) Try.f145 (todoC d_cost_network_total.body []) (i) x) ?_ ?_
  · refine ⟨by kernel_rfl, fun vs mk h ht => ?_, fun k vs mk h r ht hk G => ?_⟩
    · obtain ⟨v0, vs0, rfl, hv0, ht0⟩ := TySL_cons ht
      obtain ⟨b4, o5, rfl⟩ := hv0
      obtain ⟨v1, vs1, rfl, hv1, ht1⟩ := TySL_cons ht0
      obtain ⟨x6, rfl⟩ := hv1
      obtain ⟨v2, vs2, rfl, hv2, ht2⟩ := TySL_cons ht1
      obtain ⟨a7, n8, c9, rfl⟩ := hv2
      obtain ⟨v3, vs3, rfl, hv3, ht3⟩ := TySL_cons ht2
      obtain ⟨x10, rfl⟩ := hv3
      obtain ⟨v4, vs4, rfl, hv4, ht4⟩ := TySL_cons ht3
      obtain ⟨x11, rfl⟩ := hv4
      obtain rfl := TySL_nil ht4
      rfl
    · obtain ⟨v0, vs0, rfl, hv0, ht0⟩ := TySL_cons ht
      obtain ⟨b4, o5, rfl⟩ := hv0
      obtain ⟨v1, vs1, rfl, hv1, ht1⟩ := TySL_cons ht0
      obtain ⟨x6, rfl⟩ := hv1
      obtain ⟨v2, vs2, rfl, hv2, ht2⟩ := TySL_cons ht1
      obtain ⟨a7, n8, c9, rfl⟩ := hv2
      obtain ⟨v3, vs3, rfl, hv3, ht3⟩ := TySL_cons ht2
      obtain ⟨x10, rfl⟩ := hv3
      obtain ⟨v4, vs4, rfl, hv4, ht4⟩ := TySL_cons ht3
      obtain ⟨x11, rfl⟩ := hv4
      obtain rfl := TySL_nil ht4
      exact (d_cost_network_total.l0_den k b4 o5 x6 a7 n8 c9 x10 x11 mk h G).trans hk
  exact LOK_nil
theorem d_cost_network_total.snd {H : Pl → Prop} (hH : MonoH H) (k : Nat) : SndF E1 H 145 (d_cost_network_total.v k) := by
  intro args h v h1 hk
  obtain ⟨ht, hk⟩ := castAL_ok hk
  obtain ⟨v0, vs0, rfl, hv0, ht0⟩ := TyAL_cons ht
  obtain ⟨b1, o2, rfl⟩ := hv0
  obtain rfl := TyAL_nil ht0
  refine fn_ok' (E := E1) (N := 31) (g := 145) (F := Try.f145) (hint := d_cost_network_total.hint) (tbl := d_cost_network_total.tbl) (tblY := d_cost_network_total.tbl) (itK := d_cost_network_total.it) (L := d_cost_network_total.L) (body := d_cost_network_total.body) (by kernel_rfl) (by kernel_rfl) (by kernel_rfl) hH ?_ ?_ ?_ d_cost_network_total.L_ok k (by kernel_rfl) ((d_cost_network_total.r_den k b1 o2 h).trans hk)
  · intro k; exact noTbl_ok k
  · intro l' p' k; exact noTbl_ok k
  · intro k; exact noIt_ok k

/-! ### (*weirgate/cost.network).freight: function 114 -/
noncomputable def d_cost_network_freight.body : Code := match Try.f114.body with | some b => b | none => .skip
noncomputable def d_cost_network_freight.hint : Nat → Option (Nat × List Ck) := fun d => none
noncomputable def d_cost_network_freight.tbl {R : Type} : TblTy R := addF 145 [.cell (.int .i64)] d_cost_network_total.v (noTbl)
noncomputable def d_cost_network_freight.it {R : Type} : ItTy R := noIt
noncomputable def d_cost_network_freight.b0 (k : Nat) (L0 : Nat → Nat → Nat → Nat → Option Addr → Nat → Nat → Int → Int → List Nat → Hp → Option (Value × Hp)) (b15 : Nat) (o16 : Nat) (b17 : Nat) (o18 : Nat) (a19 : Option Addr) (n20 : Nat) (c21 : Nat) (x22 : Int) (x23 : Int) (mk : List Nat) (h : Hp) : Option (Value × Hp) := bc (decide (x23 < x22)) ((ixA a19 n20 1 x23).bind fun p24 => (asI .i64 (rd h p24.1 p24.2)).bind fun x25 => bc (decide (x25 < 4611686018427387904)) ((asS (rd h b17 (o18 + 4))).bind fun s26 => lt (h.new (.row 1 [.int .i64 x23])) fun h27 => (appS h27 1 s26.a s26.n s26.c (some ⟨h.next, 0, none⟩) 1).bind fun q28 => (wr q28.2 b17 (o18 + 4) [.slice q28.1.a q28.1.n q28.1.c]).bind fun h29 => L0 b15 o16 b17 o18 a19 n20 c21 x22 (w64 (x23 + 1)) mk h29) (L0 b15 o16 b17 o18 a19 n20 c21 x22 (w64 (x23 + 1)) mk h)) ((asI .i64 (rd h b17 o18)).bind fun x30 => (asI .i64 (rd h b17 (o18 + 1))).bind fun x31 => (asS (rd h b17 (o18 + 2))).bind fun s32 => (asS (rd h b17 (o18 + 3))).bind fun s33 => (asS (rd h b17 (o18 + 4))).bind fun s34 => (wr h b15 o16 [.int .i64 x30, .int .i64 x31, .slice s32.a s32.n s32.c, .slice s33.a s33.n s33.c, .slice s34.a s34.n s34.c]).bind fun h35 => (takeM h35 mk).bind fun h36 => (asI .i64 (rd h36 b15 o16)).bind fun x37 => (asI .i64 (rd h36 b15 (o16 + 1))).bind fun x38 => (asS (rd h36 b15 (o16 + 2))).bind fun s39 => (asS (rd h36 b15 (o16 + 3))).bind fun s40 => (asS (rd h36 b15 (o16 + 4))).bind fun s41 => some (.agg #[.int .i64 x37, .int .i64 x38, .slice s39.a s39.n s39.c, .slice s40.a s40.n s40.c, .slice s41.a s41.n s41.c], h36))
noncomputable def d_cost_network_freight.LL : Nat → (Nat → Nat → Nat → Nat → Option Addr → Nat → Nat → Int → Int → List Nat → Hp → Option (Value × Hp))
  | 0 => fun _ _ _ _ _ _ _ _ _ _ _ => none
  | k + 1 => d_cost_network_freight.b0 k (d_cost_network_freight.LL k)
noncomputable def d_cost_network_freight.l0 (k : Nat) : Nat → Nat → Nat → Nat → Option Addr → Nat → Nat → Int → Int → List Nat → Hp → Option (Value × Hp) := (d_cost_network_freight.LL k)
theorem d_cost_network_freight.l0_succ (k : Nat) : d_cost_network_freight.l0 (k + 1) = d_cost_network_freight.b0 k (d_cost_network_freight.l0 k) := rfl
noncomputable def d_cost_network_freight.l0v (k : Nat) (vs : List Value) (mk : List Nat) (h : Hp) : Option (Value × Hp) := match vs with | [.pointer (some ⟨b15, o16, none⟩), .pointer (some ⟨b17, o18, none⟩), .slice a19 n20 c21, .int .i64 x22, .int .i64 x23] => d_cost_network_freight.l0 k b15 o16 b17 o18 a19 n20 c21 x22 x23 mk h | _ => none
noncomputable def d_cost_network_freight.L : List LEnt := [.lp [(6, .cell .ptr), (7, .cell .ptr), (22, .cell .slc), (23, .cell (.int .i64)), (24, .cell (.int .i64))] (d_cost_network_freight.l0v)]
noncomputable def d_cost_network_freight.r (k : Nat) (b1 : Nat) (o2 : Nat) (x3 : Int) (a4 : Option Addr) (n5 : Nat) (c6 : Nat) (h : Hp) : Option (Value × Hp) := lt (h.new (.row 0 [.int .i64 0, .int .i64 0, .slice none 0 0, .slice none 0 0, .slice none 0 0])) fun h7 => (d_cost_network_total.r k b1 o2 h7).bind fun q8 => (asI .i64 (some q8.1)).bind fun x9 => (asS (rd q8.2 b1 (o2 + 2))).bind fun s10 => ckB (Nat.ble (b1 + 1) h7.next) (ckE (h7.g b1) (q8.2.g b1) ((asS (rd q8.2 b1 (o2 + 4))).bind fun s11 => ckB (Nat.ble (b1 + 1) h7.next) (ckE (h7.g b1) (q8.2.g b1) (lt q8.2.bump fun h12 => lt (h12.set q8.2.next (.row 0 [.int .i64 0, .int .i64 0, .slice none 0 0, .slice none 0 0, .slice none 0 0])) fun h13 => (wr h13 q8.2.next 0 [.int .i64 x3, .int .i64 x9, .slice s10.a s10.n s10.c, .slice s11.a s11.n s11.c, .slice none 0 0]).bind fun h14 => d_cost_network_freight.l0 k h.next 0 q8.2.next 0 a4 n5 c6 ((n5 : Nat) : Int) 0 [] h14))))
noncomputable def d_cost_network_freight.v (k : Nat) (args : List Value) (h : Hp) : Option (Value × Hp) := castAL [.cell .ptr, .cell (.int .i64), .cell .slc] args fun vs => match vs with | [.pointer (some ⟨b1, o2, none⟩), .int .i64 x3, .slice a4 n5 c6] => d_cost_network_freight.r k b1 o2 x3 a4 n5 c6 h | _ => none
theorem d_cost_network_freight.l0_den (k : Nat) (b15 : Nat) (o16 : Nat) (b17 : Nat) (o18 : Nat) (a19 : Option Addr) (n20 : Nat) (c21 : Nat) (x22 : Int) (x23 : Int) (mk : List Nat) (h : Hp) (G : Tr Value) : loopF' ((ctx E1 39 d_cost_network_freight.hint (d_cost_network_freight.tbl) d_cost_network_freight.it (LPof (d_cost_network_freight.L)) (YOof (d_cost_network_freight.L))) k) Try.f114 pairK 0 ⟨[(6, .pointer (some ⟨b15, o16, none⟩)), (7, .pointer (some ⟨b17, o18, none⟩)), (22, .slice a19 n20 c21), (23, .int .i64 x22), (24, .int .i64 x23)], G, mk⟩ h = d_cost_network_freight.l0 (k + 1) b15 o16 b17 o18 a19 n20 c21 x22 x23 mk h := by kernel_rfl
theorem d_cost_network_freight.r_den (k : Nat) (b1 : Nat) (o2 : Nat) (x3 : Int) (a4 : Option Addr) (n5 : Nat) (c6 : Nat) (h : Hp) : denF ((ctx E1 39 d_cost_network_freight.hint (d_cost_network_freight.tbl) d_cost_network_freight.it (LPof (d_cost_network_freight.L)) (YOof (d_cost_network_freight.L))) k) Try.f114 [.pointer (some ⟨b1, o2, none⟩), .int .i64 x3, .slice a4 n5 c6] h pairK = d_cost_network_freight.r k b1 o2 x3 a4 n5 c6 h := by kernel_rfl
theorem d_cost_network_freight.L_ok : ∀ i x, (d_cost_network_freight.L)[i]? = some x → LOK (ctx E1 39 d_cost_network_freight.hint (d_cost_network_freight.tbl) d_cost_network_freight.it (LPof (d_cost_network_freight.L)) (YOof (d_cost_network_freight.L))) (ctxY E1 39 d_cost_network_freight.hint (d_cost_network_freight.tbl)) Try.f114 (todoC d_cost_network_freight.body []) i x := by
  refine LOK_cons (P := fun i x => LOK (ctx E1 39 d_cost_network_freight.hint (d_cost_network_freight.tbl) d_cost_network_freight.it (LPof (d_cost_network_freight.L)) (YOof (d_cost_network_freight.L))) (ctxY E1 39 d_cost_network_freight.hint (d_cost_network_freight.tbl)) Try.f114 (todoC d_cost_network_freight.body []) (i) x) ?_ ?_
  · refine ⟨by kernel_rfl, fun vs mk h ht => ?_, fun k vs mk h r ht hk G => ?_⟩
    · obtain ⟨v0, vs0, rfl, hv0, ht0⟩ := TySL_cons ht
      obtain ⟨b15, o16, rfl⟩ := hv0
      obtain ⟨v1, vs1, rfl, hv1, ht1⟩ := TySL_cons ht0
      obtain ⟨b17, o18, rfl⟩ := hv1
      obtain ⟨v2, vs2, rfl, hv2, ht2⟩ := TySL_cons ht1
      obtain ⟨a19, n20, c21, rfl⟩ := hv2
      obtain ⟨v3, vs3, rfl, hv3, ht3⟩ := TySL_cons ht2
      obtain ⟨x22, rfl⟩ := hv3
      obtain ⟨v4, vs4, rfl, hv4, ht4⟩ := TySL_cons ht3
      obtain ⟨x23, rfl⟩ := hv4
      obtain rfl := TySL_nil ht4
      rfl
    · obtain ⟨v0, vs0, rfl, hv0, ht0⟩ := TySL_cons ht
      obtain ⟨b15, o16, rfl⟩ := hv0
      obtain ⟨v1, vs1, rfl, hv1, ht1⟩ := TySL_cons ht0
      obtain ⟨b17, o18, rfl⟩ := hv1
      obtain ⟨v2, vs2, rfl, hv2, ht2⟩ := TySL_cons ht1
      obtain ⟨a19, n20, c21, rfl⟩ := hv2
      obtain ⟨v3, vs3, rfl, hv3, ht3⟩ := TySL_cons ht2
      obtain ⟨x22, rfl⟩ := hv3
      obtain ⟨v4, vs4, rfl, hv4, ht4⟩ := TySL_cons ht3
      obtain ⟨x23, rfl⟩ := hv4
      obtain rfl := TySL_nil ht4
      exact (d_cost_network_freight.l0_den k b15 o16 b17 o18 a19 n20 c21 x22 x23 mk h G).trans hk
  exact LOK_nil
theorem d_cost_network_freight.snd {H : Pl → Prop} (hH : MonoH H) (k : Nat) : SndF E1 H 114 (d_cost_network_freight.v k) := by
  intro args h v h1 hk
  obtain ⟨ht, hk⟩ := castAL_ok hk
  obtain ⟨v0, vs0, rfl, hv0, ht0⟩ := TyAL_cons ht
  obtain ⟨b1, o2, rfl⟩ := hv0
  obtain ⟨v1, vs1, rfl, hv1, ht1⟩ := TyAL_cons ht0
  obtain ⟨x3, rfl⟩ := hv1
  obtain ⟨v2, vs2, rfl, hv2, ht2⟩ := TyAL_cons ht1
  obtain ⟨a4, n5, c6, rfl⟩ := hv2
  obtain rfl := TyAL_nil ht2
  refine fn_ok' (E := E1) (N := 39) (g := 114) (F := Try.f114) (hint := d_cost_network_freight.hint) (tbl := d_cost_network_freight.tbl) (tblY := d_cost_network_freight.tbl) (itK := d_cost_network_freight.it) (L := d_cost_network_freight.L) (body := d_cost_network_freight.body) (by kernel_rfl) (by kernel_rfl) (by kernel_rfl) hH ?_ ?_ ?_ d_cost_network_freight.L_ok k (by kernel_rfl) ((d_cost_network_freight.r_den k b1 o2 x3 a4 n5 c6 h).trans hk)
  · intro k; exact addF_ok (d_cost_network_total.snd hH k) (noTbl_ok k)
  · intro l' p' k; exact addF_ok (d_cost_network_total.snd (hH.pay _ _) k) (noTbl_ok k)
  · intro k; exact noIt_ok k

/-! ### (*weirgate/cost.network).fill$1: function 146 -/
noncomputable def d_cost_network_fill_1.body : Code := match Try.f146.body with | some b => b | none => .skip
noncomputable def d_cost_network_fill_1.hint : Nat → Option (Nat × List Ck) := fun d => bc (Nat.beq d 42) (some (146, [.ptr, .ptr, .ptr, .ptr])) <| none
noncomputable def d_cost_network_fill_1.tbl {R : Type} (self : List Value → Hp → Option (Value × Hp)) : TblTy R := addF 146 [.cell (.int .i64)] (fun _ => self) (addF 143 [.fn 154 [.ptr, .ptr]] d_cost_network_ways.v (addF 144 [.cell (.int .i64)] d_cost_network_reduced.v (noTbl)))
noncomputable def d_cost_network_fill_1.it {R : Type} : ItTy R := addI 154 [] d_cost_network_ways_1.v (noIt)
noncomputable def d_cost_network_fill_1.y0 (self : List Value → Hp → Option (Value × Hp)) (k : Nat) (b49 : Nat) (o50 : Nat) (b51 : Nat) (o52 : Nat) (b53 : Nat) (o54 : Nat) (b55 : Nat) (o56 : Nat) (b57 : Nat) (o58 : Nat) (b59 : Nat) (o60 : Nat) (l0 : Nat) (x62 : Int) (x67 : Int) (x72 : Int) (x77 : Int) (x82 : Bool) (h : Hp) : Option (Bool × Hp) := ckB (isL h l0) (lt (h.new (.row 0 [.int .i64 0, .int .i64 0, .int .i64 0, .int .i64 0, .bool false])) fun h88 => (wr h88 h.next 0 [.int .i64 x62, .int .i64 x67, .int .i64 x72, .int .i64 x77, .bool x82]).bind fun h89 => (begL h89 l0).bind fun h87 => (asI .i64 (rd h87 b59 o60)).bind fun x90 => (asI .i64 (rd h87 b57 o58)).bind fun x91 => bc (x90 == x91) ((finL h87 l0 (some (.exit 0))).bind fun h92 => some (false, h92)) ((asS (rd h87 b49 o50)).bind fun s93 => (asI .i64 (rd h87 h.next (0 + 1))).bind fun x94 => (ixA s93.a s93.n 1 x94).bind fun p95 => (asB (rd h87 p95.1 p95.2)).bind fun x96 => bc (!x96) ((asP (rd h87 b51 o52)).bind fun p97 => (asI .i64 (rd h87 b55 o56)).bind fun x98 => (asI .i64 (rd h87 h.next 0)).bind fun x99 => (asI .i64 (rd h87 h.next (0 + 1))).bind fun x100 => (asI .i64 (rd h87 h.next (0 + 2))).bind fun x101 => (asI .i64 (rd h87 h.next (0 + 3))).bind fun x102 => (asB (rd h87 h.next (0 + 4))).bind fun x103 => (d_cost_network_reduced.r k p97.1 p97.2 x98 x99 x100 x101 x102 x103 h87).bind fun q104 => (asI .i64 (some q104.1)).bind fun x105 => bc (!(x105 == 0)) ((finL q104.2 l0 none).bind fun h106 => some (true, h106)) ((asF 146 4 (rd q104.2 b53 o54)).bind fun cs107 => (asP (nth cs107 0)).bind fun p108 => (asP (nth cs107 1)).bind fun p109 => (asP (nth cs107 2)).bind fun p110 => (asP (nth cs107 3)).bind fun p111 => (asI .i64 (rd q104.2 h.next (0 + 1))).bind fun x112 => (asI .i64 (rd q104.2 h.next (0 + 2))).bind fun x113 => (asI .i64 (rd q104.2 b57 o58)).bind fun x114 => (asI .i64 (rd q104.2 b59 o60)).bind fun x115 => (self [.int .i64 x112, .int .i64 (mnI x113 (w64 (x114 - x115))), .pointer (some ⟨p108.1, p108.2, none⟩), .pointer (some ⟨p109.1, p109.2, none⟩), .pointer (some ⟨p110.1, p110.2, none⟩), .pointer (some ⟨p111.1, p111.2, none⟩)] q104.2).bind fun q116 => (asI .i64 (some q116.1)).bind fun x117 => (asB (rd q116.2 h.next (0 + 4))).bind fun x118 => bc x118 ((asP (rd q116.2 b51 o52)).bind fun p119 => ckB (Nat.ble (b51 + 1) q116.2.next) ((asS (rd q116.2 p119.1 (p119.2 + 2))).bind fun s120 => ckB (Nat.ble (p119.1 + 1) q116.2.next) ((asI .i64 (rd q116.2 h.next 0)).bind fun x121 => ckB (Nat.ble (h.next + 1) q116.2.next) ((ixA s120.a s120.n 1 x121).bind fun p122 => (asI .i64 (rd q116.2 p122.1 p122.2)).bind fun x123 => ckB (Nat.ble (p122.1 + 1) q116.2.next) ((ixA s120.a s120.n 1 x121).bind fun p124 => (wr q116.2 p124.1 p124.2 [.int .i64 (w64 (x123 + (w64 (0 - x117))))]).bind fun h125 => (asI .i64 (rd h125 b59 o60)).bind fun x126 => (wr h125 b59 o60 [.int .i64 (w64 (x126 + (mxI (w64 (0 - x117)) (w64 (0 - (w64 (0 - x117)))))))]).bind fun h127 => (finL h127 l0 none).bind fun h128 => some (true, h128)))))) ((asP (rd q116.2 b51 o52)).bind fun p129 => ckB (Nat.ble (b51 + 1) q116.2.next) ((asS (rd q116.2 p129.1 (p129.2 + 2))).bind fun s130 => ckB (Nat.ble (p129.1 + 1) q116.2.next) ((asI .i64 (rd q116.2 h.next 0)).bind fun x131 => ckB (Nat.ble (h.next + 1) q116.2.next) ((ixA s130.a s130.n 1 x131).bind fun p132 => (asI .i64 (rd q116.2 p132.1 p132.2)).bind fun x133 => ckB (Nat.ble (p132.1 + 1) q116.2.next) ((ixA s130.a s130.n 1 x131).bind fun p134 => (wr q116.2 p134.1 p134.2 [.int .i64 (w64 (x133 + x117))]).bind fun h135 => (asI .i64 (rd h135 b59 o60)).bind fun x136 => (wr h135 b59 o60 [.int .i64 (w64 (x136 + (mxI x117 (w64 (0 - x117)))))]).bind fun h137 => (finL h137 l0 none).bind fun h138 => some (true, h138)))))))) ((finL h87 l0 none).bind fun h139 => some (true, h139))))
noncomputable def d_cost_network_fill_1.y0v (self : List Value → Hp → Option (Value × Hp)) (k : Nat) (vs : List Value) (l0 : Nat) (args : List Value) (h : Hp) : Option (Bool × Hp) := castAL [.agg [.int .i64, .int .i64, .int .i64, .int .i64, .bool]] args fun zs => match vs, zs with | [.pointer (some ⟨b49, o50, none⟩), .pointer (some ⟨b51, o52, none⟩), .pointer (some ⟨b53, o54, none⟩), .pointer (some ⟨b55, o56, none⟩), .pointer (some ⟨b57, o58, none⟩), .pointer (some ⟨b59, o60, none⟩)], [.agg ⟨[.int .i64 x62, .int .i64 x67, .int .i64 x72, .int .i64 x77, .bool x82]⟩] => d_cost_network_fill_1.y0 self k b49 o50 b51 o52 b53 o54 b55 o56 b57 o58 b59 o60 l0 x62 x67 x72 x77 x82 h | _, _ => none
noncomputable def d_cost_network_fill_1.L (self : List Value → Hp → Option (Value × Hp)) : List LEnt := [.yo [(3, .cell .ptr), (4, .cell .ptr), (5, .cell .ptr), (6, .cell .ptr), (7, .cell .ptr), (9, .cell .ptr)] (d_cost_network_fill_1.y0v self)]
noncomputable def d_cost_network_fill_1.r (k : Nat) (self : List Value → Hp → Option (Value × Hp)) (x1 : Int) (x2 : Int) (b3 : Nat) (o4 : Nat) (b5 : Nat) (o6 : Nat) (b7 : Nat) (o8 : Nat) (b9 : Nat) (o10 : Nat) (h : Hp) : Option (Value × Hp) := lt (h.new (.row 0 [.int .i64 x1])) fun h11 => lt (h11.new (.row 0 [.int .i64 x2])) fun h12 => (asI .i64 (rd h12 h.next 0)).bind fun x13 => (asI .i64 (rd h12 b3 o4)).bind fun x14 => bc (!(x13 == x14)) ((asI .i64 (rd h12 h11.next 0)).bind fun x15 => bc (x15 == 0) ((asI .i64 (rd h12 h11.next 0)).bind fun x16 => some (.int .i64 x16, h12)) ((asS (rd h12 b5 o6)).bind fun s17 => (asI .i64 (rd h12 h.next 0)).bind fun x18 => (ixA s17.a s17.n 1 x18).bind fun p19 => (wr h12 p19.1 p19.2 [.bool true]).bind fun h20 => lt (h20.new (.row 0 [.int .i64 0])) fun h21 => (wr h21 h20.next 0 [.int .i64 0]).bind fun h22 => (asP (rd h22 b7 o8)).bind fun p23 => (asI .i64 (rd h22 h.next 0)).bind fun x24 => (d_cost_network_ways.r k p23.1 p23.2 x24 h22).bind fun q25 => (asF 154 2 (some q25.1)).bind fun cs26 => (asP (nth cs26 0)).bind fun p27 => (asP (nth cs26 1)).bind fun p28 => lt ((q25.2.new .defs).new (stub .ready none)) fun h29 => (d_cost_network_ways_1.r k (q25.2.next + 1) (fun za zh => d_cost_network_fill_1.y0v self k [.pointer (some ⟨b5, o6, none⟩), .pointer (some ⟨b7, o8, none⟩), .pointer (some ⟨b9, o10, none⟩), .pointer (some ⟨h.next, 0, none⟩), .pointer (some ⟨h11.next, 0, none⟩), .pointer (some ⟨h20.next, 0, none⟩)] (q25.2.next + 1) za zh) (q25.2.next + 1) p27.1 p27.2 p28.1 p28.2 h29).bind fun q30 => (asTup 0 q30.1).bind fun _ => (endL q30.2 (q25.2.next + 1)).bind fun e31 => bc (isN e31.1) ((asS (rd e31.2 b5 o6)).bind fun s32 => (asI .i64 (rd e31.2 h.next 0)).bind fun x33 => (asI .i64 (rd e31.2 h20.next 0)).bind fun x34 => (asI .i64 (rd e31.2 h11.next 0)).bind fun x35 => (ixA s32.a s32.n 1 x33).bind fun p36 => (wr e31.2 p36.1 p36.2 [.bool (decide (x34 < x35))]).bind fun h37 => (asI .i64 (rd h37 h20.next 0)).bind fun x38 => (takeM h37 (q25.2.next :: [])).bind fun h39 => some (.int .i64 x38, h39)) (bc (isJ (.exit 0) e31.1) ((asS (rd e31.2 b5 o6)).bind fun s40 => (asI .i64 (rd e31.2 h.next 0)).bind fun x41 => (asI .i64 (rd e31.2 h20.next 0)).bind fun x42 => (asI .i64 (rd e31.2 h11.next 0)).bind fun x43 => (ixA s40.a s40.n 1 x41).bind fun p44 => (wr e31.2 p44.1 p44.2 [.bool (decide (x42 < x43))]).bind fun h45 => (asI .i64 (rd h45 h20.next 0)).bind fun x46 => (takeM h45 (q25.2.next :: [])).bind fun h47 => some (.int .i64 x46, h47)) (bc (isJ (.exit 1) e31.1) (none) (none))))) ((asI .i64 (rd h12 h11.next 0)).bind fun x48 => some (.int .i64 x48, h12))
noncomputable def d_cost_network_fill_1.v : Nat → List Value → Hp → Option (Value × Hp)
  | 0, _, _ => none
  | k + 1, args, h => castAL [.cell (.int .i64), .cell (.int .i64), .cell .ptr, .cell .ptr, .cell .ptr, .cell .ptr] args fun vs => match vs with | [.int .i64 x1, .int .i64 x2, .pointer (some ⟨b3, o4, none⟩), .pointer (some ⟨b5, o6, none⟩), .pointer (some ⟨b7, o8, none⟩), .pointer (some ⟨b9, o10, none⟩)] => d_cost_network_fill_1.r k (d_cost_network_fill_1.v k) x1 x2 b3 o4 b5 o6 b7 o8 b9 o10 h | _ => none
theorem d_cost_network_fill_1.y0_den (self : List Value → Hp → Option (Value × Hp)) (k : Nat) (b49 : Nat) (o50 : Nat) (b51 : Nat) (o52 : Nat) (b53 : Nat) (o54 : Nat) (b55 : Nat) (o56 : Nat) (b57 : Nat) (o58 : Nat) (b59 : Nat) (o60 : Nat) (l0 : Nat) (x62 : Int) (x67 : Int) (x72 : Int) (x77 : Int) (x82 : Bool) (h : Hp) (G : Tr Value) (mk : List Nat) : denYAt ((ctxY E1 80 d_cost_network_fill_1.hint (d_cost_network_fill_1.tbl self)) k) (todoC d_cost_network_fill_1.body []) 0 ⟨[(3, .pointer (some ⟨b49, o50, none⟩)), (4, .pointer (some ⟨b51, o52, none⟩)), (5, .pointer (some ⟨b53, o54, none⟩)), (6, .pointer (some ⟨b55, o56, none⟩)), (7, .pointer (some ⟨b57, o58, none⟩)), (9, .pointer (some ⟨b59, o60, none⟩))], G, mk⟩ l0 [.agg #[.int .i64 x62, .int .i64 x67, .int .i64 x72, .int .i64 x77, .bool x82]] h = d_cost_network_fill_1.y0 self k b49 o50 b51 o52 b53 o54 b55 o56 b57 o58 b59 o60 l0 x62 x67 x72 x77 x82 h := by kernel_rfl
theorem d_cost_network_fill_1.r_den (self : List Value → Hp → Option (Value × Hp)) (k : Nat) (x1 : Int) (x2 : Int) (b3 : Nat) (o4 : Nat) (b5 : Nat) (o6 : Nat) (b7 : Nat) (o8 : Nat) (b9 : Nat) (o10 : Nat) (h : Hp) : denF ((ctx E1 80 d_cost_network_fill_1.hint (d_cost_network_fill_1.tbl self) d_cost_network_fill_1.it (LPof (d_cost_network_fill_1.L self)) (YOof (d_cost_network_fill_1.L self))) k) Try.f146 [.int .i64 x1, .int .i64 x2, .pointer (some ⟨b3, o4, none⟩), .pointer (some ⟨b5, o6, none⟩), .pointer (some ⟨b7, o8, none⟩), .pointer (some ⟨b9, o10, none⟩)] h pairK = d_cost_network_fill_1.r k self x1 x2 b3 o4 b5 o6 b7 o8 b9 o10 h := by kernel_rfl
theorem d_cost_network_fill_1.L_ok (self : List Value → Hp → Option (Value × Hp)) : ∀ i x, (d_cost_network_fill_1.L self)[i]? = some x → LOK (ctx E1 80 d_cost_network_fill_1.hint (d_cost_network_fill_1.tbl self) d_cost_network_fill_1.it (LPof (d_cost_network_fill_1.L self)) (YOof (d_cost_network_fill_1.L self))) (ctxY E1 80 d_cost_network_fill_1.hint (d_cost_network_fill_1.tbl self)) Try.f146 (todoC d_cost_network_fill_1.body []) i x := by
  refine LOK_cons (P := fun i x => LOK (ctx E1 80 d_cost_network_fill_1.hint (d_cost_network_fill_1.tbl self) d_cost_network_fill_1.it (LPof (d_cost_network_fill_1.L self)) (YOof (d_cost_network_fill_1.L self))) (ctxY E1 80 d_cost_network_fill_1.hint (d_cost_network_fill_1.tbl self)) Try.f146 (todoC d_cost_network_fill_1.body []) (i) x) ?_ ?_
  · refine ⟨by kernel_rfl, by kernel_rfl, fun k vs l0 args h r ht hk G mk => ?_⟩
    · obtain ⟨ta, hk⟩ := castAL_ok hk
      obtain ⟨v0, vs0, rfl, hv0, ht0⟩ := TySL_cons ht
      obtain ⟨b49, o50, rfl⟩ := hv0
      obtain ⟨v1, vs1, rfl, hv1, ht1⟩ := TySL_cons ht0
      obtain ⟨b51, o52, rfl⟩ := hv1
      obtain ⟨v2, vs2, rfl, hv2, ht2⟩ := TySL_cons ht1
      obtain ⟨b53, o54, rfl⟩ := hv2
      obtain ⟨v3, vs3, rfl, hv3, ht3⟩ := TySL_cons ht2
      obtain ⟨b55, o56, rfl⟩ := hv3
      obtain ⟨v4, vs4, rfl, hv4, ht4⟩ := TySL_cons ht3
      obtain ⟨b57, o58, rfl⟩ := hv4
      obtain ⟨v5, vs5, rfl, hv5, ht5⟩ := TySL_cons ht4
      obtain ⟨b59, o60, rfl⟩ := hv5
      obtain rfl := TySL_nil ht5
      obtain ⟨u0, us0, rfl, ha0, ta0⟩ := TyAL_cons ta
      obtain ⟨cs61, rfl, ha0c⟩ := ha0
      obtain ⟨w64, cs63, rfl, hw65, hc66⟩ := TyCL_cons ha0c
      obtain ⟨x62, rfl⟩ := hw65
      obtain ⟨w69, cs68, rfl, hw70, hc71⟩ := TyCL_cons hc66
      obtain ⟨x67, rfl⟩ := hw70
      obtain ⟨w74, cs73, rfl, hw75, hc76⟩ := TyCL_cons hc71
      obtain ⟨x72, rfl⟩ := hw75
      obtain ⟨w79, cs78, rfl, hw80, hc81⟩ := TyCL_cons hc76
      obtain ⟨x77, rfl⟩ := hw80
      obtain ⟨w84, cs83, rfl, hw85, hc86⟩ := TyCL_cons hc81
      obtain ⟨x82, rfl⟩ := hw85
      obtain rfl := TyCL_nil hc86
      obtain rfl := TyAL_nil ta0
      exact (d_cost_network_fill_1.y0_den self k b49 o50 b51 o52 b53 o54 b55 o56 b57 o58 b59 o60 l0 x62 x67 x72 x77 x82 h G mk).trans hk
  exact LOK_nil
theorem d_cost_network_fill_1.snd' (k : Nat) {self : List Value → Hp → Option (Value × Hp)} (hs : ∀ H, MonoH H → SndF E1 H 146 self) {H : Pl → Prop} (hH : MonoH H) : SndF E1 H 146 (fun args h => castAL [.cell (.int .i64), .cell (.int .i64), .cell .ptr, .cell .ptr, .cell .ptr, .cell .ptr] args fun vs => match vs with | [.int .i64 x1, .int .i64 x2, .pointer (some ⟨b3, o4, none⟩), .pointer (some ⟨b5, o6, none⟩), .pointer (some ⟨b7, o8, none⟩), .pointer (some ⟨b9, o10, none⟩)] => d_cost_network_fill_1.r k self x1 x2 b3 o4 b5 o6 b7 o8 b9 o10 h | _ => none) := by
  intro args h v h1 hk
  obtain ⟨ht, hk⟩ := castAL_ok hk
  obtain ⟨v0, vs0, rfl, hv0, ht0⟩ := TyAL_cons ht
  obtain ⟨x1, rfl⟩ := hv0
  obtain ⟨v1, vs1, rfl, hv1, ht1⟩ := TyAL_cons ht0
  obtain ⟨x2, rfl⟩ := hv1
  obtain ⟨v2, vs2, rfl, hv2, ht2⟩ := TyAL_cons ht1
  obtain ⟨b3, o4, rfl⟩ := hv2
  obtain ⟨v3, vs3, rfl, hv3, ht3⟩ := TyAL_cons ht2
  obtain ⟨b5, o6, rfl⟩ := hv3
  obtain ⟨v4, vs4, rfl, hv4, ht4⟩ := TyAL_cons ht3
  obtain ⟨b7, o8, rfl⟩ := hv4
  obtain ⟨v5, vs5, rfl, hv5, ht5⟩ := TyAL_cons ht4
  obtain ⟨b9, o10, rfl⟩ := hv5
  obtain rfl := TyAL_nil ht5
  refine fn_ok' (E := E1) (N := 80) (g := 146) (F := Try.f146) (hint := d_cost_network_fill_1.hint) (tbl := d_cost_network_fill_1.tbl self) (tblY := d_cost_network_fill_1.tbl self) (itK := d_cost_network_fill_1.it) (L := d_cost_network_fill_1.L self) (body := d_cost_network_fill_1.body) (by kernel_rfl) (by kernel_rfl) (by kernel_rfl) hH ?_ ?_ ?_ (d_cost_network_fill_1.L_ok self) k (by kernel_rfl) ((d_cost_network_fill_1.r_den self k x1 x2 b3 o4 b5 o6 b7 o8 b9 o10 h).trans hk)
  · intro k; exact addF_ok (hs H hH) (addF_ok (d_cost_network_ways.snd hH k) (addF_ok (d_cost_network_reduced.snd hH k) (noTbl_ok k)))
  · intro l' p' k; exact addF_ok (hs _ (hH.pay _ _)) (addF_ok (d_cost_network_ways.snd (hH.pay _ _) k) (addF_ok (d_cost_network_reduced.snd (hH.pay _ _) k) (noTbl_ok k)))
  · intro k; exact addI_ok hH (d_cost_network_ways_1.sndI k) (noIt_ok k)
theorem d_cost_network_fill_1.snd {H : Pl → Prop} (hH : MonoH H) (k : Nat) : SndF E1 H 146 (d_cost_network_fill_1.v k) := by
  have key : ∀ k H, MonoH H → SndF E1 H 146 (d_cost_network_fill_1.v k) := by
    intro k
    induction k with
    | zero => intro H hH args h v h1 hk; cases hk
    | succ k ih => intro H hH; exact d_cost_network_fill_1.snd' k ih hH
  exact key k H hH

/-! ### (*weirgate/cost.network).fill: function 115 -/
noncomputable def d_cost_network_fill.body : Code := match Try.f115.body with | some b => b | none => .skip
noncomputable def d_cost_network_fill.hint : Nat → Option (Nat × List Ck) := fun d => bc (Nat.beq d 18) (some (146, [.ptr, .ptr, .ptr, .ptr])) <| none
noncomputable def d_cost_network_fill.tbl {R : Type} : TblTy R := addF 146 [.cell (.int .i64)] d_cost_network_fill_1.v (noTbl)
noncomputable def d_cost_network_fill.it {R : Type} : ItTy R := noIt
noncomputable def d_cost_network_fill.L : List LEnt := []
noncomputable def d_cost_network_fill.r (k : Nat) (b1 : Nat) (o2 : Nat) (x3 : Int) (x4 : Int) (x5 : Int) (h : Hp) : Option (Value × Hp) := lt (h.new (.row 0 [.pointer (some ⟨b1, o2, none⟩)])) fun h6 => lt (h6.new (.row 0 [.int .i64 x4])) fun h7 => (asP (rd h7 h.next 0)).bind fun p8 => (asI .i64 (rd h7 p8.1 p8.2)).bind fun x9 => ckB (decide (0 ≤ x9) && decide (x9 ≤ x9) && decide (x9 ≤ 1048576)) (lt (h7.new (.row 1 (repl [.bool false] (x9 : Int).toNat))) fun h10 => lt (h10.new (.row 0 [.slice none 0 0])) fun h11 => (wr h11 h10.next 0 [.slice (some ⟨h7.next, 0, none⟩) ((x9 : Int).toNat) ((x9 : Int).toNat)]).bind fun h12 => lt (h12.new (.row 0 [.nilFunc])) fun h13 => (wr h13 h12.next 0 [.func (.func 146) #[] #[.pointer (some ⟨h6.next, 0, none⟩), .pointer (some ⟨h10.next, 0, none⟩), .pointer (some ⟨h.next, 0, none⟩), .pointer (some ⟨h12.next, 0, none⟩)]]).bind fun h14 => (asF 146 4 (rd h14 h12.next 0)).bind fun cs15 => (asP (nth cs15 0)).bind fun p16 => (asP (nth cs15 1)).bind fun p17 => (asP (nth cs15 2)).bind fun p18 => (asP (nth cs15 3)).bind fun p19 => (d_cost_network_fill_1.v k [.int .i64 x3, .int .i64 x5, .pointer (some ⟨p16.1, p16.2, none⟩), .pointer (some ⟨p17.1, p17.2, none⟩), .pointer (some ⟨p18.1, p18.2, none⟩), .pointer (some ⟨p19.1, p19.2, none⟩)] h14).bind fun q20 => (asI .i64 (some q20.1)).bind fun x21 => some (.int .i64 x21, q20.2))
noncomputable def d_cost_network_fill.v (k : Nat) (args : List Value) (h : Hp) : Option (Value × Hp) := castAL [.cell .ptr, .cell (.int .i64), .cell (.int .i64), .cell (.int .i64)] args fun vs => match vs with | [.pointer (some ⟨b1, o2, none⟩), .int .i64 x3, .int .i64 x4, .int .i64 x5] => d_cost_network_fill.r k b1 o2 x3 x4 x5 h | _ => none
theorem d_cost_network_fill.r_den (k : Nat) (b1 : Nat) (o2 : Nat) (x3 : Int) (x4 : Int) (x5 : Int) (h : Hp) : denF ((ctx E1 22 d_cost_network_fill.hint (d_cost_network_fill.tbl) d_cost_network_fill.it (LPof (d_cost_network_fill.L)) (YOof (d_cost_network_fill.L))) k) Try.f115 [.pointer (some ⟨b1, o2, none⟩), .int .i64 x3, .int .i64 x4, .int .i64 x5] h pairK = d_cost_network_fill.r k b1 o2 x3 x4 x5 h := by kernel_rfl
theorem d_cost_network_fill.L_ok : ∀ i x, (d_cost_network_fill.L)[i]? = some x → LOK (ctx E1 22 d_cost_network_fill.hint (d_cost_network_fill.tbl) d_cost_network_fill.it (LPof (d_cost_network_fill.L)) (YOof (d_cost_network_fill.L))) (ctxY E1 22 d_cost_network_fill.hint (d_cost_network_fill.tbl)) Try.f115 (todoC d_cost_network_fill.body []) i x := by
  exact LOK_nil
theorem d_cost_network_fill.snd {H : Pl → Prop} (hH : MonoH H) (k : Nat) : SndF E1 H 115 (d_cost_network_fill.v k) := by
  intro args h v h1 hk
  obtain ⟨ht, hk⟩ := castAL_ok hk
  obtain ⟨v0, vs0, rfl, hv0, ht0⟩ := TyAL_cons ht
  obtain ⟨b1, o2, rfl⟩ := hv0
  obtain ⟨v1, vs1, rfl, hv1, ht1⟩ := TyAL_cons ht0
  obtain ⟨x3, rfl⟩ := hv1
  obtain ⟨v2, vs2, rfl, hv2, ht2⟩ := TyAL_cons ht1
  obtain ⟨x4, rfl⟩ := hv2
  obtain ⟨v3, vs3, rfl, hv3, ht3⟩ := TyAL_cons ht2
  obtain ⟨x5, rfl⟩ := hv3
  obtain rfl := TyAL_nil ht3
  refine fn_ok' (E := E1) (N := 22) (g := 115) (F := Try.f115) (hint := d_cost_network_fill.hint) (tbl := d_cost_network_fill.tbl) (tblY := d_cost_network_fill.tbl) (itK := d_cost_network_fill.it) (L := d_cost_network_fill.L) (body := d_cost_network_fill.body) (by kernel_rfl) (by kernel_rfl) (by kernel_rfl) hH ?_ ?_ ?_ d_cost_network_fill.L_ok k (by kernel_rfl) ((d_cost_network_fill.r_den k b1 o2 x3 x4 x5 h).trans hk)
  · intro k; exact addF_ok (d_cost_network_fill_1.snd hH k) (noTbl_ok k)
  · intro l' p' k; exact addF_ok (d_cost_network_fill_1.snd (hH.pay _ _) k) (noTbl_ok k)
  · intro k; exact noIt_ok k
end Go.Proofs.Ytgikimegikelkaa.Dn
