/- Functions of the program, told over a heap, with their proofs against the machine of lists and tries (printed by dprint.py). -/
import Derived.Test.YtgikimegikelkaaAbE
import Derived.Test.YtgikimegikelkaaAbDen8
import Derived.Test.YtgikimegikelkaaDn1
namespace Go.Proofs.Ytgikimegikelkaa.Dn
open Go Go.Proofs.Ytgikimegikelkaa.Ab Go.Proofs.Ytgikimegikelkaa.AbT Go.Proofs
set_option linter.unusedVariables false
set_option linter.unusedSimpArgs false
set_option maxRecDepth 100000
/-! ### (*weirgate/cost.heap[int, int]).pop: function 142 -/
noncomputable def d_cost_heap_pop.body : Code := match Try.f142.body with | some b => b | none => .skip
noncomputable def d_cost_heap_pop.hint : Nat → Option (Nat × List Ck) := fun d => none
noncomputable def d_cost_heap_pop.tbl {R : Type} : TblTy R := addF 153 [] d_cost_heap_swap.v (noTbl)
noncomputable def d_cost_heap_pop.it {R : Type} : ItTy R := noIt
noncomputable def d_cost_heap_pop.b0 (k : Nat) (L0 : Nat → Nat → Int → Int → Int → Int → List Nat → Hp → Option (Value × Hp)) (L1 : Nat → Nat → Int → Int → Int → Int → Int → Option Addr → Nat → Nat → Int → Int → List Nat → Hp → Option (Value × Hp)) (b17 : Nat) (o18 : Nat) (x19 : Int) (x20 : Int) (x21 : Int) (x22 : Int) (mk : List Nat) (h : Hp) : Option (Value × Hp) := lt (h.new (.row 1 [.int .i64 (w64 ((w64 (2 * x22)) + 1)), .int .i64 (w64 ((w64 (2 * x22)) + 2))])) fun h23 => L1 b17 o18 x19 x20 x21 x22 x22 (some ⟨h.next, 0, none⟩) 2 2 ((2 : Nat) : Int) 0 mk h23
noncomputable def d_cost_heap_pop.b1 (k : Nat) (L0 : Nat → Nat → Int → Int → Int → Int → List Nat → Hp → Option (Value × Hp)) (L1 : Nat → Nat → Int → Int → Int → Int → Int → Option Addr → Nat → Nat → Int → Int → List Nat → Hp → Option (Value × Hp)) (b24 : Nat) (o25 : Nat) (x26 : Int) (x27 : Int) (x28 : Int) (x29 : Int) (x30 : Int) (a31 : Option Addr) (n32 : Nat) (c33 : Nat) (x34 : Int) (x35 : Int) (mk : List Nat) (h : Hp) : Option (Value × Hp) := bc (decide (x35 < x34)) ((ixA a31 n32 1 x35).bind fun p36 => (asI .i64 (rd h p36.1 p36.2)).bind fun x37 => bc (decide (x37 < x28)) ((asS (rd h b24 o25)).bind fun s38 => ckB (Nat.ble (b24 + 1) h.next) ((ixA s38.a s38.n 1 x37).bind fun p39 => (asI .i64 (rd h p39.1 p39.2)).bind fun x40 => ckB (Nat.ble (p39.1 + 1) h.next) ((asS (rd h b24 o25)).bind fun s41 => ckB (Nat.ble (b24 + 1) h.next) ((ixA s41.a s41.n 1 x30).bind fun p42 => (asI .i64 (rd h p42.1 p42.2)).bind fun x43 => ckB (Nat.ble (p42.1 + 1) h.next) (bc (decide (x40 < x43)) (L1 b24 o25 x26 x27 x28 x29 x37 a31 n32 c33 x34 (w64 (x35 + 1)) mk h) (L1 b24 o25 x26 x27 x28 x29 x30 a31 n32 c33 x34 (w64 (x35 + 1)) mk h)))))) (L1 b24 o25 x26 x27 x28 x29 x30 a31 n32 c33 x34 (w64 (x35 + 1)) mk h)) (bc (x30 == x29) ((takeM h mk).bind fun h44 => some (.tuple #[.int .i64 x26, .int .i64 x27], h44)) ((d_cost_heap_swap.r k b24 o25 x29 x30 h).bind fun q45 => (asTup 0 q45.1).bind fun _ => L0 b24 o25 x26 x27 x28 x30 mk q45.2))
noncomputable def d_cost_heap_pop.LL : Nat → (Nat → Nat → Int → Int → Int → Int → List Nat → Hp → Option (Value × Hp)) × (Nat → Nat → Int → Int → Int → Int → Int → Option Addr → Nat → Nat → Int → Int → List Nat → Hp → Option (Value × Hp))
  | 0 => (fun _ _ _ _ _ _ _ _ => none, fun _ _ _ _ _ _ _ _ _ _ _ _ _ _ => none)
  | k + 1 => (d_cost_heap_pop.b0 k (d_cost_heap_pop.LL k).1 (d_cost_heap_pop.LL k).2, d_cost_heap_pop.b1 k (d_cost_heap_pop.LL k).1 (d_cost_heap_pop.LL k).2)
noncomputable def d_cost_heap_pop.l0 (k : Nat) : Nat → Nat → Int → Int → Int → Int → List Nat → Hp → Option (Value × Hp) := (d_cost_heap_pop.LL k).1
noncomputable def d_cost_heap_pop.l1 (k : Nat) : Nat → Nat → Int → Int → Int → Int → Int → Option Addr → Nat → Nat → Int → Int → List Nat → Hp → Option (Value × Hp) := (d_cost_heap_pop.LL k).2
theorem d_cost_heap_pop.l0_succ (k : Nat) : d_cost_heap_pop.l0 (k + 1) = d_cost_heap_pop.b0 k (d_cost_heap_pop.l0 k) (d_cost_heap_pop.l1 k) := rfl
theorem d_cost_heap_pop.l1_succ (k : Nat) : d_cost_heap_pop.l1 (k + 1) = d_cost_heap_pop.b1 k (d_cost_heap_pop.l0 k) (d_cost_heap_pop.l1 k) := rfl
noncomputable def d_cost_heap_pop.l0v (k : Nat) (vs : List Value) (mk : List Nat) (h : Hp) : Option (Value × Hp) := match vs with | [.pointer (some ⟨b17, o18, none⟩), .int .i64 x19, .int .i64 x20, .int .i64 x21, .int .i64 x22] => d_cost_heap_pop.l0 k b17 o18 x19 x20 x21 x22 mk h | _ => none
noncomputable def d_cost_heap_pop.l1v (k : Nat) (vs : List Value) (mk : List Nat) (h : Hp) : Option (Value × Hp) := match vs with | [.pointer (some ⟨b24, o25, none⟩), .int .i64 x26, .int .i64 x27, .int .i64 x28, .int .i64 x29, .int .i64 x30, .slice a31 n32 c33, .int .i64 x34, .int .i64 x35] => d_cost_heap_pop.l1 k b24 o25 x26 x27 x28 x29 x30 a31 n32 c33 x34 x35 mk h | _ => none
noncomputable def d_cost_heap_pop.L : List LEnt := [.lp [(0, .cell .ptr), (4, .cell (.int .i64)), (5, .cell (.int .i64)), (6, .cell (.int .i64)), (7, .cell (.int .i64))] (d_cost_heap_pop.l0v), .lp [(0, .cell .ptr), (4, .cell (.int .i64)), (5, .cell (.int .i64)), (6, .cell (.int .i64)), (7, .cell (.int .i64)), (8, .cell (.int .i64)), (57, .cell .slc), (58, .cell (.int .i64)), (59, .cell (.int .i64))] (d_cost_heap_pop.l1v)]
noncomputable def d_cost_heap_pop.r (k : Nat) (b1 : Nat) (o2 : Nat) (h : Hp) : Option (Value × Hp) := (asS (rd h b1 o2)).bind fun s3 => ckB (Nat.ble (b1 + 1) h.next) ((ixA s3.a s3.n 1 0).bind fun p4 => (asI .i64 (rd h p4.1 p4.2)).bind fun x5 => ckB (Nat.ble (p4.1 + 1) h.next) ((asS (rd h b1 (o2 + 1))).bind fun s6 => ckB (Nat.ble (b1 + 1) h.next) ((ixA s6.a s6.n 1 0).bind fun p7 => (asI .i64 (rd h p7.1 p7.2)).bind fun x8 => ckB (Nat.ble (p7.1 + 1) h.next) ((asS (rd h b1 o2)).bind fun s9 => (d_cost_heap_swap.r k b1 o2 0 (w64 (((s9.n : Nat) : Int) - 1)) h).bind fun q10 => (asTup 0 q10.1).bind fun _ => (asS (rd q10.2 b1 o2)).bind fun s11 => ckB (Nat.ble (b1 + 1) q10.2.next) ((slA s11.a s11.c 1 0 (w64 (((s9.n : Nat) : Int) - 1))).bind fun s12 => (asS (rd q10.2 b1 (o2 + 1))).bind fun s13 => ckB (Nat.ble (b1 + 1) q10.2.next) ((slA s13.a s13.c 1 0 (w64 (((s9.n : Nat) : Int) - 1))).bind fun s14 => (wr q10.2 b1 o2 [.slice s12.a s12.n s12.c]).bind fun h15 => (wr h15 b1 (o2 + 1) [.slice s14.a s14.n s14.c]).bind fun h16 => d_cost_heap_pop.l0 k b1 o2 x5 x8 (w64 (((s9.n : Nat) : Int) - 1)) 0 [] h16))))))
noncomputable def d_cost_heap_pop.v (k : Nat) (args : List Value) (h : Hp) : Option (Value × Hp) := castAL [.cell .ptr] args fun vs => match vs with | [.pointer (some ⟨b1, o2, none⟩)] => d_cost_heap_pop.r k b1 o2 h | _ => none
theorem d_cost_heap_pop.l0_den (k : Nat) (b17 : Nat) (o18 : Nat) (x19 : Int) (x20 : Int) (x21 : Int) (x22 : Int) (mk : List Nat) (h : Hp) (G : Tr Value) : loopF' ((ctx E1 95 d_cost_heap_pop.hint (d_cost_heap_pop.tbl) d_cost_heap_pop.it (LPof (d_cost_heap_pop.L)) (YOof (d_cost_heap_pop.L))) k) Try.f142 pairK 0 ⟨[(0, .pointer (some ⟨b17, o18, none⟩)), (4, .int .i64 x19), (5, .int .i64 x20), (6, .int .i64 x21), (7, .int .i64 x22)], G, mk⟩ h = d_cost_heap_pop.l0 (k + 1) b17 o18 x19 x20 x21 x22 mk h := by kernel_rfl
theorem d_cost_heap_pop.l1_den (k : Nat) (b24 : Nat) (o25 : Nat) (x26 : Int) (x27 : Int) (x28 : Int) (x29 : Int) (x30 : Int) (a31 : Option Addr) (n32 : Nat) (c33 : Nat) (x34 : Int) (x35 : Int) (mk : List Nat) (h : Hp) (G : Tr Value) : loopF' ((ctx E1 95 d_cost_heap_pop.hint (d_cost_heap_pop.tbl) d_cost_heap_pop.it (LPof (d_cost_heap_pop.L)) (YOof (d_cost_heap_pop.L))) k) Try.f142 pairK 1 ⟨[(0, .pointer (some ⟨b24, o25, none⟩)), (4, .int .i64 x26), (5, .int .i64 x27), (6, .int .i64 x28), (7, .int .i64 x29), (8, .int .i64 x30), (57, .slice a31 n32 c33), (58, .int .i64 x34), (59, .int .i64 x35)], G, mk⟩ h = d_cost_heap_pop.l1 (k + 1) b24 o25 x26 x27 x28 x29 x30 a31 n32 c33 x34 x35 mk h := by kernel_rfl
theorem d_cost_heap_pop.r_den (k : Nat) (b1 : Nat) (o2 : Nat) (h : Hp) : denF ((ctx E1 95 d_cost_heap_pop.hint (d_cost_heap_pop.tbl) d_cost_heap_pop.it (LPof (d_cost_heap_pop.L)) (YOof (d_cost_heap_pop.L))) k) Try.f142 [.pointer (some ⟨b1, o2, none⟩)] h pairK = d_cost_heap_pop.r k b1 o2 h := by kernel_rfl
theorem d_cost_heap_pop.L_ok : ∀ i x, (d_cost_heap_pop.L)[i]? = some x → LOK (ctx E1 95 d_cost_heap_pop.hint (d_cost_heap_pop.tbl) d_cost_heap_pop.it (LPof (d_cost_heap_pop.L)) (YOof (d_cost_heap_pop.L))) (ctxY E1 95 d_cost_heap_pop.hint (d_cost_heap_pop.tbl)) Try.f142 (todoC d_cost_heap_pop.body []) i x := by
  refine LOK_cons (P := fun i x => LOK (ctx E1 95 d_cost_heap_pop.hint (d_cost_heap_pop.tbl) d_cost_heap_pop.it (LPof (d_cost_heap_pop.L)) (YOof (d_cost_heap_pop.L))) (ctxY E1 95 d_cost_heap_pop.hint (d_cost_heap_pop.tbl)) Try.f142 (todoC d_cost_heap_pop.body []) (i) x) ?_ ?_
  · refine ⟨by kernel_rfl, fun vs mk h ht => ?_, fun k vs mk h r ht hk G => ?_⟩
    · obtain ⟨v0, vs0, rfl, hv0, ht0⟩ := TySL_cons ht
      obtain ⟨b17, o18, rfl⟩ := hv0
      obtain ⟨v1, vs1, rfl, hv1, ht1⟩ := TySL_cons ht0
      obtain ⟨x19, rfl⟩ := hv1
      obtain ⟨v2, vs2, rfl, hv2, ht2⟩ := TySL_cons ht1
      obtain ⟨x20, rfl⟩ := hv2
      obtain ⟨v3, vs3, rfl, hv3, ht3⟩ := TySL_cons ht2
      obtain ⟨x21, rfl⟩ := hv3
      obtain ⟨v4, vs4, rfl, hv4, ht4⟩ := TySL_cons ht3
      obtain ⟨x22, rfl⟩ := hv4
      obtain rfl := TySL_nil ht4
      rfl
    · obtain ⟨v0, vs0, rfl, hv0, ht0⟩ := TySL_cons ht
      obtain ⟨b17, o18, rfl⟩ := hv0
      obtain ⟨v1, vs1, rfl, hv1, ht1⟩ := TySL_cons ht0
      obtain ⟨x19, rfl⟩ := hv1
      obtain ⟨v2, vs2, rfl, hv2, ht2⟩ := TySL_cons ht1
      obtain ⟨x20, rfl⟩ := hv2
      obtain ⟨v3, vs3, rfl, hv3, ht3⟩ := TySL_cons ht2
      obtain ⟨x21, rfl⟩ := hv3
      obtain ⟨v4, vs4, rfl, hv4, ht4⟩ := TySL_cons ht3
      obtain ⟨x22, rfl⟩ := hv4
      obtain rfl := TySL_nil ht4
      exact (d_cost_heap_pop.l0_den k b17 o18 x19 x20 x21 x22 mk h G).trans hk
  refine LOK_cons (P := fun i x => LOK (ctx E1 95 d_cost_heap_pop.hint (d_cost_heap_pop.tbl) d_cost_heap_pop.it (LPof (d_cost_heap_pop.L)) (YOof (d_cost_heap_pop.L))) (ctxY E1 95 d_cost_heap_pop.hint (d_cost_heap_pop.tbl)) Try.f142 (todoC d_cost_heap_pop.body []) (i + 1) x) ?_ ?_
  · refine ⟨by kernel_rfl, fun vs mk h ht => ?_, fun k vs mk h r ht hk G => ?_⟩
    · obtain ⟨v0, vs0, rfl, hv0, ht0⟩ := TySL_cons ht
      obtain ⟨b24, o25, rfl⟩ := hv0
      obtain ⟨v1, vs1, rfl, hv1, ht1⟩ := TySL_cons ht0
      obtain ⟨x26, rfl⟩ := hv1
      obtain ⟨v2, vs2, rfl, hv2, ht2⟩ := TySL_cons ht1
      obtain ⟨x27, rfl⟩ := hv2
      obtain ⟨v3, vs3, rfl, hv3, ht3⟩ := TySL_cons ht2
      obtain ⟨x28, rfl⟩ := hv3
      obtain ⟨v4, vs4, rfl, hv4, ht4⟩ := TySL_cons ht3
      obtain ⟨x29, rfl⟩ := hv4
      obtain ⟨v5, vs5, rfl, hv5, ht5⟩ := TySL_cons ht4
      obtain ⟨x30, rfl⟩ := hv5
      obtain ⟨v6, vs6, rfl, hv6, ht6⟩ := TySL_cons ht5
      obtain ⟨a31, n32, c33, rfl⟩ := hv6
      obtain ⟨v7, vs7, rfl, hv7, ht7⟩ := TySL_cons ht6
      obtain ⟨x34, rfl⟩ := hv7
      obtain ⟨v8, vs8, rfl, hv8, ht8⟩ := TySL_cons ht7
      obtain ⟨x35, rfl⟩ := hv8
      obtain rfl := TySL_nil ht8
      rfl
    · obtain ⟨v0, vs0, rfl, hv0, ht0⟩ := TySL_cons ht
      obtain ⟨b24, o25, rfl⟩ := hv0
      obtain ⟨v1, vs1, rfl, hv1, ht1⟩ := TySL_cons ht0
      obtain ⟨x26, rfl⟩ := hv1
      obtain ⟨v2, vs2, rfl, hv2, ht2⟩ := TySL_cons ht1
      obtain ⟨x27, rfl⟩ := hv2
      obtain ⟨v3, vs3, rfl, hv3, ht3⟩ := TySL_cons ht2
      obtain ⟨x28, rfl⟩ := hv3
      obtain ⟨v4, vs4, rfl, hv4, ht4⟩ := TySL_cons ht3
      obtain ⟨x29, rfl⟩ := hv4
      obtain ⟨v5, vs5, rfl, hv5, ht5⟩ := TySL_cons ht4
      obtain ⟨x30, rfl⟩ := hv5
      obtain ⟨v6, vs6, rfl, hv6, ht6⟩ := TySL_cons ht5
      obtain ⟨a31, n32, c33, rfl⟩ := hv6
      obtain ⟨v7, vs7, rfl, hv7, ht7⟩ := TySL_cons ht6
      obtain ⟨x34, rfl⟩ := hv7
      obtain ⟨v8, vs8, rfl, hv8, ht8⟩ := TySL_cons ht7
      obtain ⟨x35, rfl⟩ := hv8
      obtain rfl := TySL_nil ht8
      exact (d_cost_heap_pop.l1_den k b24 o25 x26 x27 x28 x29 x30 a31 n32 c33 x34 x35 mk h G).trans hk
  exact LOK_nil
theorem d_cost_heap_pop.snd {H : Pl → Prop} (hH : MonoH H) (k : Nat) : SndF E1 H 142 (d_cost_heap_pop.v k) := by
  intro args h v h1 hk
  obtain ⟨ht, hk⟩ := castAL_ok hk
  obtain ⟨v0, vs0, rfl, hv0, ht0⟩ := TyAL_cons ht
  obtain ⟨b1, o2, rfl⟩ := hv0
  obtain rfl := TyAL_nil ht0
  refine fn_ok' (E := E1) (N := 95) (g := 142) (F := Try.f142) (hint := d_cost_heap_pop.hint) (tbl := d_cost_heap_pop.tbl) (tblY := d_cost_heap_pop.tbl) (itK := d_cost_heap_pop.it) (L := d_cost_heap_pop.L) (body := d_cost_heap_pop.body) (by kernel_rfl) (by kernel_rfl) (by kernel_rfl) hH ?_ ?_ ?_ d_cost_heap_pop.L_ok k (by kernel_rfl) ((d_cost_heap_pop.r_den k b1 o2 h).trans hk)
  · intro k; exact addF_ok (d_cost_heap_swap.snd hH k) (noTbl_ok k)
  · intro l' p' k; exact addF_ok (d_cost_heap_swap.snd (hH.pay _ _) k) (noTbl_ok k)
  · intro k; exact noIt_ok k

/-! ### (*weirgate/cost.network).ways: function 143 -/
noncomputable def d_cost_network_ways.body : Code := match Try.f143.body with | some b => b | none => .skip
noncomputable def d_cost_network_ways.hint : Nat → Option (Nat × List Ck) := fun d => none
noncomputable def d_cost_network_ways.tbl {R : Type} : TblTy R := noTbl
noncomputable def d_cost_network_ways.it {R : Type} : ItTy R := noIt
noncomputable def d_cost_network_ways.L : List LEnt := []
noncomputable def d_cost_network_ways.r (k : Nat) (b1 : Nat) (o2 : Nat) (x3 : Int) (h : Hp) : Option (Value × Hp) := lt (h.new (.row 0 [.pointer (some ⟨b1, o2, none⟩)])) fun h4 => lt (h4.new (.row 0 [.int .i64 x3])) fun h5 => some (.func (.func 154) #[] #[.pointer (some ⟨h.next, 0, none⟩), .pointer (some ⟨h4.next, 0, none⟩)], h5)
noncomputable def d_cost_network_ways.v (k : Nat) (args : List Value) (h : Hp) : Option (Value × Hp) := castAL [.cell .ptr, .cell (.int .i64)] args fun vs => match vs with | [.pointer (some ⟨b1, o2, none⟩), .int .i64 x3] => d_cost_network_ways.r k b1 o2 x3 h | _ => none
theorem d_cost_network_ways.r_den (k : Nat) (b1 : Nat) (o2 : Nat) (x3 : Int) (h : Hp) : denF ((ctx E1 6 d_cost_network_ways.hint (d_cost_network_ways.tbl) d_cost_network_ways.it (LPof (d_cost_network_ways.L)) (YOof (d_cost_network_ways.L))) k) Try.f143 [.pointer (some ⟨b1, o2, none⟩), .int .i64 x3] h pairK = d_cost_network_ways.r k b1 o2 x3 h := by kernel_rfl
theorem d_cost_network_ways.L_ok : ∀ i x, (d_cost_network_ways.L)[i]? = some x → LOK (ctx E1 6 d_cost_network_ways.hint (d_cost_network_ways.tbl) d_cost_network_ways.it (LPof (d_cost_network_ways.L)) (YOof (d_cost_network_ways.L))) (ctxY E1 6 d_cost_network_ways.hint (d_cost_network_ways.tbl)) Try.f143 (todoC d_cost_network_ways.body []) i x := by
  exact LOK_nil
theorem d_cost_network_ways.snd {H : Pl → Prop} (hH : MonoH H) (k : Nat) : SndF E1 H 143 (d_cost_network_ways.v k) := by
  intro args h v h1 hk
  obtain ⟨ht, hk⟩ := castAL_ok hk
  obtain ⟨v0, vs0, rfl, hv0, ht0⟩ := TyAL_cons ht
  obtain ⟨b1, o2, rfl⟩ := hv0
  obtain ⟨v1, vs1, rfl, hv1, ht1⟩ := TyAL_cons ht0
  obtain ⟨x3, rfl⟩ := hv1
  obtain rfl := TyAL_nil ht1
  refine fn_ok' (E := E1) (N := 6) (g := 143) (F := Try.f143) (hint := d_cost_network_ways.hint) (tbl := d_cost_network_ways.tbl) (tblY := d_cost_network_ways.tbl) (itK := d_cost_network_ways.it) (L := d_cost_network_ways.L) (body := d_cost_network_ways.body) (by kernel_rfl) (by kernel_rfl) (by kernel_rfl) hH ?_ ?_ ?_ d_cost_network_ways.L_ok k (by kernel_rfl) ((d_cost_network_ways.r_den k b1 o2 x3 h).trans hk)
  · intro k; exact noTbl_ok k
  · intro l' p' k; exact noTbl_ok k
  · intro k; exact noIt_ok k

/-! ### (*weirgate/cost.network).ways$1: function 154 -/
noncomputable def d_cost_network_ways_1.body : Code := match Try.f154.body with | some b => b | none => .skip
noncomputable def d_cost_network_ways_1.hint : Nat → Option (Nat × List Ck) := fun d => none
noncomputable def d_cost_network_ways_1.tbl {R : Type} (l : Nat) (Y : List Value → Hp → Option (Bool × Hp)) : TblTy R := addY l Y (noTbl)
noncomputable def d_cost_network_ways_1.it {R : Type} : ItTy R := noIt
noncomputable def d_cost_network_ways_1.b0 (l : Nat) (Y : List Value → Hp → Option (Bool × Hp)) (k : Nat) (L0 : Nat → Nat → Nat → Nat → Nat → Option Addr → Nat → Nat → Int → Int → List Nat → Hp → Option (Value × Hp)) (l11 : Nat) (b12 : Nat) (o13 : Nat) (b14 : Nat) (o15 : Nat) (a16 : Option Addr) (n17 : Nat) (c18 : Nat) (x19 : Int) (x20 : Int) (mk : List Nat) (h : Hp) : Option (Value × Hp) := bc (decide (x20 < x19)) ((ixA a16 n17 1 x20).bind fun p21 => (asI .i64 (rd h p21.1 p21.2)).bind fun x22 => (asP (rd h b12 o13)).bind fun p23 => (asS (rd h p23.1 (p23.2 + 1))).bind fun s24 => (ixA s24.a s24.n 4 x22).bind fun p25 => (asI .i64 (rd h p25.1 p25.2)).bind fun x26 => (asI .i64 (rd h p25.1 (p25.2 + 1))).bind fun x27 => (asI .i64 (rd h p25.1 (p25.2 + 2))).bind fun x28 => (asI .i64 (rd h p25.1 (p25.2 + 3))).bind fun x29 => lt (h.new (.row 0 [.int .i64 0, .int .i64 0, .int .i64 0, .int .i64 0])) fun h30 => (wr h30 h.next 0 [.int .i64 x26, .int .i64 x27, .int .i64 x28, .int .i64 x29]).bind fun h31 => (asI .i64 (rd h31 h.next (0 + 1))).bind fun x32 => ckB (Nat.ble (h.next + 1) h31.next) ((asI .i64 (rd h31 h.next (0 + 2))).bind fun x33 => ckB (Nat.ble (h.next + 1) h31.next) ((asP (rd h31 b12 o13)).bind fun p34 => ckB (Nat.ble (b12 + 1) h31.next) ((asS (rd h31 p34.1 (p34.2 + 2))).bind fun s35 => ckB (Nat.ble (p34.1 + 1) h31.next) ((ixA s35.a s35.n 1 x22).bind fun p36 => (asI .i64 (rd h31 p36.1 p36.2)).bind fun x37 => ckB (Nat.ble (p36.1 + 1) h31.next) ((asI .i64 (rd h31 h.next (0 + 3))).bind fun x38 => ckB (Nat.ble (h.next + 1) h31.next) (lt h31.bump fun h39 => lt (h39.set h31.next (.row 0 [.int .i64 0, .int .i64 0, .int .i64 0, .int .i64 0, .bool false])) fun h40 => (wr h40 h31.next 0 [.int .i64 x22, .int .i64 x32, .int .i64 (w64 (x33 - x37)), .int .i64 x38, .bool false]).bind fun h41 => (asI .i64 (rd h41 h.next 0)).bind fun x42 => (asI .i64 (rd h41 b14 o15)).bind fun x43 => bc (!(x42 == x43)) ((asI .i64 (rd h41 h.next 0)).bind fun x44 => ckB (Nat.ble (h.next + 1) h41.next) ((asP (rd h41 b12 o13)).bind fun p45 => ckB (Nat.ble (b12 + 1) h41.next) ((asS (rd h41 p45.1 (p45.2 + 2))).bind fun s46 => ckB (Nat.ble (p45.1 + 1) h41.next) ((ixA s46.a s46.n 1 x22).bind fun p47 => (asI .i64 (rd h41 p47.1 p47.2)).bind fun x48 => ckB (Nat.ble (p47.1 + 1) h41.next) ((asI .i64 (rd h41 h.next (0 + 3))).bind fun x49 => ckB (Nat.ble (h.next + 1) h41.next) ((wr h41 h31.next 0 [.int .i64 x22, .int .i64 x44, .int .i64 x48, .int .i64 (w64 (0 - x49)), .bool true]).bind fun h50 => (asI .i64 (rd h50 h31.next (0 + 2))).bind fun x51 => bc (decide (x51 > 0)) ((asI .i64 (rd h50 h31.next 0)).bind fun x52 => (asI .i64 (rd h50 h31.next (0 + 1))).bind fun x53 => (asI .i64 (rd h50 h31.next (0 + 2))).bind fun x54 => (asI .i64 (rd h50 h31.next (0 + 3))).bind fun x55 => (asB (rd h50 h31.next (0 + 4))).bind fun x56 => ckN l11 l ((Y [.agg #[.int .i64 x52, .int .i64 x53, .int .i64 x54, .int .i64 x55, .bool x56]] h50).bind fun q57 => bc (!q57.1) ((takeM q57.2 mk).bind fun h58 => some (.tuple #[], h58)) (L0 l11 b12 o13 b14 o15 a16 n17 c18 x19 (w64 (x20 + 1)) mk q57.2))) (L0 l11 b12 o13 b14 o15 a16 n17 c18 x19 (w64 (x20 + 1)) mk h50))))))) ((asI .i64 (rd h41 h31.next (0 + 2))).bind fun x59 => bc (decide (x59 > 0)) ((asI .i64 (rd h41 h31.next 0)).bind fun x60 => (asI .i64 (rd h41 h31.next (0 + 1))).bind fun x61 => (asI .i64 (rd h41 h31.next (0 + 2))).bind fun x62 => (asI .i64 (rd h41 h31.next (0 + 3))).bind fun x63 => (asB (rd h41 h31.next (0 + 4))).bind fun x64 => ckN l11 l ((Y [.agg #[.int .i64 x60, .int .i64 x61, .int .i64 x62, .int .i64 x63, .bool x64]] h41).bind fun q65 => bc (!q65.1) ((takeM q65.2 mk).bind fun h66 => some (.tuple #[], h66)) (L0 l11 b12 o13 b14 o15 a16 n17 c18 x19 (w64 (x20 + 1)) mk q65.2))) (L0 l11 b12 o13 b14 o15 a16 n17 c18 x19 (w64 (x20 + 1)) mk h41))))))))) ((takeM h mk).bind fun h67 => some (.tuple #[], h67))
noncomputable def d_cost_network_ways_1.LL (l : Nat) (Y : List Value → Hp → Option (Bool × Hp)) : Nat → (Nat → Nat → Nat → Nat → Nat → Option Addr → Nat → Nat → Int → Int → List Nat → Hp → Option (Value × Hp))
  | 0 => fun _ _ _ _ _ _ _ _ _ _ _ _ => none
  | k + 1 => d_cost_network_ways_1.b0 l Y k (d_cost_network_ways_1.LL l Y k)
noncomputable def d_cost_network_ways_1.l0 (l : Nat) (Y : List Value → Hp → Option (Bool × Hp)) (k : Nat) : Nat → Nat → Nat → Nat → Nat → Option Addr → Nat → Nat → Int → Int → List Nat → Hp → Option (Value × Hp) := (d_cost_network_ways_1.LL l Y k)
theorem d_cost_network_ways_1.l0_succ (l : Nat) (Y : List Value → Hp → Option (Bool × Hp)) (k : Nat) : d_cost_network_ways_1.l0 l Y (k + 1) = d_cost_network_ways_1.b0 l Y k (d_cost_network_ways_1.l0 l Y k) := rfl
noncomputable def d_cost_network_ways_1.l0v (l : Nat) (Y : List Value → Hp → Option (Bool × Hp)) (k : Nat) (vs : List Value) (mk : List Nat) (h : Hp) : Option (Value × Hp) := match vs with | [.func (.yield l11) ⟨[]⟩ ⟨[]⟩, .pointer (some ⟨b12, o13, none⟩), .pointer (some ⟨b14, o15, none⟩), .slice a16 n17 c18, .int .i64 x19, .int .i64 x20] => d_cost_network_ways_1.l0 l Y k l11 b12 o13 b14 o15 a16 n17 c18 x19 x20 mk h | _ => none
noncomputable def d_cost_network_ways_1.L (l : Nat) (Y : List Value → Hp → Option (Bool × Hp)) : List LEnt := [.lp [(0, .yld), (1, .cell .ptr), (2, .cell .ptr), (14, .cell .slc), (15, .cell (.int .i64)), (16, .cell (.int .i64))] (d_cost_network_ways_1.l0v l Y)]
noncomputable def d_cost_network_ways_1.r (k : Nat) (l : Nat) (Y : List Value → Hp → Option (Bool × Hp)) (l1 : Nat) (b2 : Nat) (o3 : Nat) (b4 : Nat) (o5 : Nat) (h : Hp) : Option (Value × Hp) := (asP (rd h b2 o3)).bind fun p6 => ckB (Nat.ble (b2 + 1) h.next) ((asS (rd h p6.1 (p6.2 + 3))).bind fun s7 => ckB (Nat.ble (p6.1 + 1) h.next) ((asI .i64 (rd h b4 o5)).bind fun x8 => ckB (Nat.ble (b4 + 1) h.next) ((ixA s7.a s7.n 1 x8).bind fun p9 => (asS (rd h p9.1 p9.2)).bind fun s10 => ckB (Nat.ble (p9.1 + 1) h.next) (d_cost_network_ways_1.l0 l Y k l1 b2 o3 b4 o5 s10.a s10.n s10.c ((s10.n : Nat) : Int) 0 [] h))))
noncomputable def d_cost_network_ways_1.v (k l : Nat) (Y : List Value → Hp → Option (Bool × Hp)) (args : List Value) (h : Hp) : Option (Value × Hp) := castAL [.yld, .cell .ptr, .cell .ptr] args fun vs => match vs with | [.func (.yield l1) ⟨[]⟩ ⟨[]⟩, .pointer (some ⟨b2, o3, none⟩), .pointer (some ⟨b4, o5, none⟩)] => d_cost_network_ways_1.r k l Y l1 b2 o3 b4 o5 h | _ => none
theorem d_cost_network_ways_1.l0_den (l : Nat) (Y : List Value → Hp → Option (Bool × Hp)) (k : Nat) (l11 : Nat) (b12 : Nat) (o13 : Nat) (b14 : Nat) (o15 : Nat) (a16 : Option Addr) (n17 : Nat) (c18 : Nat) (x19 : Int) (x20 : Int) (mk : List Nat) (h : Hp) (G : Tr Value) : loopF' ((ctx E1 72 d_cost_network_ways_1.hint (d_cost_network_ways_1.tbl l Y) d_cost_network_ways_1.it (LPof (d_cost_network_ways_1.L l Y)) (YOof (d_cost_network_ways_1.L l Y))) k) Try.f154 pairK 0 ⟨[(0, .func (.yield l11) #[] #[]), (1, .pointer (some ⟨b12, o13, none⟩)), (2, .pointer (some ⟨b14, o15, none⟩)), (14, .slice a16 n17 c18), (15, .int .i64 x19), (16, .int .i64 x20)], G, mk⟩ h = d_cost_network_ways_1.l0 l Y (k + 1) l11 b12 o13 b14 o15 a16 n17 c18 x19 x20 mk h := by kernel_rfl
theorem d_cost_network_ways_1.r_den (l : Nat) (Y : List Value → Hp → Option (Bool × Hp)) (k : Nat) (l1 : Nat) (b2 : Nat) (o3 : Nat) (b4 : Nat) (o5 : Nat) (h : Hp) : denF ((ctx E1 72 d_cost_network_ways_1.hint (d_cost_network_ways_1.tbl l Y) d_cost_network_ways_1.it (LPof (d_cost_network_ways_1.L l Y)) (YOof (d_cost_network_ways_1.L l Y))) k) Try.f154 [.func (.yield l1) #[] #[], .pointer (some ⟨b2, o3, none⟩), .pointer (some ⟨b4, o5, none⟩)] h pairK = d_cost_network_ways_1.r k l Y l1 b2 o3 b4 o5 h := by kernel_rfl
theorem d_cost_network_ways_1.L_ok (l : Nat) (Y : List Value → Hp → Option (Bool × Hp)) : ∀ i x, (d_cost_network_ways_1.L l Y)[i]? = some x → LOK (ctx E1 72 d_cost_network_ways_1.hint (d_cost_network_ways_1.tbl l Y) d_cost_network_ways_1.it (LPof (d_cost_network_ways_1.L l Y)) (YOof (d_cost_network_ways_1.L l Y))) (ctxY E1 72 d_cost_network_ways_1.hint (d_cost_network_ways_1.tbl l Y)) Try.f154 (todoC d_cost_network_ways_1.body []) i x := by
  refine LOK_cons (P := fun i x => LOK (ctx E1 72 d_cost_network_ways_1.hint (d_cost_network_ways_1.tbl l Y) d_cost_network_ways_1.it (LPof (d_cost_network_ways_1.L l Y)) (YOof (d_cost_network_ways_1.L l Y))) (ctxY E1 72 d_cost_network_ways_1.hint (d_cost_network_ways_1.tbl l Y)) Try.f154 (todoC d_cost_network_ways_1.body []) (i) x) ?_ ?_
  · refine ⟨by kernel_rfl, fun vs mk h ht => ?_, fun k vs mk h r ht hk G => ?_⟩
    · obtain ⟨v0, vs0, rfl, hv0, ht0⟩ := TySL_cons ht
      obtain ⟨l11, rfl⟩ := hv0
      obtain ⟨v1, vs1, rfl, hv1, ht1⟩ := TySL_cons ht0
      obtain ⟨b12, o13, rfl⟩ := hv1
      obtain ⟨v2, vs2, rfl, hv2, ht2⟩ := TySL_cons ht1
      obtain ⟨b14, o15, rfl⟩ := hv2
      obtain ⟨v3, vs3, rfl, hv3, ht3⟩ := TySL_cons ht2
      obtain ⟨a16, n17, c18, rfl⟩ := hv3
      obtain ⟨v4, vs4, rfl, hv4, ht4⟩ := TySL_cons ht3
      obtain ⟨x19, rfl⟩ := hv4
      obtain ⟨v5, vs5, rfl, hv5, ht5⟩ := TySL_cons ht4
      obtain ⟨x20, rfl⟩ := hv5
      obtain rfl := TySL_nil ht5
      rfl
    · obtain ⟨v0, vs0, rfl, hv0, ht0⟩ := TySL_cons ht
      obtain ⟨l11, rfl⟩ := hv0
      obtain ⟨v1, vs1, rfl, hv1, ht1⟩ := TySL_cons ht0
      obtain ⟨b12, o13, rfl⟩ := hv1
      obtain ⟨v2, vs2, rfl, hv2, ht2⟩ := TySL_cons ht1
      obtain ⟨b14, o15, rfl⟩ := hv2
      obtain ⟨v3, vs3, rfl, hv3, ht3⟩ := TySL_cons ht2
      obtain ⟨a16, n17, c18, rfl⟩ := hv3
      obtain ⟨v4, vs4, rfl, hv4, ht4⟩ := TySL_cons ht3
      obtain ⟨x19, rfl⟩ := hv4
      obtain ⟨v5, vs5, rfl, hv5, ht5⟩ := TySL_cons ht4
      obtain ⟨x20, rfl⟩ := hv5
      obtain rfl := TySL_nil ht5
      exact (d_cost_network_ways_1.l0_den l Y k l11 b12 o13 b14 o15 a16 n17 c18 x19 x20 mk h G).trans hk
  exact LOK_nil
theorem d_cost_network_ways_1.sndI (k : Nat) : SndI E1 154 (d_cost_network_ways_1.v k) := by
  intro H hH l Y p hY args h v h1 hk
  obtain ⟨ht, hk⟩ := castAL_ok hk
  obtain ⟨v0, vs0, rfl, hv0, ht0⟩ := TyAL_cons ht
  obtain ⟨l1, rfl⟩ := hv0
  obtain ⟨v1, vs1, rfl, hv1, ht1⟩ := TyAL_cons ht0
  obtain ⟨b2, o3, rfl⟩ := hv1
  obtain ⟨v2, vs2, rfl, hv2, ht2⟩ := TyAL_cons ht1
  obtain ⟨b4, o5, rfl⟩ := hv2
  obtain rfl := TyAL_nil ht2
  have hH2 := hH.pay l p
  refine fn_ok' (E := E1) (N := 72) (g := 154) (F := Try.f154) (hint := d_cost_network_ways_1.hint) (tbl := d_cost_network_ways_1.tbl l Y) (tblY := d_cost_network_ways_1.tbl l Y) (itK := d_cost_network_ways_1.it) (L := d_cost_network_ways_1.L l Y) (body := d_cost_network_ways_1.body) (by kernel_rfl) (by kernel_rfl) (by kernel_rfl) hH2 ?_ ?_ ?_ (d_cost_network_ways_1.L_ok l Y) k (by kernel_rfl) ((d_cost_network_ways_1.r_den l Y k l1 b2 o3 b4 o5 h).trans hk)
  · intro k; exact addY_ok hY (noTbl_ok k)
  · intro l' p' k; exact addY_ok (fun a h b h1 hy pl m hp hF => hY a h b h1 hy pl m hp.1 hF) (noTbl_ok k)
  · intro k; exact noIt_ok k

/-! ### (*weirgate/cost.network).reduced: function 144 -/
noncomputable def d_cost_network_reduced.body : Code := match Try.f144.body with | some b => b | none => .skip
noncomputable def d_cost_network_reduced.hint : Nat → Option (Nat × List Ck) := fun d => none
noncomputable def d_cost_network_reduced.tbl {R : Type} : TblTy R := noTbl
noncomputable def d_cost_network_reduced.it {R : Type} : ItTy R := noIt
noncomputable def d_cost_network_reduced.L : List LEnt := []
noncomputable def d_cost_network_reduced.r (k : Nat) (b1 : Nat) (o2 : Nat) (x3 : Int) (x5 : Int) (x10 : Int) (x15 : Int) (x20 : Int) (x25 : Bool) (h : Hp) : Option (Value × Hp) := lt (h.new (.row 0 [.int .i64 x5, .int .i64 x10, .int .i64 x15, .int .i64 x20, .bool x25])) fun h30 => (asI .i64 (rd h30 h.next (0 + 3))).bind fun x31 => ckB (Nat.ble (h.next + 1) h30.next) ((asS (rd h30 b1 (o2 + 4))).bind fun s32 => ckB (Nat.ble (b1 + 1) h30.next) ((ixA s32.a s32.n 1 x3).bind fun p33 => (asI .i64 (rd h30 p33.1 p33.2)).bind fun x34 => ckB (Nat.ble (p33.1 + 1) h30.next) ((asS (rd h30 b1 (o2 + 4))).bind fun s35 => ckB (Nat.ble (b1 + 1) h30.next) ((asI .i64 (rd h30 h.next (0 + 1))).bind fun x36 => ckB (Nat.ble (h.next + 1) h30.next) ((ixA s35.a s35.n 1 x36).bind fun p37 => (asI .i64 (rd h30 p37.1 p37.2)).bind fun x38 => ckB (Nat.ble (p37.1 + 1) h30.next) (some (.int .i64 (w64 ((w64 (x31 + x34)) - x38)), h30)))))))
noncomputable def d_cost_network_reduced.v (k : Nat) (args : List Value) (h : Hp) : Option (Value × Hp) := castAL [.cell .ptr, .cell (.int .i64), .agg [.int .i64, .int .i64, .int .i64, .int .i64, .bool]] args fun vs => match vs with | [.pointer (some ⟨b1, o2, none⟩), .int .i64 x3, .agg ⟨[.int .i64 x5, .int .i64 x10, .int .i64 x15, .int .i64 x20, .bool x25]⟩] => d_cost_network_reduced.r k b1 o2 x3 x5 x10 x15 x20 x25 h | _ => none
theorem d_cost_network_reduced.r_den (k : Nat) (b1 : Nat) (o2 : Nat) (x3 : Int) (x5 : Int) (x10 : Int) (x15 : Int) (x20 : Int) (x25 : Bool) (h : Hp) : denF ((ctx E1 26 d_cost_network_reduced.hint (d_cost_network_reduced.tbl) d_cost_network_reduced.it (LPof (d_cost_network_reduced.L)) (YOof (d_cost_network_reduced.L))) k) Try.f144 [.pointer (some ⟨b1, o2, none⟩), .int .i64 x3, .agg #[.int .i64 x5, .int .i64 x10, .int .i64 x15, .int .i64 x20, .bool x25]] h pairK = d_cost_network_reduced.r k b1 o2 x3 x5 x10 x15 x20 x25 h := by kernel_rfl
theorem d_cost_network_reduced.L_ok : ∀ i x, (d_cost_network_reduced.L)[i]? = some x → LOK (ctx E1 26 d_cost_network_reduced.hint (d_cost_network_reduced.tbl) d_cost_network_reduced.it (LPof (d_cost_network_reduced.L)) (YOof (d_cost_network_reduced.L))) (ctxY E1 26 d_cost_network_reduced.hint (d_cost_network_reduced.tbl)) Try.f144 (todoC d_cost_network_reduced.body []) i x := by
  exact LOK_nil
theorem d_cost_network_reduced.snd {H : Pl → Prop} (hH : MonoH H) (k : Nat) : SndF E1 H 144 (d_cost_network_reduced.v k) := by
  intro args h v h1 hk
  obtain ⟨ht, hk⟩ := castAL_ok hk
  obtain ⟨v0, vs0, rfl, hv0, ht0⟩ := TyAL_cons ht
  obtain ⟨b1, o2, rfl⟩ := hv0
  obtain ⟨v1, vs1, rfl, hv1, ht1⟩ := TyAL_cons ht0
  obtain ⟨x3, rfl⟩ := hv1
  obtain ⟨v2, vs2, rfl, hv2, ht2⟩ := TyAL_cons ht1
  obtain ⟨cs4, rfl, hv2c⟩ := hv2
  obtain ⟨w7, cs6, rfl, hw8, hc9⟩ := TyCL_cons hv2c
  obtain ⟨x5, rfl⟩ := hw8
  obtain ⟨w12, cs11, rfl, hw13, hc14⟩ := TyCL_cons hc9
  obtain ⟨x10, rfl⟩ := hw13
  obtain ⟨w17, cs16, rfl, hw18, hc19⟩ := TyCL_cons hc14
  obtain ⟨x15, rfl⟩ := hw18
  obtain ⟨w22, cs21, rfl, hw23, hc24⟩ := TyCL_cons hc19
  obtain ⟨x20, rfl⟩ := hw23
  obtain ⟨w27, cs26, rfl, hw28, hc29⟩ := TyCL_cons hc24
  obtain ⟨x25, rfl⟩ := hw28
  obtain rfl := TyCL_nil hc29
  obtain rfl := TyAL_nil ht2
  refine fn_ok' (E := E1) (N := 26) (g := 144) (F := Try.f144) (hint := d_cost_network_reduced.hint) (tbl := d_cost_network_reduced.tbl) (tblY := d_cost_network_reduced.tbl) (itK := d_cost_network_reduced.it) (L := d_cost_network_reduced.L) (body := d_cost_network_reduced.body) (by kernel_rfl) (by kernel_rfl) (by kernel_rfl) hH ?_ ?_ ?_ d_cost_network_reduced.L_ok k (by kernel_rfl) ((d_cost_network_reduced.r_den k b1 o2 x3 x5 x10 x15 x20 x25 h).trans hk)
  · intro k; exact noTbl_ok k
  · intro l' p' k; exact noTbl_ok k
  · intro k; exact noIt_ok k

/-! ### (*weirgate/cost.network).distances: function 113 -/
noncomputable def d_cost_network_distances.body : Code := match Try.f113.body with | some b => b | none => .skip
noncomputable def d_cost_network_distances.hint : Nat → Option (Nat × List Ck) := fun d => none
noncomputable def d_cost_network_distances.tbl {R : Type} : TblTy R := addF 140 [.cell .slc] d_slices_Repeat_int_int.v (addF 141 [] d_cost_heap_push.v (addF 142 [.cell (.int .i64), .cell (.int .i64)] d_cost_heap_pop.v (addF 143 [.fn 154 [.ptr, .ptr]] d_cost_network_ways.v (addF 144 [.cell (.int .i64)] d_cost_network_reduced.v (noTbl)))))
noncomputable def d_cost_network_distances.it {R : Type} : ItTy R := addI 154 [] d_cost_network_ways_1.v (noIt)
noncomputable def d_cost_network_distances.y1 (k : Nat) (b53 : Nat) (o54 : Nat) (b55 : Nat) (o56 : Nat) (b57 : Nat) (o58 : Nat) (b59 : Nat) (o60 : Nat) (b61 : Nat) (o62 : Nat) (l0 : Nat) (x64 : Int) (x69 : Int) (x74 : Int) (x79 : Int) (x84 : Bool) (h : Hp) : Option (Bool × Hp) := ckB (isL h l0) (lt (h.new (.row 0 [.int .i64 0, .int .i64 0, .int .i64 0, .int .i64 0, .bool false])) fun h90 => (wr h90 h.next 0 [.int .i64 x64, .int .i64 x69, .int .i64 x74, .int .i64 x79, .bool x84]).bind fun h91 => (begL h91 l0).bind fun h89 => (asI .i64 (rd h89 b59 o60)).bind fun x92 => ckB (Nat.ble (b59 + 1) h89.next) ((asP (rd h89 b53 o54)).bind fun p93 => ckB (Nat.ble (b53 + 1) h89.next) ((asI .i64 (rd h89 b61 o62)).bind fun x94 => ckB (Nat.ble (b61 + 1) h89.next) ((asI .i64 (rd h89 h.next 0)).bind fun x95 => (asI .i64 (rd h89 h.next (0 + 1))).bind fun x96 => (asI .i64 (rd h89 h.next (0 + 2))).bind fun x97 => (asI .i64 (rd h89 h.next (0 + 3))).bind fun x98 => (asB (rd h89 h.next (0 + 4))).bind fun x99 => ckB (Nat.ble (h.next + 1) h89.next) ((d_cost_network_reduced.r k p93.1 p93.2 x94 x95 x96 x97 x98 x99 h89).bind fun q100 => (asI .i64 (some q100.1)).bind fun x101 => ckE (q100.2.g b59) (h89.g b59) ((asS (rd q100.2 b55 o56)).bind fun s102 => (asI .i64 (rd q100.2 h.next (0 + 1))).bind fun x103 => (ixA s102.a s102.n 1 x103).bind fun p104 => (asI .i64 (rd q100.2 p104.1 p104.2)).bind fun x105 => bc (decide ((w64 (x92 + x101)) < x105)) ((asS (rd q100.2 b55 o56)).bind fun s106 => (asI .i64 (rd q100.2 h.next (0 + 1))).bind fun x107 => (ixA s106.a s106.n 1 x107).bind fun p108 => (wr q100.2 p108.1 p108.2 [.int .i64 (w64 (x92 + x101))]).bind fun h109 => (asP (rd h109 b57 o58)).bind fun p110 => (asI .i64 (rd h109 h.next (0 + 1))).bind fun x111 => (d_cost_heap_push.r k p110.1 p110.2 (w64 (x92 + x101)) x111 h109).bind fun q112 => (asTup 0 q112.1).bind fun _ => (finL q112.2 l0 none).bind fun h113 => some (true, h113)) ((finL q100.2 l0 none).bind fun h114 => some (true, h114))))))))
noncomputable def d_cost_network_distances.y1v (k : Nat) (vs : List Value) (l0 : Nat) (args : List Value) (h : Hp) : Option (Bool × Hp) := castAL [.agg [.int .i64, .int .i64, .int .i64, .int .i64, .bool]] args fun zs => match vs, zs with | [.pointer (some ⟨b53, o54, none⟩), .pointer (some ⟨b55, o56, none⟩), .pointer (some ⟨b57, o58, none⟩), .pointer (some ⟨b59, o60, none⟩), .pointer (some ⟨b61, o62, none⟩)], [.agg ⟨[.int .i64 x64, .int .i64 x69, .int .i64 x74, .int .i64 x79, .bool x84]⟩] => d_cost_network_distances.y1 k b53 o54 b55 o56 b57 o58 b59 o60 b61 o62 l0 x64 x69 x74 x79 x84 h | _, _ => none
noncomputable def d_cost_network_distances.b0 (k : Nat) (L0 : Nat → Nat → Nat → Nat → Nat → Nat → List Nat → Hp → Option (Value × Hp)) (b20 : Nat) (o21 : Nat) (b22 : Nat) (o23 : Nat) (b24 : Nat) (o25 : Nat) (mk : List Nat) (h : Hp) : Option (Value × Hp) := (asP (rd h b24 o25)).bind fun p26 => (asS (rd h p26.1 p26.2)).bind fun s27 => bc (decide (((s27.n : Nat) : Int) > 0)) ((asP (rd h b24 o25)).bind fun p28 => (d_cost_heap_pop.r k p28.1 p28.2 h).bind fun q29 => (asTup 2 q29.1).bind fun cs30 => (asI .i64 (nth cs30 0)).bind fun x31 => (asI .i64 (nth cs30 1)).bind fun x32 => lt (q29.2.new (.row 0 [.int .i64 0])) fun h33 => lt (h33.new (.row 0 [.int .i64 0])) fun h34 => (wr h34 q29.2.next 0 [.int .i64 x31]).bind fun h35 => (wr h35 h33.next 0 [.int .i64 x32]).bind fun h36 => (asI .i64 (rd h36 q29.2.next 0)).bind fun x37 => ckB (Nat.ble (q29.2.next + 1) h36.next) ((asS (rd h36 b22 o23)).bind fun s38 => ckB (Nat.ble (b22 + 1) h36.next) ((asI .i64 (rd h36 h33.next 0)).bind fun x39 => ckB (Nat.ble (h33.next + 1) h36.next) ((ixA s38.a s38.n 1 x39).bind fun p40 => (asI .i64 (rd h36 p40.1 p40.2)).bind fun x41 => ckB (Nat.ble (p40.1 + 1) h36.next) (bc (decide (x37 > x41)) (L0 b20 o21 b22 o23 b24 o25 mk h36) ((asP (rd h36 b20 o21)).bind fun p42 => (asI .i64 (rd h36 h33.next 0)).bind fun x43 => (d_cost_network_ways.r k p42.1 p42.2 x43 h36).bind fun q44 => (asF 154 2 (some q44.1)).bind fun cs45 => (asP (nth cs45 0)).bind fun p46 => (asP (nth cs45 1)).bind fun p47 => lt ((q44.2.new .defs).new (stub .ready none)) fun h48 => (d_cost_network_ways_1.r k (q44.2.next + 1) (fun za zh => d_cost_network_distances.y1v k [.pointer (some ⟨b20, o21, none⟩), .pointer (some ⟨b22, o23, none⟩), .pointer (some ⟨b24, o25, none⟩), .pointer (some ⟨q29.2.next, 0, none⟩), .pointer (some ⟨h33.next, 0, none⟩)] (q44.2.next + 1) za zh) (q44.2.next + 1) p46.1 p46.2 p47.1 p47.2 h48).bind fun q49 => (asTup 0 q49.1).bind fun _ => (endL q49.2 (q44.2.next + 1)).bind fun e50 => bc (isN e50.1) (L0 b20 o21 b22 o23 b24 o25 (q44.2.next :: mk) e50.2) (none))))))) ((asS (rd h b22 o23)).bind fun s51 => (takeM h mk).bind fun h52 => some (.slice s51.a s51.n s51.c, h52))
noncomputable def d_cost_network_distances.LL : Nat → (Nat → Nat → Nat → Nat → Nat → Nat → List Nat → Hp → Option (Value × Hp))
  | 0 => fun _ _ _ _ _ _ _ _ => none
  | k + 1 => d_cost_network_distances.b0 k (d_cost_network_distances.LL k)
noncomputable def d_cost_network_distances.l0 (k : Nat) : Nat → Nat → Nat → Nat → Nat → Nat → List Nat → Hp → Option (Value × Hp) := (d_cost_network_distances.LL k)
theorem d_cost_network_distances.l0_succ (k : Nat) : d_cost_network_distances.l0 (k + 1) = d_cost_network_distances.b0 k (d_cost_network_distances.l0 k) := rfl
noncomputable def d_cost_network_distances.l0v (k : Nat) (vs : List Value) (mk : List Nat) (h : Hp) : Option (Value × Hp) := match vs with | [.pointer (some ⟨b20, o21, none⟩), .pointer (some ⟨b22, o23, none⟩), .pointer (some ⟨b24, o25, none⟩)] => d_cost_network_distances.l0 k b20 o21 b22 o23 b24 o25 mk h | _ => none
noncomputable def d_cost_network_distances.L : List LEnt := [.lp [(2, .cell .ptr), (5, .cell .ptr), (6, .cell .ptr)] (d_cost_network_distances.l0v), .yo [(2, .cell .ptr), (5, .cell .ptr), (6, .cell .ptr), (7, .cell .ptr), (8, .cell .ptr)] (d_cost_network_distances.y1v)]
noncomputable def d_cost_network_distances.r (k : Nat) (b1 : Nat) (o2 : Nat) (x3 : Int) (h : Hp) : Option (Value × Hp) := lt (h.new (.row 0 [.pointer (some ⟨b1, o2, none⟩)])) fun h4 => lt (h4.new (.row 1 [.int .i64 4611686018427387904])) fun h5 => (asP (rd h5 h.next 0)).bind fun p6 => (asI .i64 (rd h5 p6.1 p6.2)).bind fun x7 => (d_slices_Repeat_int_int.r k (some ⟨h4.next, 0, none⟩) 1 1 x7 h5).bind fun q8 => (asS0 (some q8.1)).bind fun s9 => lt (q8.2.new (.row 0 [.slice none 0 0])) fun h10 => (wr h10 q8.2.next 0 [.slice s9.a s9.n s9.c]).bind fun h11 => (asS (rd h11 q8.2.next 0)).bind fun s12 => (ixA s12.a s12.n 1 x3).bind fun p13 => (wr h11 p13.1 p13.2 [.int .i64 0]).bind fun h14 => lt (h14.new (.row 0 [.slice none 0 0, .slice none 0 0])) fun h15 => lt (h15.new (.row 0 [.pointer none])) fun h16 => (wr h16 h15.next 0 [.pointer (some ⟨h14.next, 0, none⟩)]).bind fun h17 => (asP (rd h17 h15.next 0)).bind fun p18 => (d_cost_heap_push.r k p18.1 p18.2 0 x3 h17).bind fun q19 => (asTup 0 q19.1).bind fun _ => d_cost_network_distances.l0 k h.next 0 q8.2.next 0 h15.next 0 [] q19.2
noncomputable def d_cost_network_distances.v (k : Nat) (args : List Value) (h : Hp) : Option (Value × Hp) := castAL [.cell .ptr, .cell (.int .i64)] args fun vs => match vs with | [.pointer (some ⟨b1, o2, none⟩), .int .i64 x3] => d_cost_network_distances.r k b1 o2 x3 h | _ => none
theorem d_cost_network_distances.l0_den (k : Nat) (b20 : Nat) (o21 : Nat) (b22 : Nat) (o23 : Nat) (b24 : Nat) (o25 : Nat) (mk : List Nat) (h : Hp) (G : Tr Value) : loopF' ((ctx E1 71 d_cost_network_distances.hint (d_cost_network_distances.tbl) d_cost_network_distances.it (LPof (d_cost_network_distances.L)) (YOof (d_cost_network_distances.L))) k) Try.f113 pairK 0 ⟨[(2, .pointer (some ⟨b20, o21, none⟩)), (5, .pointer (some ⟨b22, o23, none⟩)), (6, .pointer (some ⟨b24, o25, none⟩))], G, mk⟩ h = d_cost_network_distances.l0 (k + 1) b20 o21 b22 o23 b24 o25 mk h := by kernel_rfl
theorem d_cost_network_distances.y1_den (k : Nat) (b53 : Nat) (o54 : Nat) (b55 : Nat) (o56 : Nat) (b57 : Nat) (o58 : Nat) (b59 : Nat) (o60 : Nat) (b61 : Nat) (o62 : Nat) (l0 : Nat) (x64 : Int) (x69 : Int) (x74 : Int) (x79 : Int) (x84 : Bool) (h : Hp) (G : Tr Value) (mk : List Nat) : denYAt ((ctxY E1 71 d_cost_network_distances.hint (d_cost_network_distances.tbl)) k) (todoC d_cost_network_distances.body []) 1 ⟨[(2, .pointer (some ⟨b53, o54, none⟩)), (5, .pointer (some ⟨b55, o56, none⟩)), (6, .pointer (some ⟨b57, o58, none⟩)), (7, .pointer (some ⟨b59, o60, none⟩)), (8, .pointer (some ⟨b61, o62, none⟩))], G, mk⟩ l0 [.agg #[.int .i64 x64, .int .i64 x69, .int .i64 x74, .int .i64 x79, .bool x84]] h = d_cost_network_distances.y1 k b53 o54 b55 o56 b57 o58 b59 o60 b61 o62 l0 x64 x69 x74 x79 x84 h := by kernel_rfl
theorem d_cost_network_distances.r_den (k : Nat) (b1 : Nat) (o2 : Nat) (x3 : Int) (h : Hp) : denF ((ctx E1 71 d_cost_network_distances.hint (d_cost_network_distances.tbl) d_cost_network_distances.it (LPof (d_cost_network_distances.L)) (YOof (d_cost_network_distances.L))) k) Try.f113 [.pointer (some ⟨b1, o2, none⟩), .int .i64 x3] h pairK = d_cost_network_distances.r k b1 o2 x3 h := by kernel_rfl
theorem d_cost_network_distances.L_ok : ∀ i x, (d_cost_network_distances.L)[i]? = some x → LOK (ctx E1 71 d_cost_network_distances.hint (d_cost_network_distances.tbl) d_cost_network_distances.it (LPof (d_cost_network_distances.L)) (YOof (d_cost_network_distances.L))) (ctxY E1 71 d_cost_network_distances.hint (d_cost_network_distances.tbl)) Try.f113 (todoC d_cost_network_distances.body []) i x := by
  refine LOK_cons (P := fun i x => LOK (ctx E1 71 d_cost_network_distances.hint (d_cost_network_distances.tbl) d_cost_network_distances.it (LPof (d_cost_network_distances.L)) (YOof (d_cost_network_distances.L))) (ctxY E1 71 d_cost_network_distances.hint (d_cost_network_distances.tbl)) Try.f113 (todoC d_cost_network_distances.body []) (i) x) ?_ ?_
  · refine ⟨by kernel_rfl, fun vs mk h ht => ?_, fun k vs mk h r ht hk G => ?_⟩
    · obtain ⟨v0, vs0, rfl, hv0, ht0⟩ := TySL_cons ht
      obtain ⟨b20, o21, rfl⟩ := hv0
      obtain ⟨v1, vs1, rfl, hv1, ht1⟩ := TySL_cons ht0
      obtain ⟨b22, o23, rfl⟩ := hv1
      obtain ⟨v2, vs2, rfl, hv2, ht2⟩ := TySL_cons ht1
      obtain ⟨b24, o25, rfl⟩ := hv2
      obtain rfl := TySL_nil ht2
      rfl
    · obtain ⟨v0, vs0, rfl, hv0, ht0⟩ := TySL_cons ht
      obtain ⟨b20, o21, rfl⟩ := hv0
      obtain ⟨v1, vs1, rfl, hv1, ht1⟩ := TySL_cons ht0
      obtain ⟨b22, o23, rfl⟩ := hv1
      obtain ⟨v2, vs2, rfl, hv2, ht2⟩ := TySL_cons ht1
      obtain ⟨b24, o25, rfl⟩ := hv2
      obtain rfl := TySL_nil ht2
      exact (d_cost_network_distances.l0_den k b20 o21 b22 o23 b24 o25 mk h G).trans hk
  refine LOK_cons (P := fun i x => LOK (ctx E1 71 d_cost_network_distances.hint (d_cost_network_distances.tbl) d_cost_network_distances.it (LPof (d_cost_network_distances.L)) (YOof (d_cost_network_distances.L))) (ctxY E1 71 d_cost_network_distances.hint (d_cost_network_distances.tbl)) Try.f113 (todoC d_cost_network_distances.body []) (i + 1) x) ?_ ?_
  · refine ⟨by kernel_rfl, by kernel_rfl, fun k vs l0 args h r ht hk G mk => ?_⟩
    · obtain ⟨ta, hk⟩ := castAL_ok hk
      obtain ⟨v0, vs0, rfl, hv0, ht0⟩ := TySL_cons ht
      obtain ⟨b53, o54, rfl⟩ := hv0
      obtain ⟨v1, vs1, rfl, hv1, ht1⟩ := TySL_cons ht0
      obtain ⟨b55, o56, rfl⟩ := hv1
      obtain ⟨v2, vs2, rfl, hv2, ht2⟩ := TySL_cons ht1
      obtain ⟨b57, o58, rfl⟩ := hv2
      obtain ⟨v3, vs3, rfl, hv3, ht3⟩ := TySL_cons ht2
      obtain ⟨b59, o60, rfl⟩ := hv3
      obtain ⟨v4, vs4, rfl, hv4, ht4⟩ := TySL_cons ht3
      obtain ⟨b61, o62, rfl⟩ := hv4
      obtain rfl := TySL_nil ht4
      obtain ⟨u0, us0, rfl, ha0, ta0⟩ := TyAL_cons ta
      obtain ⟨cs63, rfl, ha0c⟩ := ha0
      obtain ⟨w66, cs65, rfl, hw67, hc68⟩ := TyCL_cons ha0c
      obtain ⟨x64, rfl⟩ := hw67
      obtain ⟨w71, cs70, rfl, hw72, hc73⟩ := TyCL_cons hc68
      obtain ⟨x69, rfl⟩ := hw72
      obtain ⟨w76, cs75, rfl, hw77, hc78⟩ := TyCL_cons hc73
      obtain ⟨x74, rfl⟩ := hw77
      obtain ⟨w81, cs80, rfl, hw82, hc83⟩ := TyCL_cons hc78
      obtain ⟨x79, rfl⟩ := hw82
      obtain ⟨w86, cs85, rfl, hw87, hc88⟩ := TyCL_cons hc83
      obtain ⟨x84, rfl⟩ := hw87
      obtain rfl := TyCL_nil hc88
      obtain rfl := TyAL_nil ta0
      exact (d_cost_network_distances.y1_den k b53 o54 b55 o56 b57 o58 b59 o60 b61 o62 l0 x64 x69 x74 x79 x84 h G mk).trans hk
  exact LOK_nil
theorem d_cost_network_distances.snd {H : Pl → Prop} (hH : MonoH H) (k : Nat) : SndF E1 H 113 (d_cost_network_distances.v k) := by
  intro args h v h1 hk
  obtain ⟨ht, hk⟩ := castAL_ok hk
  obtain ⟨v0, vs0, rfl, hv0, ht0⟩ := TyAL_cons ht
  obtain ⟨b1, o2, rfl⟩ := hv0
  obtain ⟨v1, vs1, rfl, hv1, ht1⟩ := TyAL_cons ht0
  obtain ⟨x3, rfl⟩ := hv1
  obtain rfl := TyAL_nil ht1
  refine fn_ok' (E := E1) (N := 71) (g := 113) (F := Try.f113) (hint := d_cost_network_distances.hint) (tbl := d_cost_network_distances.tbl) (tblY := d_cost_network_distances.tbl) (itK := d_cost_network_distances.it) (L := d_cost_network_distances.L) (body := d_cost_network_distances.body) (by kernel_rfl) (by kernel_rfl) (by kernel_rfl) hH ?_ ?_ ?_ d_cost_network_distances.L_ok k (by kernel_rfl) ((d_cost_network_distances.r_den k b1 o2 x3 h).trans hk)
  · intro k; exact addF_ok (d_slices_Repeat_int_int.snd hH k) (addF_ok (d_cost_heap_push.snd hH k) (addF_ok (d_cost_heap_pop.snd hH k) (addF_ok (d_cost_network_ways.snd hH k) (addF_ok (d_cost_network_reduced.snd hH k) (noTbl_ok k)))))
  · intro l' p' k; exact addF_ok (d_slices_Repeat_int_int.snd (hH.pay _ _) k) (addF_ok (d_cost_heap_push.snd (hH.pay _ _) k) (addF_ok (d_cost_heap_pop.snd (hH.pay _ _) k) (addF_ok (d_cost_network_ways.snd (hH.pay _ _) k) (addF_ok (d_cost_network_reduced.snd (hH.pay _ _) k) (noTbl_ok k)))))
  · intro k; exact addI_ok hH (d_cost_network_ways_1.sndI k) (noIt_ok k)

/-! ### weirgate/cost.Next: function 67 -/
noncomputable def d_cost_Next.body : Code := match Try.f67.body with | some b => b | none => .skip
noncomputable def d_cost_Next.hint : Nat → Option (Nat × List Ck) := fun d => none
noncomputable def d_cost_Next.tbl {R : Type} : TblTy R := addF 112 [.cell .ptr] d_cost_begin.v (addF 113 [.cell .slc] d_cost_network_distances.v (noTbl))
noncomputable def d_cost_Next.it {R : Type} : ItTy R := noIt
noncomputable def d_cost_Next.L : List LEnt := []
noncomputable def d_cost_Next.r (k : Nat) (x2 : Int) (a7 : Option Addr) (n8 : Nat) (c9 : Nat) (x14 : Int) (x15 : Int) (x17 : Int) (x22 : Int) (a27 : Option Addr) (n28 : Nat) (c29 : Nat) (a34 : Option Addr) (n35 : Nat) (c36 : Nat) (a41 : Option Addr) (n42 : Nat) (c43 : Nat) (h : Hp) : Option (Value × Hp) := lt (h.new (.row 0 [.int .i64 x2, .slice a7 n8 c9])) fun h48 => lt (h48.new (.row 0 [.int .i64 x17, .int .i64 x22, .slice a27 n28 c29, .slice a34 n35 c36, .slice a41 n42 c43])) fun h49 => (asI .i64 (rd h49 h.next 0)).bind fun x50 => (asS (rd h49 h.next (0 + 1))).bind fun s51 => (asS (rd h49 h48.next (0 + 2))).bind fun s52 => (d_cost_begin.r k x50 s51.a s51.n s51.c s52.a s52.n s52.c h49).bind fun q53 => (asP (some q53.1)).bind fun p54 => (asS (rd q53.2 p54.1 (p54.2 + 4))).bind fun s55 => ckB (Nat.ble (p54.1 + 1) q53.2.next) ((asS (rd q53.2 h48.next (0 + 3))).bind fun s56 => ckB (Nat.ble (h48.next + 1) q53.2.next) ((copyS q53.2 1 s55.a s55.n s56.a s56.n).bind fun q57 => (d_cost_network_distances.r k p54.1 p54.2 x14 q57.2).bind fun q58 => (asS0 (some q58.1)).bind fun s59 => (ixA s59.a s59.n 1 x15).bind fun p60 => (asI .i64 (rd q58.2 p60.1 p60.2)).bind fun x61 => bc (x61 == 4611686018427387904) (some (.tuple #[.int .i64 0, .bool false], q58.2)) ((ixA s59.a s59.n 1 x15).bind fun p62 => (asI .i64 (rd q58.2 p62.1 p62.2)).bind fun x63 => ckB (Nat.ble (p62.1 + 1) q58.2.next) ((asS (rd q58.2 p54.1 (p54.2 + 4))).bind fun s64 => ckB (Nat.ble (p54.1 + 1) q58.2.next) ((ixA s64.a s64.n 1 x15).bind fun p65 => (asI .i64 (rd q58.2 p65.1 p65.2)).bind fun x66 => ckB (Nat.ble (p65.1 + 1) q58.2.next) (some (.tuple #[.int .i64 (w64 (x63 + x66)), .bool true], q58.2)))))))
noncomputable def d_cost_Next.v (k : Nat) (args : List Value) (h : Hp) : Option (Value × Hp) := castAL [.agg [.int .i64, .slc], .cell (.int .i64), .cell (.int .i64), .agg [.int .i64, .int .i64, .slc, .slc, .slc]] args fun vs => match vs with | [.agg ⟨[.int .i64 x2, .slice a7 n8 c9]⟩, .int .i64 x14, .int .i64 x15, .agg ⟨[.int .i64 x17, .int .i64 x22, .slice a27 n28 c29, .slice a34 n35 c36, .slice a41 n42 c43]⟩] => d_cost_Next.r k x2 a7 n8 c9 x14 x15 x17 x22 a27 n28 c29 a34 n35 c36 a41 n42 c43 h | _ => none
theorem d_cost_Next.r_den (k : Nat) (x2 : Int) (a7 : Option Addr) (n8 : Nat) (c9 : Nat) (x14 : Int) (x15 : Int) (x17 : Int) (x22 : Int) (a27 : Option Addr) (n28 : Nat) (c29 : Nat) (a34 : Option Addr) (n35 : Nat) (c36 : Nat) (a41 : Option Addr) (n42 : Nat) (c43 : Nat) (h : Hp) : denF ((ctx E1 43 d_cost_Next.hint (d_cost_Next.tbl) d_cost_Next.it (LPof (d_cost_Next.L)) (YOof (d_cost_Next.L))) k) Try.f67 [.agg #[.int .i64 x2, .slice a7 n8 c9], .int .i64 x14, .int .i64 x15, .agg #[.int .i64 x17, .int .i64 x22, .slice a27 n28 c29, .slice a34 n35 c36, .slice a41 n42 c43]] h pairK = d_cost_Next.r k x2 a7 n8 c9 x14 x15 x17 x22 a27 n28 c29 a34 n35 c36 a41 n42 c43 h := by kernel_rfl
theorem d_cost_Next.L_ok : ∀ i x, (d_cost_Next.L)[i]? = some x → LOK (ctx E1 43 d_cost_Next.hint (d_cost_Next.tbl) d_cost_Next.it (LPof (d_cost_Next.L)) (YOof (d_cost_Next.L))) (ctxY E1 43 d_cost_Next.hint (d_cost_Next.tbl)) Try.f67 (todoC d_cost_Next.body []) i x := by
  exact LOK_nil
theorem d_cost_Next.snd {H : Pl → Prop} (hH : MonoH H) (k : Nat) : SndF E1 H 67 (d_cost_Next.v k) := by
  intro args h v h1 hk
  obtain ⟨ht, hk⟩ := castAL_ok hk
  obtain ⟨v0, vs0, rfl, hv0, ht0⟩ := TyAL_cons ht
  obtain ⟨cs1, rfl, hv0c⟩ := hv0
  obtain ⟨w4, cs3, rfl, hw5, hc6⟩ := TyCL_cons hv0c
  obtain ⟨x2, rfl⟩ := hw5
  obtain ⟨w11, cs10, rfl, hw12, hc13⟩ := TyCL_cons hc6
  obtain ⟨a7, n8, c9, rfl⟩ := hw12
  obtain rfl := TyCL_nil hc13
  obtain ⟨v1, vs1, rfl, hv1, ht1⟩ := TyAL_cons ht0
  obtain ⟨x14, rfl⟩ := hv1
  obtain ⟨v2, vs2, rfl, hv2, ht2⟩ := TyAL_cons ht1
  obtain ⟨x15, rfl⟩ := hv2
  obtain ⟨v3, vs3, rfl, hv3, ht3⟩ := TyAL_cons ht2
  obtain ⟨cs16, rfl, hv3c⟩ := hv3
  obtain ⟨w19, cs18, rfl, hw20, hc21⟩ := TyCL_cons hv3c
  obtain ⟨x17, rfl⟩ := hw20
  obtain ⟨w24, cs23, rfl, hw25, hc26⟩ := TyCL_cons hc21
  obtain ⟨x22, rfl⟩ := hw25
  obtain ⟨w31, cs30, rfl, hw32, hc33⟩ := TyCL_cons hc26
  obtain ⟨a27, n28, c29, rfl⟩ := hw32
  obtain ⟨w38, cs37, rfl, hw39, hc40⟩ := TyCL_cons hc33
  obtain ⟨a34, n35, c36, rfl⟩ := hw39
  obtain ⟨w45, cs44, rfl, hw46, hc47⟩ := TyCL_cons hc40
  obtain ⟨a41, n42, c43, rfl⟩ := hw46
  obtain rfl := TyCL_nil hc47
  obtain rfl := TyAL_nil ht3
  refine fn_ok' (E := E1) (N := 43) (g := 67) (F := Try.f67) (hint := d_cost_Next.hint) (tbl := d_cost_Next.tbl) (tblY := d_cost_Next.tbl) (itK := d_cost_Next.it) (L := d_cost_Next.L) (body := d_cost_Next.body) (by kernel_rfl) (by kernel_rfl) (by kernel_rfl) hH ?_ ?_ ?_ d_cost_Next.L_ok k (by kernel_rfl) ((d_cost_Next.r_den k x2 a7 n8 c9 x14 x15 x17 x22 a27 n28 c29 a34 n35 c36 a41 n42 c43 h).trans hk)
  · intro k; exact addF_ok (d_cost_begin.snd hH k) (addF_ok (d_cost_network_distances.snd hH k) (noTbl_ok k))
  · intro l' p' k; exact addF_ok (d_cost_begin.snd (hH.pay _ _) k) (addF_ok (d_cost_network_distances.snd (hH.pay _ _) k) (noTbl_ok k))
  · intro k; exact noIt_ok k

/-! ### weirgate/weirgateref11.Node: function 109 -/
noncomputable def d_ref11_Node.body : Code := match Try.f109.body with | some b => b | none => .skip
noncomputable def d_ref11_Node.hint : Nat → Option (Nat × List Ck) := fun d => none
noncomputable def d_ref11_Node.tbl {R : Type} : TblTy R := noTbl
noncomputable def d_ref11_Node.it {R : Type} : ItTy R := noIt
noncomputable def d_ref11_Node.L : List LEnt := []
noncomputable def d_ref11_Node.r (k : Nat) (x2 : Int) (a7 : Option Addr) (n8 : Nat) (c9 : Nat) (x14 : Int) (h : Hp) : Option (Value × Hp) := lt (h.new (.row 0 [.int .i64 x2, .slice a7 n8 c9])) fun h15 => bc (decide (x14 ≥ 0)) ((asI .i64 (rd h15 h.next 0)).bind fun x16 => some (.bool (decide (x14 < x16)), h15)) (some (.bool false, h15))
noncomputable def d_ref11_Node.v (k : Nat) (args : List Value) (h : Hp) : Option (Value × Hp) := castAL [.agg [.int .i64, .slc], .cell (.int .i64)] args fun vs => match vs with | [.agg ⟨[.int .i64 x2, .slice a7 n8 c9]⟩, .int .i64 x14] => d_ref11_Node.r k x2 a7 n8 c9 x14 h | _ => none
theorem d_ref11_Node.r_den (k : Nat) (x2 : Int) (a7 : Option Addr) (n8 : Nat) (c9 : Nat) (x14 : Int) (h : Hp) : denF ((ctx E1 13 d_ref11_Node.hint (d_ref11_Node.tbl) d_ref11_Node.it (LPof (d_ref11_Node.L)) (YOof (d_ref11_Node.L))) k) Try.f109 [.agg #[.int .i64 x2, .slice a7 n8 c9], .int .i64 x14] h pairK = d_ref11_Node.r k x2 a7 n8 c9 x14 h := by kernel_rfl
theorem d_ref11_Node.L_ok : ∀ i x, (d_ref11_Node.L)[i]? = some x → LOK (ctx E1 13 d_ref11_Node.hint (d_ref11_Node.tbl) d_ref11_Node.it (LPof (d_ref11_Node.L)) (YOof (d_ref11_Node.L))) (ctxY E1 13 d_ref11_Node.hint (d_ref11_Node.tbl)) Try.f109 (todoC d_ref11_Node.body []) i x := by
  exact LOK_nil
theorem d_ref11_Node.snd {H : Pl → Prop} (hH : MonoH H) (k : Nat) : SndF E1 H 109 (d_ref11_Node.v k) := by
  intro args h v h1 hk
  obtain ⟨ht, hk⟩ := castAL_ok hk
  obtain ⟨v0, vs0, rfl, hv0, ht0⟩ := TyAL_cons ht
  obtain ⟨cs1, rfl, hv0c⟩ := hv0
  obtain ⟨w4, cs3, rfl, hw5, hc6⟩ := TyCL_cons hv0c
  obtain ⟨x2, rfl⟩ := hw5
  obtain ⟨w11, cs10, rfl, hw12, hc13⟩ := TyCL_cons hc6
  obtain ⟨a7, n8, c9, rfl⟩ := hw12
  obtain rfl := TyCL_nil hc13
  obtain ⟨v1, vs1, rfl, hv1, ht1⟩ := TyAL_cons ht0
  obtain ⟨x14, rfl⟩ := hv1
  obtain rfl := TyAL_nil ht1
  refine fn_ok' (E := E1) (N := 13) (g := 109) (F := Try.f109) (hint := d_ref11_Node.hint) (tbl := d_ref11_Node.tbl) (tblY := d_ref11_Node.tbl) (itK := d_ref11_Node.it) (L := d_ref11_Node.L) (body := d_ref11_Node.body) (by kernel_rfl) (by kernel_rfl) (by kernel_rfl) hH ?_ ?_ ?_ d_ref11_Node.L_ok k (by kernel_rfl) ((d_ref11_Node.r_den k x2 a7 n8 c9 x14 h).trans hk)
  · intro k; exact noTbl_ok k
  · intro l' p' k; exact noTbl_ok k
  · intro k; exact noIt_ok k
end Go.Proofs.Ytgikimegikelkaa.Dn
