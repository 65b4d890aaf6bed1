/- Functions of the program, told over a heap, with their proofs against the machine of lists and tries (printed by dprint.py). -/
import Derived.Test.YtgikimegikelkaaAbE
import Derived.Test.YtgikimegikelkaaAbDen8
import Derived.Test.YtgikimegikelkaaDn3
namespace Go.Proofs.Ytgikimegikelkaa.Dn
open Go Go.Proofs.Ytgikimegikelkaa.Ab Go.Proofs.Ytgikimegikelkaa.AbT Go.Proofs
set_option linter.unusedVariables false
set_option linter.unusedSimpArgs false
set_option maxRecDepth 100000
/-! ### weirgate/cost.Send: function 56 -/
noncomputable def d_cost_Send.body : Code := match Try.f56.body with | some b => b | none => .skip
noncomputable def d_cost_Send.hint : Nat → Option (Nat × List Ck) := fun d => none
noncomputable def d_cost_Send.tbl {R : Type} : TblTy R := addF 54 [.cell (.int .i64)] d_cost_Check.v (addF 111 [.cell .bool] d_cost_task.v (addF 112 [.cell .ptr] d_cost_begin.v (addF 113 [.cell .slc] d_cost_network_distances.v (addF 114 [.agg [.int .i64, .int .i64, .slc, .slc, .slc]] d_cost_network_freight.v (addF 115 [.cell (.int .i64)] d_cost_network_fill.v (noTbl))))))
noncomputable def d_cost_Send.it {R : Type} : ItTy R := noIt
noncomputable def d_cost_Send.b0 (k : Nat) (L0 : Int → Int → Int → Nat → Nat → Nat → Nat → Int → List Nat → Hp → Option (Value × Hp)) (L1 : Int → Int → Int → Nat → Nat → Nat → Nat → Int → Option Addr → Nat → Nat → Int → Int → List Nat → Hp → Option (Value × Hp)) (L2 : Int → Int → Int → Nat → Nat → Nat → Nat → Int → Int → List Nat → Hp → Option (Value × Hp)) (x46 : Int) (x47 : Int) (x48 : Int) (b49 : Nat) (o50 : Nat) (b51 : Nat) (o52 : Nat) (x53 : Int) (mk : List Nat) (h : Hp) : Option (Value × Hp) := bc (decide (x53 < x48)) ((d_cost_network_distances.r k b51 o52 x46 h).bind fun q54 => (asS0 (some q54.1)).bind fun s55 => (ixA s55.a s55.n 1 x47).bind fun p56 => (asI .i64 (rd q54.2 p56.1 p56.2)).bind fun x57 => bc (x57 == 4611686018427387904) ((d_cost_network_freight.r k b51 o52 x53 s55.a s55.n s55.c q54.2).bind fun q58 => (asA 5 (some q58.1)).bind fun cs59 => (asI .i64 (nth cs59 0)).bind fun x60 => (asI .i64 (nth cs59 1)).bind fun x61 => (asS0 (nth cs59 2)).bind fun s62 => (asS0 (nth cs59 3)).bind fun s63 => (asS0 (nth cs59 4)).bind fun s64 => (wr q58.2 b49 o50 [.int .i64 x60, .int .i64 x61, .slice s62.a s62.n s62.c, .slice s63.a s63.n s63.c, .slice s64.a s64.n s64.c]).bind fun h65 => (takeM h65 mk).bind fun h66 => (asI .i64 (rd h66 b49 o50)).bind fun x67 => (asI .i64 (rd h66 b49 (o50 + 1))).bind fun x68 => (asS (rd h66 b49 (o50 + 2))).bind fun s69 => (asS (rd h66 b49 (o50 + 3))).bind fun s70 => (asS (rd h66 b49 (o50 + 4))).bind fun s71 => some (.tuple #[.agg #[.int .i64 x67, .int .i64 x68, .slice s69.a s69.n s69.c, .slice s70.a s70.n s70.c, .slice s71.a s71.n s71.c], .int .i64 0], h66)) ((asS (rd q54.2 b51 (o52 + 4))).bind fun s72 => L1 x46 x47 x48 b49 o50 b51 o52 x53 s55.a s55.n s55.c ((s72.n : Nat) : Int) 0 mk q54.2)) ((d_cost_network_freight.r k b51 o52 x53 none 0 0 h).bind fun q73 => (asA 5 (some q73.1)).bind fun cs74 => (asI .i64 (nth cs74 0)).bind fun x75 => (asI .i64 (nth cs74 1)).bind fun x76 => (asS0 (nth cs74 2)).bind fun s77 => (asS0 (nth cs74 3)).bind fun s78 => (asS0 (nth cs74 4)).bind fun s79 => (wr q73.2 b49 o50 [.int .i64 x75, .int .i64 x76, .slice s77.a s77.n s77.c, .slice s78.a s78.n s78.c, .slice s79.a s79.n s79.c]).bind fun h80 => (takeM h80 mk).bind fun h81 => (asI .i64 (rd h81 b49 o50)).bind fun x82 => (asI .i64 (rd h81 b49 (o50 + 1))).bind fun x83 => (asS (rd h81 b49 (o50 + 2))).bind fun s84 => (asS (rd h81 b49 (o50 + 3))).bind fun s85 => (asS (rd h81 b49 (o50 + 4))).bind fun s86 => some (.tuple #[.agg #[.int .i64 x82, .int .i64 x83, .slice s84.a s84.n s84.c, .slice s85.a s85.n s85.c, .slice s86.a s86.n s86.c], .int .i64 0], h81))
noncomputable def d_cost_Send.b1 (k : Nat) (L0 : Int → Int → Int → Nat → Nat → Nat → Nat → Int → List Nat → Hp → Option (Value × Hp)) (L1 : Int → Int → Int → Nat → Nat → Nat → Nat → Int → Option Addr → Nat → Nat → Int → Int → List Nat → Hp → Option (Value × Hp)) (L2 : Int → Int → Int → Nat → Nat → Nat → Nat → Int → Int → List Nat → Hp → Option (Value × Hp)) (x87 : Int) (x88 : Int) (x89 : Int) (b90 : Nat) (o91 : Nat) (b92 : Nat) (o93 : Nat) (x94 : Int) (a95 : Option Addr) (n96 : Nat) (c97 : Nat) (x98 : Int) (x99 : Int) (mk : List Nat) (h : Hp) : Option (Value × Hp) := bc (decide (x99 < x98)) ((asS (rd h b92 (o93 + 4))).bind fun s100 => ckB (Nat.ble (b92 + 1) h.next) ((ixA s100.a s100.n 1 x99).bind fun p101 => (asI .i64 (rd h p101.1 p101.2)).bind fun x102 => ckB (Nat.ble (p101.1 + 1) h.next) ((ixA a95 n96 1 x99).bind fun p103 => (asI .i64 (rd h p103.1 p103.2)).bind fun x104 => ckB (Nat.ble (p103.1 + 1) h.next) ((ixA a95 n96 1 x88).bind fun p105 => (asI .i64 (rd h p105.1 p105.2)).bind fun x106 => ckB (Nat.ble (p105.1 + 1) h.next) ((ixA s100.a s100.n 1 x99).bind fun p107 => (wr h p107.1 p107.2 [.int .i64 (w64 (x102 + (mnI x104 x106)))]).bind fun h108 => L1 x87 x88 x89 b90 o91 b92 o93 x94 a95 n96 c97 x98 (w64 (x99 + 1)) mk h108))))) (L2 x87 x88 x89 b90 o91 b92 o93 x94 1 mk h)
noncomputable def d_cost_Send.b2 (k : Nat) (L0 : Int → Int → Int → Nat → Nat → Nat → Nat → Int → List Nat → Hp → Option (Value × Hp)) (L1 : Int → Int → Int → Nat → Nat → Nat → Nat → Int → Option Addr → Nat → Nat → Int → Int → List Nat → Hp → Option (Value × Hp)) (L2 : Int → Int → Int → Nat → Nat → Nat → Nat → Int → Int → List Nat → Hp → Option (Value × Hp)) (x109 : Int) (x110 : Int) (x111 : Int) (b112 : Nat) (o113 : Nat) (b114 : Nat) (o115 : Nat) (x116 : Int) (x117 : Int) (mk : List Nat) (h : Hp) : Option (Value × Hp) := bc (decide (x117 > 0)) (bc (decide (x116 < x111)) ((d_cost_network_fill.r k b114 o115 x109 x110 (w64 (x111 - x116)) h).bind fun q118 => (asI .i64 (some q118.1)).bind fun x119 => L2 x109 x110 x111 b112 o113 b114 o115 (w64 (x116 + x119)) x119 mk q118.2) (L0 x109 x110 x111 b112 o113 b114 o115 x116 mk h)) (L0 x109 x110 x111 b112 o113 b114 o115 x116 mk h)
noncomputable def d_cost_Send.LL : Nat → (Int → Int → Int → Nat → Nat → Nat → Nat → Int → List Nat → Hp → Option (Value × Hp)) × (Int → Int → Int → Nat → Nat → Nat → Nat → Int → Option Addr → Nat → Nat → Int → Int → List Nat → Hp → Option (Value × Hp)) × (Int → Int → Int → Nat → Nat → Nat → Nat → Int → Int → List Nat → Hp → Option (Value × Hp))
  | 0 => (fun _ _ _ _ _ _ _ _ _ _ => none, fun _ _ _ _ _ _ _ _ _ _ _ _ _ _ _ => none, fun _ _ _ _ _ _ _ _ _ _ _ => none)
  | k + 1 => (d_cost_Send.b0 k (d_cost_Send.LL k).1 (d_cost_Send.LL k).2.1 (d_cost_Send.LL k).2.2, d_cost_Send.b1 k (d_cost_Send.LL k).1 (d_cost_Send.LL k).2.1 (d_cost_Send.LL k).2.2, d_cost_Send.b2 k (d_cost_Send.LL k).1 (d_cost_Send.LL k).2.1 (d_cost_Send.LL k).2.2)
noncomputable def d_cost_Send.l0 (k : Nat) : Int → Int → Int → Nat → Nat → Nat → Nat → Int → List Nat → Hp → Option (Value × Hp) := (d_cost_Send.LL k).1
noncomputable def d_cost_Send.l1 (k : Nat) : Int → Int → Int → Nat → Nat → Nat → Nat → Int → Option Addr → Nat → Nat → Int → Int → List Nat → Hp → Option (Value × Hp) := (d_cost_Send.LL k).2.1
noncomputable def d_cost_Send.l2 (k : Nat) : Int → Int → Int → Nat → Nat → Nat → Nat → Int → Int → List Nat → Hp → Option (Value × Hp) := (d_cost_Send.LL k).2.2
theorem d_cost_Send.l0_succ (k : Nat) : d_cost_Send.l0 (k + 1) = d_cost_Send.b0 k (d_cost_Send.l0 k) (d_cost_Send.l1 k) (d_cost_Send.l2 k) := rfl
theorem d_cost_Send.l1_succ (k : Nat) : d_cost_Send.l1 (k + 1) = d_cost_Send.b1 k (d_cost_Send.l0 k) (d_cost_Send.l1 k) (d_cost_Send.l2 k) := rfl
theorem d_cost_Send.l2_succ (k : Nat) : d_cost_Send.l2 (k + 1) = d_cost_Send.b2 k (d_cost_Send.l0 k) (d_cost_Send.l1 k) (d_cost_Send.l2 k) := rfl
noncomputable def d_cost_Send.l0v (k : Nat) (vs : List Value) (mk : List Nat) (h : Hp) : Option (Value × Hp) := match vs with | [.int .i64 x46, .int .i64 x47, .int .i64 x48, .pointer (some ⟨b49, o50, none⟩), .pointer (some ⟨b51, o52, none⟩), .int .i64 x53] => d_cost_Send.l0 k x46 x47 x48 b49 o50 b51 o52 x53 mk h | _ => none
noncomputable def d_cost_Send.l1v (k : Nat) (vs : List Value) (mk : List Nat) (h : Hp) : Option (Value × Hp) := match vs with | [.int .i64 x87, .int .i64 x88, .int .i64 x89, .pointer (some ⟨b90, o91, none⟩), .pointer (some ⟨b92, o93, none⟩), .int .i64 x94, .slice a95 n96 c97, .int .i64 x98, .int .i64 x99] => d_cost_Send.l1 k x87 x88 x89 b90 o91 b92 o93 x94 a95 n96 c97 x98 x99 mk h | _ => none
noncomputable def d_cost_Send.l2v (k : Nat) (vs : List Value) (mk : List Nat) (h : Hp) : Option (Value × Hp) := match vs with | [.int .i64 x109, .int .i64 x110, .int .i64 x111, .pointer (some ⟨b112, o113, none⟩), .pointer (some ⟨b114, o115, none⟩), .int .i64 x116, .int .i64 x117] => d_cost_Send.l2 k x109 x110 x111 b112 o113 b114 o115 x116 x117 mk h | _ => none
noncomputable def d_cost_Send.L : List LEnt := [.lp [(1, .cell (.int .i64)), (2, .cell (.int .i64)), (3, .cell (.int .i64)), (8, .cell .ptr), (11, .cell .ptr), (12, .cell (.int .i64))] (d_cost_Send.l0v), .lp [(1, .cell (.int .i64)), (2, .cell (.int .i64)), (3, .cell (.int .i64)), (8, .cell .ptr), (11, .cell .ptr), (12, .cell (.int .i64)), (13, .cell .slc), (54, .cell (.int .i64)), (55, .cell (.int .i64))] (d_cost_Send.l1v), .lp [(1, .cell (.int .i64)), (2, .cell (.int .i64)), (3, .cell (.int .i64)), (8, .cell .ptr), (11, .cell .ptr), (12, .cell (.int .i64)), (15, .cell (.int .i64))] (d_cost_Send.l2v)]
noncomputable def d_cost_Send.r (k : Nat) (x2 : Int) (a7 : Option Addr) (n8 : Nat) (c9 : Nat) (x14 : Int) (x15 : Int) (x16 : Int) (h : Hp) : Option (Value × Hp) := lt (h.new (.row 0 [.int .i64 x2, .slice a7 n8 c9])) fun h17 => lt (h17.new (.row 0 [.int .i64 0, .int .i64 0, .slice none 0 0, .slice none 0 0, .slice none 0 0])) fun h18 => (asI .i64 (rd h18 h.next 0)).bind fun x19 => (asS (rd h18 h.next (0 + 1))).bind fun s20 => (d_cost_Check.r k x19 s20.a s20.n s20.c h18).bind fun q21 => (asI .i64 (some q21.1)).bind fun x22 => bc (!(x22 == 0)) ((wr q21.2 h17.next 0 [.int .i64 0, .int .i64 0, .slice none 0 0, .slice none 0 0, .slice none 0 0]).bind fun h23 => (asI .i64 (rd h23 h17.next 0)).bind fun x24 => (asI .i64 (rd h23 h17.next (0 + 1))).bind fun x25 => (asS (rd h23 h17.next (0 + 2))).bind fun s26 => (asS (rd h23 h17.next (0 + 3))).bind fun s27 => (asS (rd h23 h17.next (0 + 4))).bind fun s28 => some (.tuple #[.agg #[.int .i64 x24, .int .i64 x25, .slice s26.a s26.n s26.c, .slice s27.a s27.n s27.c, .slice s28.a s28.n s28.c], .int .i64 x22], h23)) ((asI .i64 (rd q21.2 h.next 0)).bind fun x29 => (asS (rd q21.2 h.next (0 + 1))).bind fun s30 => (d_cost_task.r k x29 s30.a s30.n s30.c x14 x15 x16 q21.2).bind fun q31 => (asB (some q31.1)).bind fun x32 => bc (!x32) ((wr q31.2 h17.next 0 [.int .i64 0, .int .i64 0, .slice none 0 0, .slice none 0 0, .slice none 0 0]).bind fun h33 => (asI .i64 (rd h33 h17.next 0)).bind fun x34 => (asI .i64 (rd h33 h17.next (0 + 1))).bind fun x35 => (asS (rd h33 h17.next (0 + 2))).bind fun s36 => (asS (rd h33 h17.next (0 + 3))).bind fun s37 => (asS (rd h33 h17.next (0 + 4))).bind fun s38 => some (.tuple #[.agg #[.int .i64 x34, .int .i64 x35, .slice s36.a s36.n s36.c, .slice s37.a s37.n s37.c, .slice s38.a s38.n s38.c], .int .i64 1], h33)) ((asI .i64 (rd q31.2 h.next 0)).bind fun x39 => (asS (rd q31.2 h.next (0 + 1))).bind fun s40 => ckB (Nat.ble (h.next + 1) q31.2.next) ((asS (rd q31.2 h.next (0 + 1))).bind fun s41 => ckB (Nat.ble (h.next + 1) q31.2.next) (ckB (decide (0 ≤ ((s41.n : Nat) : Int)) && decide (((s41.n : Nat) : Int) ≤ ((s41.n : Nat) : Int)) && decide (((s41.n : Nat) : Int) ≤ 1048576)) (lt q31.2.bump fun h42 => lt (h42.set q31.2.next (.row 1 (repl [.int .i64 0] (((s41.n : Nat) : Int) : Int).toNat))) fun h43 => (d_cost_begin.r k x39 s40.a s40.n s40.c (some ⟨q31.2.next, 0, none⟩) ((((s41.n : Nat) : Int) : Int).toNat) ((((s41.n : Nat) : Int) : Int).toNat) h43).bind fun q44 => (asP (some q44.1)).bind fun p45 => d_cost_Send.l0 k x14 x15 x16 h17.next 0 p45.1 p45.2 0 [] q44.2)))))
noncomputable def d_cost_Send.v (k : Nat) (args : List Value) (h : Hp) : Option (Value × Hp) := castAL [.agg [.int .i64, .slc], .cell (.int .i64), .cell (.int .i64), .cell (.int .i64)] args fun vs => match vs with | [.agg ⟨[.int .i64 x2, .slice a7 n8 c9]⟩, .int .i64 x14, .int .i64 x15, .int .i64 x16] => d_cost_Send.r k x2 a7 n8 c9 x14 x15 x16 h | _ => none
theorem d_cost_Send.l0_den (k : Nat) (x46 : Int) (x47 : Int) (x48 : Int) (b49 : Nat) (o50 : Nat) (b51 : Nat) (o52 : Nat) (x53 : Int) (mk : List Nat) (h : Hp) (G : Tr Value) : loopF' ((ctx E1 97 d_cost_Send.hint (d_cost_Send.tbl) d_cost_Send.it (LPof (d_cost_Send.L)) (YOof (d_cost_Send.L))) k) Try.f56 pairK 0 ⟨[(1, .int .i64 x46), (2, .int .i64 x47), (3, .int .i64 x48), (8, .pointer (some ⟨b49, o50, none⟩)), (11, .pointer (some ⟨b51, o52, none⟩)), (12, .int .i64 x53)], G, mk⟩ h = d_cost_Send.l0 (k + 1) x46 x47 x48 b49 o50 b51 o52 x53 mk h := by kernel_rfl
theorem d_cost_Send.l1_den (k : Nat) (x87 : Int) (x88 : Int) (x89 : Int) (b90 : Nat) (o91 : Nat) (b92 : Nat) (o93 : Nat) (x94 : Int) (a95 : Option Addr) (n96 : Nat) (c97 : Nat) (x98 : Int) (x99 : Int) (mk : List Nat) (h : Hp) (G : Tr Value) : loopF' ((ctx E1 97 d_cost_Send.hint (d_cost_Send.tbl) d_cost_Send.it (LPof (d_cost_Send.L)) (YOof (d_cost_Send.L))) k) Try.f56 pairK 1 ⟨[(1, .int .i64 x87), (2, .int .i64 x88), (3, .int .i64 x89), (8, .pointer (some ⟨b90, o91, none⟩)), (11, .pointer (some ⟨b92, o93, none⟩)), (12, .int .i64 x94), (13, .slice a95 n96 c97), (54, .int .i64 x98), (55, .int .i64 x99)], G, mk⟩ h = d_cost_Send.l1 (k + 1) x87 x88 x89 b90 o91 b92 o93 x94 a95 n96 c97 x98 x99 mk h := by kernel_rfl
theorem d_cost_Send.l2_den (k : Nat) (x109 : Int) (x110 : Int) (x111 : Int) (b112 : Nat) (o113 : Nat) (b114 : Nat) (o115 : Nat) (x116 : Int) (x117 : Int) (mk : List Nat) (h : Hp) (G : Tr Value) : loopF' ((ctx E1 97 d_cost_Send.hint (d_cost_Send.tbl) d_cost_Send.it (LPof (d_cost_Send.L)) (YOof (d_cost_Send.L))) k) Try.f56 pairK 2 ⟨[(1, .int .i64 x109), (2, .int .i64 x110), (3, .int .i64 x111), (8, .pointer (some ⟨b112, o113, none⟩)), (11, .pointer (some ⟨b114, o115, none⟩)), (12, .int .i64 x116), (15, .int .i64 x117)], G, mk⟩ h = d_cost_Send.l2 (k + 1) x109 x110 x111 b112 o113 b114 o115 x116 x117 mk h := by kernel_rfl
theorem d_cost_Send.r_den (k : Nat) (x2 : Int) (a7 : Option Addr) (n8 : Nat) (c9 : Nat) (x14 : Int) (x15 : Int) (x16 : Int) (h : Hp) : denF ((ctx E1 97 d_cost_Send.hint (d_cost_Send.tbl) d_cost_Send.it (LPof (d_cost_Send.L)) (YOof (d_cost_Send.L))) k) Try.f56 [.agg #[.int .i64 x2, .slice a7 n8 c9], .int .i64 x14, .int .i64 x15, .int .i64 x16] h pairK = d_cost_Send.r k x2 a7 n8 c9 x14 x15 x16 h := by kernel_rfl
theorem d_cost_Send.L_ok : ∀ i x, (d_cost_Send.L)[i]? = some x → LOK (ctx E1 97 d_cost_Send.hint (d_cost_Send.tbl) d_cost_Send.it (LPof (d_cost_Send.L)) (YOof (d_cost_Send.L))) (ctxY E1 97 d_cost_Send.hint (d_cost_Send.tbl)) Try.f56 (todoC d_cost_Send.body []) i x := by
  refine LOK_cons (P := fun i x => LOK (ctx E1 97 d_cost_Send.hint (d_cost_Send.tbl) d_cost_Send.it (LPof (d_cost_Send.L)) (YOof (d_cost_Send.L))) (ctxY E1 97 d_cost_Send.hint (d_cost_Send.tbl)) Try.f56 (todoC d_cost_Send.body []) (i) x) ?_ ?_
  · refine ⟨by kernel_rfl, fun vs mk h ht => ?_, fun k vs mk h r ht hk G => ?_⟩
    · obtain ⟨v0, vs0, rfl, hv0, ht0⟩ := TySL_cons ht
      obtain ⟨x46, rfl⟩ := hv0
      obtain ⟨v1, vs1, rfl, hv1, ht1⟩ := TySL_cons ht0
      obtain ⟨x47, rfl⟩ := hv1
      obtain ⟨v2, vs2, rfl, hv2, ht2⟩ := TySL_cons ht1
      obtain ⟨x48, rfl⟩ := hv2
      obtain ⟨v3, vs3, rfl, hv3, ht3⟩ := TySL_cons ht2
      obtain ⟨b49, o50, rfl⟩ := hv3
      obtain ⟨v4, vs4, rfl, hv4, ht4⟩ := TySL_cons ht3
      obtain ⟨b51, o52, rfl⟩ := hv4
      obtain ⟨v5, vs5, rfl, hv5, ht5⟩ := TySL_cons ht4
      obtain ⟨x53, rfl⟩ := hv5
      obtain rfl := TySL_nil ht5
      rfl
    · obtain ⟨v0, vs0, rfl, hv0, ht0⟩ := TySL_cons ht
      obtain ⟨x46, rfl⟩ := hv0
      obtain ⟨v1, vs1, rfl, hv1, ht1⟩ := TySL_cons ht0
      obtain ⟨x47, rfl⟩ := hv1
      obtain ⟨v2, vs2, rfl, hv2, ht2⟩ := TySL_cons ht1
      obtain ⟨x48, rfl⟩ := hv2
      obtain ⟨v3, vs3, rfl, hv3, ht3⟩ := TySL_cons ht2
      obtain ⟨b49, o50, rfl⟩ := hv3
      obtain ⟨v4, vs4, rfl, hv4, ht4⟩ := TySL_cons ht3
      obtain ⟨b51, o52, rfl⟩ := hv4
      obtain ⟨v5, vs5, rfl, hv5, ht5⟩ := TySL_cons ht4
      obtain ⟨x53, rfl⟩ := hv5
      obtain rfl := TySL_nil ht5
      exact (d_cost_Send.l0_den k x46 x47 x48 b49 o50 b51 o52 x53 mk h G).trans hk
  refine LOK_cons (P := fun i x => LOK (ctx E1 97 d_cost_Send.hint (d_cost_Send.tbl) d_cost_Send.it (LPof (d_cost_Send.L)) (YOof (d_cost_Send.L))) (ctxY E1 97 d_cost_Send.hint (d_cost_Send.tbl)) Try.f56 (todoC d_cost_Send.body []) (i + 1) x) ?_ ?_
  · refine ⟨by kernel_rfl, fun vs mk h ht => ?_, fun k vs mk h r ht hk G => ?_⟩
    · obtain ⟨v0, vs0, rfl, hv0, ht0⟩ := TySL_cons ht
      obtain ⟨x87, rfl⟩ := hv0
      obtain ⟨v1, vs1, rfl, hv1, ht1⟩ := TySL_cons ht0
      obtain ⟨x88, rfl⟩ := hv1
      obtain ⟨v2, vs2, rfl, hv2, ht2⟩ := TySL_cons ht1
      obtain ⟨x89, rfl⟩ := hv2
      obtain ⟨v3, vs3, rfl, hv3, ht3⟩ := TySL_cons ht2
      obtain ⟨b90, o91, rfl⟩ := hv3
      obtain ⟨v4, vs4, rfl, hv4, ht4⟩ := TySL_cons ht3
      obtain ⟨b92, o93, rfl⟩ := hv4
      obtain ⟨v5, vs5, rfl, hv5, ht5⟩ := TySL_cons ht4
      obtain ⟨x94, rfl⟩ := hv5
      obtain ⟨v6, vs6, rfl, hv6, ht6⟩ := TySL_cons ht5
      obtain ⟨a95, n96, c97, rfl⟩ := hv6
      obtain ⟨v7, vs7, rfl, hv7, ht7⟩ := TySL_cons ht6
      obtain ⟨x98, rfl⟩ := hv7
      obtain ⟨v8, vs8, rfl, hv8, ht8⟩ := TySL_cons ht7
      obtain ⟨x99, rfl⟩ := hv8
      obtain rfl := TySL_nil ht8
      rfl
    · obtain ⟨v0, vs0, rfl, hv0, ht0⟩ := TySL_cons ht
      obtain ⟨x87, rfl⟩ := hv0
      obtain ⟨v1, vs1, rfl, hv1, ht1⟩ := TySL_cons ht0
      obtain ⟨x88, rfl⟩ := hv1
      obtain ⟨v2, vs2, rfl, hv2, ht2⟩ := TySL_cons ht1
      obtain ⟨x89, rfl⟩ := hv2
      obtain ⟨v3, vs3, rfl, hv3, ht3⟩ := TySL_cons ht2
      obtain ⟨b90, o91, rfl⟩ := hv3
      obtain ⟨v4, vs4, rfl, hv4, ht4⟩ := TySL_cons ht3
      obtain ⟨b92, o93, rfl⟩ := hv4
      obtain ⟨v5, vs5, rfl, hv5, ht5⟩ := TySL_cons ht4
      obtain ⟨x94, rfl⟩ := hv5
      obtain ⟨v6, vs6, rfl, hv6, ht6⟩ := TySL_cons ht5
      obtain ⟨a95, n96, c97, rfl⟩ := hv6
      obtain ⟨v7, vs7, rfl, hv7, ht7⟩ := TySL_cons ht6
      obtain ⟨x98, rfl⟩ := hv7
      obtain ⟨v8, vs8, rfl, hv8, ht8⟩ := TySL_cons ht7
      obtain ⟨x99, rfl⟩ := hv8
      obtain rfl := TySL_nil ht8
      exact (d_cost_Send.l1_den k x87 x88 x89 b90 o91 b92 o93 x94 a95 n96 c97 x98 x99 mk h G).trans hk
  refine LOK_cons (P := fun i x => LOK (ctx E1 97 d_cost_Send.hint (d_cost_Send.tbl) d_cost_Send.it (LPof (d_cost_Send.L)) (YOof (d_cost_Send.L))) (ctxY E1 97 d_cost_Send.hint (d_cost_Send.tbl)) Try.f56 (todoC d_cost_Send.body []) (i + 1 + 1) x) ?_ ?_
  · refine ⟨by kernel_rfl, fun vs mk h ht => ?_, fun k vs mk h r ht hk G => ?_⟩
    · obtain ⟨v0, vs0, rfl, hv0, ht0⟩ := TySL_cons ht
      obtain ⟨x109, rfl⟩ := hv0
      obtain ⟨v1, vs1, rfl, hv1, ht1⟩ := TySL_cons ht0
      obtain ⟨x110, rfl⟩ := hv1
      obtain ⟨v2, vs2, rfl, hv2, ht2⟩ := TySL_cons ht1
      obtain ⟨x111, rfl⟩ := hv2
      obtain ⟨v3, vs3, rfl, hv3, ht3⟩ := TySL_cons ht2
      obtain ⟨b112, o113, rfl⟩ := hv3
      obtain ⟨v4, vs4, rfl, hv4, ht4⟩ := TySL_cons ht3
      obtain ⟨b114, o115, rfl⟩ := hv4
      obtain ⟨v5, vs5, rfl, hv5, ht5⟩ := TySL_cons ht4
      obtain ⟨x116, rfl⟩ := hv5
      obtain ⟨v6, vs6, rfl, hv6, ht6⟩ := TySL_cons ht5
      obtain ⟨x117, rfl⟩ := hv6
      obtain rfl := TySL_nil ht6
      rfl
    · obtain ⟨v0, vs0, rfl, hv0, ht0⟩ := TySL_cons ht
      obtain ⟨x109, rfl⟩ := hv0
      obtain ⟨v1, vs1, rfl, hv1, ht1⟩ := TySL_cons ht0
      obtain ⟨x110, rfl⟩ := hv1
      obtain ⟨v2, vs2, rfl, hv2, ht2⟩ := TySL_cons ht1
      obtain ⟨x111, rfl⟩ := hv2
      obtain ⟨v3, vs3, rfl, hv3, ht3⟩ := TySL_cons ht2
      obtain ⟨b112, o113, rfl⟩ := hv3
      obtain ⟨v4, vs4, rfl, hv4, ht4⟩ := TySL_cons ht3
      obtain ⟨b114, o115, rfl⟩ := hv4
      obtain ⟨v5, vs5, rfl, hv5, ht5⟩ := TySL_cons ht4
      obtain ⟨x116, rfl⟩ := hv5
      obtain ⟨v6, vs6, rfl, hv6, ht6⟩ := TySL_cons ht5
      obtain ⟨x117, rfl⟩ := hv6
      obtain rfl := TySL_nil ht6
      exact (d_cost_Send.l2_den k x109 x110 x111 b112 o113 b114 o115 x116 x117 mk h G).trans hk
  exact LOK_nil
theorem d_cost_Send.snd {H : Pl → Prop} (hH : MonoH H) (k : Nat) : SndF E1 H 56 (d_cost_Send.v k) := by
  intro args h v h1 hk
  obtain ⟨ht, hk⟩ := castAL_ok hk
  obtain ⟨v0, vs0, rfl, hv0, ht0⟩ := TyAL_cons ht
  obtain ⟨cs1, rfl, hv0c⟩ := hv0
  obtain ⟨w4, cs3, rfl, hw5, hc6⟩ := TyCL_cons hv0c
  obtain ⟨x2, rfl⟩ := hw5
  obtain ⟨w11, cs10, rfl, hw12, hc13⟩ := TyCL_cons hc6
  obtain ⟨a7, n8, c9, rfl⟩ := hw12
  obtain rfl := TyCL_nil hc13
  obtain ⟨v1, vs1, rfl, hv1, ht1⟩ := TyAL_cons ht0
  obtain ⟨x14, rfl⟩ := hv1
  obtain ⟨v2, vs2, rfl, hv2, ht2⟩ := TyAL_cons ht1
  obtain ⟨x15, rfl⟩ := hv2
  obtain ⟨v3, vs3, rfl, hv3, ht3⟩ := TyAL_cons ht2
  obtain ⟨x16, rfl⟩ := hv3
  obtain rfl := TyAL_nil ht3
  refine fn_ok' (E := E1) (N := 97) (g := 56) (F := Try.f56) (hint := d_cost_Send.hint) (tbl := d_cost_Send.tbl) (tblY := d_cost_Send.tbl) (itK := d_cost_Send.it) (L := d_cost_Send.L) (body := d_cost_Send.body) (by kernel_rfl) (by kernel_rfl) (by kernel_rfl) hH ?_ ?_ ?_ d_cost_Send.L_ok k (by kernel_rfl) ((d_cost_Send.r_den k x2 a7 n8 c9 x14 x15 x16 h).trans hk)
  · intro k; exact addF_ok (d_cost_Check.snd hH k) (addF_ok (d_cost_task.snd hH k) (addF_ok (d_cost_begin.snd hH k) (addF_ok (d_cost_network_distances.snd hH k) (addF_ok (d_cost_network_freight.snd hH k) (addF_ok (d_cost_network_fill.snd hH k) (noTbl_ok k))))))
  · intro l' p' k; exact addF_ok (d_cost_Check.snd (hH.pay _ _) k) (addF_ok (d_cost_task.snd (hH.pay _ _) k) (addF_ok (d_cost_begin.snd (hH.pay _ _) k) (addF_ok (d_cost_network_distances.snd (hH.pay _ _) k) (addF_ok (d_cost_network_freight.snd (hH.pay _ _) k) (addF_ok (d_cost_network_fill.snd (hH.pay _ _) k) (noTbl_ok k))))))
  · intro k; exact noIt_ok k

/-! ### weirgate/weirgatelaw11.CostChecksMatchSpec: function 10 -/
noncomputable def d_law11_CostChecksMatchSpec.body : Code := match Try.f10.body with | some b => b | none => .skip
noncomputable def d_law11_CostChecksMatchSpec.hint : Nat → Option (Nat × List Ck) := fun d => none
noncomputable def d_law11_CostChecksMatchSpec.tbl {R : Type} : TblTy R := addF 53 [.cell (.int .i64)] d_ref11_Check.v (addF 54 [.cell (.int .i64)] d_cost_Check.v (addF 55 [.cell .bool] d_ref11_Task.v (addF 56 [.agg [.int .i64, .int .i64, .slc, .slc, .slc], .cell (.int .i64)] d_cost_Send.v (addO 52 (noTbl)))))
noncomputable def d_law11_CostChecksMatchSpec.it {R : Type} : ItTy R := noIt
noncomputable def d_law11_CostChecksMatchSpec.L : List LEnt := []
noncomputable def d_law11_CostChecksMatchSpec.r (k : Nat) (x2 : Int) (a7 : Option Addr) (n8 : Nat) (c9 : Nat) (x14 : Int) (x15 : Int) (x16 : Int) (h : Hp) : Option (Value × Hp) := lt (h.new (.row 0 [.int .i64 x2, .slice a7 n8 c9])) fun h17 => (asI .i64 (rd h17 h.next 0)).bind fun x18 => bc (!(decide (x18 > 300))) ((asS (rd h17 h.next (0 + 1))).bind fun s19 => bc (decide (((s19.n : Nat) : Int) > 2100)) (some (.bool true, h17)) ((asI .i64 (rd h17 h.next 0)).bind fun x20 => (asS (rd h17 h.next (0 + 1))).bind fun s21 => (d_ref11_Check.r k x20 s21.a s21.n s21.c h17).bind fun q22 => (asI .i64 (some q22.1)).bind fun x23 => (asI .i64 (rd q22.2 h.next 0)).bind fun x24 => (asS (rd q22.2 h.next (0 + 1))).bind fun s25 => (d_cost_Check.r k x24 s25.a s25.n s25.c q22.2).bind fun q26 => (asI .i64 (some q26.1)).bind fun x27 => bc (!(x27 == x23)) (some (.bool false, q26.2)) (bc (x23 == 0) ((asI .i64 (rd q26.2 h.next 0)).bind fun x28 => (asS (rd q26.2 h.next (0 + 1))).bind fun s29 => (d_ref11_Task.r k x28 s29.a s29.n s29.c x14 x15 x16 q26.2).bind fun q30 => (asB (some q30.1)).bind fun x31 => bc x31 (some (.bool true, q30.2)) ((asI .i64 (rd q30.2 h.next 0)).bind fun x32 => (asS (rd q30.2 h.next (0 + 1))).bind fun s33 => (d_cost_Send.r k x32 s33.a s33.n s33.c x14 x15 x16 q30.2).bind fun q34 => (asTup 2 q34.1).bind fun cs35 => (asA 5 (nth cs35 0)).bind fun cs36 => (asI .i64 (nth cs36 0)).bind fun x37 => (asI .i64 (nth cs36 1)).bind fun x38 => (asS0 (nth cs36 2)).bind fun s39 => (asS0 (nth cs36 3)).bind fun s40 => (asS0 (nth cs36 4)).bind fun s41 => (asI .i64 (nth cs35 1)).bind fun x42 => lt (q34.2.new (.row 0 [.int .i64 0, .int .i64 0, .slice none 0 0, .slice none 0 0, .slice none 0 0])) fun h43 => (wr h43 q34.2.next 0 [.int .i64 x37, .int .i64 x38, .slice s39.a s39.n s39.c, .slice s40.a s40.n s40.c, .slice s41.a s41.n s41.c]).bind fun h44 => bc (x23 == 0) (bc (x42 == 1) ((asS (rd h44 q34.2.next (0 + 2))).bind fun s45 => bc (((s45.n : Nat) : Int) == 0) ((asI .i64 (rd h44 q34.2.next 0)).bind fun x46 => some (.bool (x46 == 0), h44)) (some (.bool false, h44))) (some (.bool false, h44))) (bc (x42 == x23) ((asS (rd h44 q34.2.next (0 + 2))).bind fun s47 => bc (((s47.n : Nat) : Int) == 0) ((asI .i64 (rd h44 q34.2.next 0)).bind fun x48 => some (.bool (x48 == 0), h44)) (some (.bool false, h44))) (some (.bool false, h44))))) ((asI .i64 (rd q26.2 h.next 0)).bind fun x49 => (asS (rd q26.2 h.next (0 + 1))).bind fun s50 => (d_cost_Send.r k x49 s50.a s50.n s50.c x14 x15 x16 q26.2).bind fun q51 => (asTup 2 q51.1).bind fun cs52 => (asA 5 (nth cs52 0)).bind fun cs53 => (asI .i64 (nth cs53 0)).bind fun x54 => (asI .i64 (nth cs53 1)).bind fun x55 => (asS0 (nth cs53 2)).bind fun s56 => (asS0 (nth cs53 3)).bind fun s57 => (asS0 (nth cs53 4)).bind fun s58 => (asI .i64 (nth cs52 1)).bind fun x59 => lt (q51.2.new (.row 0 [.int .i64 0, .int .i64 0, .slice none 0 0, .slice none 0 0, .slice none 0 0])) fun h60 => (wr h60 q51.2.next 0 [.int .i64 x54, .int .i64 x55, .slice s56.a s56.n s56.c, .slice s57.a s57.n s57.c, .slice s58.a s58.n s58.c]).bind fun h61 => bc (x23 == 0) (bc (x59 == 1) ((asS (rd h61 q51.2.next (0 + 2))).bind fun s62 => bc (((s62.n : Nat) : Int) == 0) ((asI .i64 (rd h61 q51.2.next 0)).bind fun x63 => some (.bool (x63 == 0), h61)) (some (.bool false, h61))) (some (.bool false, h61))) (bc (x59 == x23) ((asS (rd h61 q51.2.next (0 + 2))).bind fun s64 => bc (((s64.n : Nat) : Int) == 0) ((asI .i64 (rd h61 q51.2.next 0)).bind fun x65 => some (.bool (x65 == 0), h61)) (some (.bool false, h61))) (some (.bool false, h61))))))) (some (.bool true, h17))
noncomputable def d_law11_CostChecksMatchSpec.v (k : Nat) (args : List Value) (h : Hp) : Option (Value × Hp) := castAL [.agg [.int .i64, .slc], .cell (.int .i64), .cell (.int .i64), .cell (.int .i64)] args fun vs => match vs with | [.agg ⟨[.int .i64 x2, .slice a7 n8 c9]⟩, .int .i64 x14, .int .i64 x15, .int .i64 x16] => d_law11_CostChecksMatchSpec.r k x2 a7 n8 c9 x14 x15 x16 h | _ => none
theorem d_law11_CostChecksMatchSpec.r_den (k : Nat) (x2 : Int) (a7 : Option Addr) (n8 : Nat) (c9 : Nat) (x14 : Int) (x15 : Int) (x16 : Int) (h : Hp) : denF ((ctx E1 65 d_law11_CostChecksMatchSpec.hint (d_law11_CostChecksMatchSpec.tbl) d_law11_CostChecksMatchSpec.it (LPof (d_law11_CostChecksMatchSpec.L)) (YOof (d_law11_CostChecksMatchSpec.L))) k) Try.f10 [.agg #[.int .i64 x2, .slice a7 n8 c9], .int .i64 x14, .int .i64 x15, .int .i64 x16] h pairK = d_law11_CostChecksMatchSpec.r k x2 a7 n8 c9 x14 x15 x16 h := by kernel_rfl
theorem d_law11_CostChecksMatchSpec.L_ok : ∀ i x, (d_law11_CostChecksMatchSpec.L)[i]? = some x → LOK (ctx E1 65 d_law11_CostChecksMatchSpec.hint (d_law11_CostChecksMatchSpec.tbl) d_law11_CostChecksMatchSpec.it (LPof (d_law11_CostChecksMatchSpec.L)) (YOof (d_law11_CostChecksMatchSpec.L))) (ctxY E1 65 d_law11_CostChecksMatchSpec.hint (d_law11_CostChecksMatchSpec.tbl)) Try.f10 (todoC d_law11_CostChecksMatchSpec.body []) i x := by
  exact LOK_nil
theorem d_law11_CostChecksMatchSpec.snd {H : Pl → Prop} (hH : MonoH H) (k : Nat) : SndF E1 H 10 (d_law11_CostChecksMatchSpec.v k) := by
  intro args h v h1 hk
  obtain ⟨ht, hk⟩ := castAL_ok hk
  obtain ⟨v0, vs0, rfl, hv0, ht0⟩ := TyAL_cons ht
  obtain ⟨cs1, rfl, hv0c⟩ := hv0
  obtain ⟨w4, cs3, rfl, hw5, hc6⟩ := TyCL_cons hv0c
  obtain ⟨x2, rfl⟩ := hw5
  obtain ⟨w11, cs10, rfl, hw12, hc13⟩ := TyCL_cons hc6
  obtain ⟨a7, n8, c9, rfl⟩ := hw12
  obtain rfl := TyCL_nil hc13
  obtain ⟨v1, vs1, rfl, hv1, ht1⟩ := TyAL_cons ht0
  obtain ⟨x14, rfl⟩ := hv1
  obtain ⟨v2, vs2, rfl, hv2, ht2⟩ := TyAL_cons ht1
  obtain ⟨x15, rfl⟩ := hv2
  obtain ⟨v3, vs3, rfl, hv3, ht3⟩ := TyAL_cons ht2
  obtain ⟨x16, rfl⟩ := hv3
  obtain rfl := TyAL_nil ht3
  refine fn_ok' (E := E1) (N := 65) (g := 10) (F := Try.f10) (hint := d_law11_CostChecksMatchSpec.hint) (tbl := d_law11_CostChecksMatchSpec.tbl) (tblY := d_law11_CostChecksMatchSpec.tbl) (itK := d_law11_CostChecksMatchSpec.it) (L := d_law11_CostChecksMatchSpec.L) (body := d_law11_CostChecksMatchSpec.body) (by kernel_rfl) (by kernel_rfl) (by kernel_rfl) hH ?_ ?_ ?_ d_law11_CostChecksMatchSpec.L_ok k (by kernel_rfl) ((d_law11_CostChecksMatchSpec.r_den k x2 a7 n8 c9 x14 x15 x16 h).trans hk)
  · intro k; exact addF_ok (d_ref11_Check.snd hH k) (addF_ok (d_cost_Check.snd hH k) (addF_ok (d_ref11_Task.snd hH k) (addF_ok (d_cost_Send.snd hH k) (addO_ok (by kernel_rfl) (noTbl_ok k)))))
  · intro l' p' k; exact addF_ok (d_ref11_Check.snd (hH.pay _ _) k) (addF_ok (d_cost_Check.snd (hH.pay _ _) k) (addF_ok (d_ref11_Task.snd (hH.pay _ _) k) (addF_ok (d_cost_Send.snd (hH.pay _ _) k) (addO_ok (by kernel_rfl) (noTbl_ok k)))))
  · intro k; exact noIt_ok k

/-! ### weirgate/weirgateref11.Few: function 57 -/
noncomputable def d_ref11_Few.body : Code := match Try.f57.body with | some b => b | none => .skip
noncomputable def d_ref11_Few.hint : Nat → Option (Nat × List Ck) := fun d => none
noncomputable def d_ref11_Few.tbl {R : Type} : TblTy R := addF 53 [.cell (.int .i64)] d_ref11_Check.v (noTbl)
noncomputable def d_ref11_Few.it {R : Type} : ItTy R := noIt
noncomputable def d_ref11_Few.b0 (k : Nat) (L0 : Int → Nat → Nat → Int → List Nat → Hp → Option (Value × Hp)) (x22 : Int) (b23 : Nat) (o24 : Nat) (x25 : Int) (mk : List Nat) (h : Hp) : Option (Value × Hp) := (asS (rd h b23 (o24 + 1))).bind fun s26 => bc (decide (x25 < ((s26.n : Nat) : Int))) ((asS (rd h b23 (o24 + 1))).bind fun s27 => (ixA s27.a s27.n 4 x25).bind fun p28 => (asI .i64 (rd h p28.1 (p28.2 + 2))).bind fun x29 => bc (decide (x29 > x22)) ((takeM h mk).bind fun h30 => some (.bool false, h30)) (L0 x22 b23 o24 (w64 (x25 + 1)) mk h)) ((takeM h mk).bind fun h31 => some (.bool true, h31))
noncomputable def d_ref11_Few.LL : Nat → (Int → Nat → Nat → Int → List Nat → Hp → Option (Value × Hp))
  | 0 => fun _ _ _ _ _ _ => none
  | k + 1 => d_ref11_Few.b0 k (d_ref11_Few.LL k)
noncomputable def d_ref11_Few.l0 (k : Nat) : Int → Nat → Nat → Int → List Nat → Hp → Option (Value × Hp) := (d_ref11_Few.LL k)
theorem d_ref11_Few.l0_succ (k : Nat) : d_ref11_Few.l0 (k + 1) = d_ref11_Few.b0 k (d_ref11_Few.l0 k) := rfl
noncomputable def d_ref11_Few.l0v (k : Nat) (vs : List Value) (mk : List Nat) (h : Hp) : Option (Value × Hp) := match vs with | [.int .i64 x22, .pointer (some ⟨b23, o24, none⟩), .int .i64 x25] => d_ref11_Few.l0 k x22 b23 o24 x25 mk h | _ => none
noncomputable def d_ref11_Few.L : List LEnt := [.lp [(1, .cell (.int .i64)), (2, .cell .ptr), (5, .cell (.int .i64))] (d_ref11_Few.l0v)]
noncomputable def d_ref11_Few.r (k : Nat) (x2 : Int) (a7 : Option Addr) (n8 : Nat) (c9 : Nat) (x14 : Int) (h : Hp) : Option (Value × Hp) := lt (h.new (.row 0 [.int .i64 x2, .slice a7 n8 c9])) fun h15 => (asI .i64 (rd h15 h.next 0)).bind fun x16 => bc (!(decide (x16 > 12))) ((asS (rd h15 h.next (0 + 1))).bind fun s17 => bc (!(decide (((s17.n : Nat) : Int) > 30))) ((asI .i64 (rd h15 h.next 0)).bind fun x18 => (asS (rd h15 h.next (0 + 1))).bind fun s19 => (d_ref11_Check.r k x18 s19.a s19.n s19.c h15).bind fun q20 => (asI .i64 (some q20.1)).bind fun x21 => bc (!(x21 == 0)) (some (.bool false, q20.2)) (d_ref11_Few.l0 k x14 h.next 0 0 [] q20.2)) (some (.bool false, h15))) (some (.bool false, h15))
noncomputable def d_ref11_Few.v (k : Nat) (args : List Value) (h : Hp) : Option (Value × Hp) := castAL [.agg [.int .i64, .slc], .cell (.int .i64)] args fun vs => match vs with | [.agg ⟨[.int .i64 x2, .slice a7 n8 c9]⟩, .int .i64 x14] => d_ref11_Few.r k x2 a7 n8 c9 x14 h | _ => none
theorem d_ref11_Few.l0_den (k : Nat) (x22 : Int) (b23 : Nat) (o24 : Nat) (x25 : Int) (mk : List Nat) (h : Hp) (G : Tr Value) : loopF' ((ctx E1 35 d_ref11_Few.hint (d_ref11_Few.tbl) d_ref11_Few.it (LPof (d_ref11_Few.L)) (YOof (d_ref11_Few.L))) k) Try.f57 pairK 0 ⟨[(1, .int .i64 x22), (2, .pointer (some ⟨b23, o24, none⟩)), (5, .int .i64 x25)], G, mk⟩ h = d_ref11_Few.l0 (k + 1) x22 b23 o24 x25 mk h := by kernel_rfl
theorem d_ref11_Few.r_den (k : Nat) (x2 : Int) (a7 : Option Addr) (n8 : Nat) (c9 : Nat) (x14 : Int) (h : Hp) : denF ((ctx E1 35 d_ref11_Few.hint (d_ref11_Few.tbl) d_ref11_Few.it (LPof (d_ref11_Few.L)) (YOof (d_ref11_Few.L))) k) Try.f57 [.agg #[.int .i64 x2, .slice a7 n8 c9], .int .i64 x14] h pairK = d_ref11_Few.r k x2 a7 n8 c9 x14 h := by kernel_rfl
theorem d_ref11_Few.L_ok : ∀ i x, (d_ref11_Few.L)[i]? = some x → LOK (ctx E1 35 d_ref11_Few.hint (d_ref11_Few.tbl) d_ref11_Few.it (LPof (d_ref11_Few.L)) (YOof (d_ref11_Few.L))) (ctxY E1 35 d_ref11_Few.hint (d_ref11_Few.tbl)) Try.f57 (todoC d_ref11_Few.body []) i x := by
  refine LOK_cons (P := fun i x => LOK (ctx E1 35 d_ref11_Few.hint (d_ref11_Few.tbl) d_ref11_Few.it (LPof (d_ref11_Few.L)) (YOof (d_ref11_Few.L))) (ctxY E1 35 d_ref11_Few.hint (d_ref11_Few.tbl)) Try.f57 (todoC d_ref11_Few.body []) (i) x) ?_ ?_
  · refine ⟨by kernel_rfl, fun vs mk h ht => ?_, fun k vs mk h r ht hk G => ?_⟩
    · obtain ⟨v0, vs0, rfl, hv0, ht0⟩ := TySL_cons ht
      obtain ⟨x22, rfl⟩ := hv0
      obtain ⟨v1, vs1, rfl, hv1, ht1⟩ := TySL_cons ht0
      obtain ⟨b23, o24, rfl⟩ := hv1
      obtain ⟨v2, vs2, rfl, hv2, ht2⟩ := TySL_cons ht1
      obtain ⟨x25, rfl⟩ := hv2
      obtain rfl := TySL_nil ht2
      rfl
    · obtain ⟨v0, vs0, rfl, hv0, ht0⟩ := TySL_cons ht
      obtain ⟨x22, rfl⟩ := hv0
      obtain ⟨v1, vs1, rfl, hv1, ht1⟩ := TySL_cons ht0
      obtain ⟨b23, o24, rfl⟩ := hv1
      obtain ⟨v2, vs2, rfl, hv2, ht2⟩ := TySL_cons ht1
      obtain ⟨x25, rfl⟩ := hv2
      obtain rfl := TySL_nil ht2
      exact (d_ref11_Few.l0_den k x22 b23 o24 x25 mk h G).trans hk
  exact LOK_nil
theorem d_ref11_Few.snd {H : Pl → Prop} (hH : MonoH H) (k : Nat) : SndF E1 H 57 (d_ref11_Few.v k) := by
  intro args h v h1 hk
  obtain ⟨ht, hk⟩ := castAL_ok hk
  obtain ⟨v0, vs0, rfl, hv0, ht0⟩ := TyAL_cons ht
  obtain ⟨cs1, rfl, hv0c⟩ := hv0
  obtain ⟨w4, cs3, rfl, hw5, hc6⟩ := TyCL_cons hv0c
  obtain ⟨x2, rfl⟩ := hw5
  obtain ⟨w11, cs10, rfl, hw12, hc13⟩ := TyCL_cons hc6
  obtain ⟨a7, n8, c9, rfl⟩ := hw12
  obtain rfl := TyCL_nil hc13
  obtain ⟨v1, vs1, rfl, hv1, ht1⟩ := TyAL_cons ht0
  obtain ⟨x14, rfl⟩ := hv1
  obtain rfl := TyAL_nil ht1
  refine fn_ok' (E := E1) (N := 35) (g := 57) (F := Try.f57) (hint := d_ref11_Few.hint) (tbl := d_ref11_Few.tbl) (tblY := d_ref11_Few.tbl) (itK := d_ref11_Few.it) (L := d_ref11_Few.L) (body := d_ref11_Few.body) (by kernel_rfl) (by kernel_rfl) (by kernel_rfl) hH ?_ ?_ ?_ d_ref11_Few.L_ok k (by kernel_rfl) ((d_ref11_Few.r_den k x2 a7 n8 c9 x14 h).trans hk)
  · intro k; exact addF_ok (d_ref11_Check.snd hH k) (noTbl_ok k)
  · intro l' p' k; exact addF_ok (d_ref11_Check.snd (hH.pay _ _) k) (noTbl_ok k)
  · intro k; exact noIt_ok k

/-! ### weirgate/weirgateref11.far: function 117 -/
noncomputable def d_ref11_far.body : Code := match Try.f117.body with | some b => b | none => .skip
noncomputable def d_ref11_far.hint : Nat → Option (Nat × List Ck) := fun d => none
noncomputable def d_ref11_far.tbl {R : Type} : TblTy R := noTbl
noncomputable def d_ref11_far.it {R : Type} : ItTy R := noIt
noncomputable def d_ref11_far.L : List LEnt := []
noncomputable def d_ref11_far.r (k : Nat) (h : Hp) : Option (Value × Hp) := some (.int .i64 1152921504606846976, h)
noncomputable def d_ref11_far.v (k : Nat) (args : List Value) (h : Hp) : Option (Value × Hp) := castAL [] args fun vs => match vs with | [] => d_ref11_far.r k h | _ => none
theorem d_ref11_far.r_den (k : Nat) (h : Hp) : denF ((ctx E1 1 d_ref11_far.hint (d_ref11_far.tbl) d_ref11_far.it (LPof (d_ref11_far.L)) (YOof (d_ref11_far.L))) k) Try.f117 [] h pairK = d_ref11_far.r k h := by kernel_rfl
theorem d_ref11_far.L_ok : ∀ i x, (d_ref11_far.L)[i]? = some x → LOK (ctx E1 1 d_ref11_far.hint (d_ref11_far.tbl) d_ref11_far.it (LPof (d_ref11_far.L)) (YOof (d_ref11_far.L))) (ctxY E1 1 d_ref11_far.hint (d_ref11_far.tbl)) Try.f117 (todoC d_ref11_far.body []) i x := by
  exact LOK_nil
theorem d_ref11_far.snd {H : Pl → Prop} (hH : MonoH H) (k : Nat) : SndF E1 H 117 (d_ref11_far.v k) := by
  intro args h v h1 hk
  obtain ⟨ht, hk⟩ := castAL_ok hk
  obtain rfl := TyAL_nil ht
  refine fn_ok' (E := E1) (N := 1) (g := 117) (F := Try.f117) (hint := d_ref11_far.hint) (tbl := d_ref11_far.tbl) (tblY := d_ref11_far.tbl) (itK := d_ref11_far.it) (L := d_ref11_far.L) (body := d_ref11_far.body) (by kernel_rfl) (by kernel_rfl) (by kernel_rfl) hH ?_ ?_ ?_ d_ref11_far.L_ok k (by kernel_rfl) ((d_ref11_far.r_den k h).trans hk)
  · intro k; exact noTbl_ok k
  · intro l' p' k; exact noTbl_ok k
  · intro k; exact noIt_ok k
end Go.Proofs.Ytgikimegikelkaa.Dn
