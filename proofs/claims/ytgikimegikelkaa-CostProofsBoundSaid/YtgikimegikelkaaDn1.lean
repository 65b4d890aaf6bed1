/- Functions of the program, told over a heap, with their proofs against the machine of lists and tries (printed by dprint.py). -/
import Derived.Test.YtgikimegikelkaaAbE
import Derived.Test.YtgikimegikelkaaAbDen8
import Derived.Test.YtgikimegikelkaaDn0
namespace Go.Proofs.Ytgikimegikelkaa.Dn
open Go Go.Proofs.Ytgikimegikelkaa.Ab Go.Proofs.Ytgikimegikelkaa.AbT Go.Proofs
set_option linter.unusedVariables false
set_option linter.unusedSimpArgs false
set_option maxRecDepth 100000
/-! ### weirgate/cost.cuts: function 122 -/
noncomputable def d_cost_cuts.body : Code := match Try.f122.body with | some b => b | none => .skip
noncomputable def d_cost_cuts.hint : Nat → Option (Nat × List Ck) := fun d => none
noncomputable def d_cost_cuts.tbl {R : Type} : TblTy R := noTbl
noncomputable def d_cost_cuts.it {R : Type} : ItTy R := noIt
noncomputable def d_cost_cuts.b0 (k : Nat) (L0 : Int → Int → Nat → Nat → Nat → Nat → Option Addr → Nat → Nat → Option Addr → Nat → Nat → Int → Int → List Nat → Hp → Option (Value × Hp)) (L1 : Nat → Nat → Option Addr → Nat → Nat → Option Addr → Nat → Nat → Int → Int → List Nat → Hp → Option (Value × Hp)) (x53 : Int) (x54 : Int) (b55 : Nat) (o56 : Nat) (b57 : Nat) (o58 : Nat) (a59 : Option Addr) (n60 : Nat) (c61 : Nat) (a62 : Option Addr) (n63 : Nat) (c64 : Nat) (x65 : Int) (x66 : Int) (mk : List Nat) (h : Hp) : Option (Value × Hp) := bc (decide (x66 < x65)) ((ixA a62 n63 1 x66).bind fun p67 => (asI .i64 (rd h p67.1 p67.2)).bind fun x68 => bc (!(decide (x68 < 0))) ((asI .i64 (rd h b55 o56)).bind fun x69 => bc (!(decide (x68 ≥ x69))) (bc (decide (x66 > 0)) ((asS (rd h b57 (o58 + 4))).bind fun s70 => (ixA s70.a s70.n 1 (w64 (x66 - 1))).bind fun p71 => (asI .i64 (rd h p71.1 p71.2)).bind fun x72 => bc (decide (x68 ≤ x72)) ((takeM h mk).bind fun h73 => some (.bool false, h73)) ((ixA a59 n60 1 x68).bind fun p74 => (wr h p74.1 p74.2 [.bool true]).bind fun h75 => L0 x53 x54 b55 o56 b57 o58 a59 n60 c61 a62 n63 c64 x65 (w64 (x66 + 1)) mk h75)) ((ixA a59 n60 1 x68).bind fun p76 => (wr h p76.1 p76.2 [.bool true]).bind fun h77 => L0 x53 x54 b55 o56 b57 o58 a59 n60 c61 a62 n63 c64 x65 (w64 (x66 + 1)) mk h77)) ((takeM h mk).bind fun h78 => some (.bool false, h78))) ((takeM h mk).bind fun h79 => some (.bool false, h79))) ((ixA a59 n60 1 x53).bind fun p80 => (asB (rd h p80.1 p80.2)).bind fun x81 => bc (!(!x81)) ((ixA a59 n60 1 x54).bind fun p82 => (asB (rd h p82.1 p82.2)).bind fun x83 => bc x83 ((takeM h mk).bind fun h84 => some (.bool false, h84)) ((asS (rd h b55 (o56 + 1))).bind fun s85 => L1 b57 o58 a59 n60 c61 s85.a s85.n s85.c ((s85.n : Nat) : Int) 0 mk h)) ((takeM h mk).bind fun h86 => some (.bool false, h86)))
noncomputable def d_cost_cuts.b1 (k : Nat) (L0 : Int → Int → Nat → Nat → Nat → Nat → Option Addr → Nat → Nat → Option Addr → Nat → Nat → Int → Int → List Nat → Hp → Option (Value × Hp)) (L1 : Nat → Nat → Option Addr → Nat → Nat → Option Addr → Nat → Nat → Int → Int → List Nat → Hp → Option (Value × Hp)) (b87 : Nat) (o88 : Nat) (a89 : Option Addr) (n90 : Nat) (c91 : Nat) (a92 : Option Addr) (n93 : Nat) (c94 : Nat) (x95 : Int) (x96 : Int) (mk : List Nat) (h : Hp) : Option (Value × Hp) := bc (decide (x96 < x95)) ((ixA a92 n93 4 x96).bind fun p97 => (asI .i64 (rd h p97.1 p97.2)).bind fun x98 => (asI .i64 (rd h p97.1 (p97.2 + 1))).bind fun x99 => (asI .i64 (rd h p97.1 (p97.2 + 2))).bind fun x100 => (asI .i64 (rd h p97.1 (p97.2 + 3))).bind fun x101 => lt (h.new (.row 0 [.int .i64 0, .int .i64 0, .int .i64 0, .int .i64 0])) fun h102 => (wr h102 h.next 0 [.int .i64 x98, .int .i64 x99, .int .i64 x100, .int .i64 x101]).bind fun h103 => (asI .i64 (rd h103 h.next 0)).bind fun x104 => ckB (Nat.ble (h.next + 1) h103.next) ((ixA a89 n90 1 x104).bind fun p105 => (asB (rd h103 p105.1 p105.2)).bind fun x106 => ckB (Nat.ble (p105.1 + 1) h103.next) (bc x106 ((asI .i64 (rd h103 h.next (0 + 1))).bind fun x107 => ckB (Nat.ble (h.next + 1) h103.next) ((ixA a89 n90 1 x107).bind fun p108 => (asB (rd h103 p108.1 p108.2)).bind fun x109 => ckB (Nat.ble (p108.1 + 1) h103.next) (bc (!x109) ((asS (rd h103 b87 (o88 + 2))).bind fun s110 => ckB (Nat.ble (b87 + 1) h103.next) ((ixA s110.a s110.n 1 x96).bind fun p111 => (asI .i64 (rd h103 p111.1 p111.2)).bind fun x112 => ckB (Nat.ble (p111.1 + 1) h103.next) ((asI .i64 (rd h103 h.next (0 + 2))).bind fun x113 => ckB (Nat.ble (h.next + 1) h103.next) (bc (!(!(x112 == x113))) ((asI .i64 (rd h103 h.next 0)).bind fun x114 => ckB (Nat.ble (h.next + 1) h103.next) ((ixA a89 n90 1 x114).bind fun p115 => (asB (rd h103 p115.1 p115.2)).bind fun x116 => ckB (Nat.ble (p115.1 + 1) h103.next) (bc (!x116) ((asI .i64 (rd h103 h.next (0 + 1))).bind fun x117 => ckB (Nat.ble (h.next + 1) h103.next) ((ixA a89 n90 1 x117).bind fun p118 => (asB (rd h103 p118.1 p118.2)).bind fun x119 => ckB (Nat.ble (p118.1 + 1) h103.next) (bc x119 ((asS (rd h103 b87 (o88 + 2))).bind fun s120 => ckB (Nat.ble (b87 + 1) h103.next) ((ixA s120.a s120.n 1 x96).bind fun p121 => (asI .i64 (rd h103 p121.1 p121.2)).bind fun x122 => ckB (Nat.ble (p121.1 + 1) h103.next) (bc (!(x122 == 0)) ((takeM h103 mk).bind fun h123 => some (.bool false, h123)) (L1 b87 o88 a89 n90 c91 a92 n93 c94 x95 (w64 (x96 + 1)) mk h103)))) (L1 b87 o88 a89 n90 c91 a92 n93 c94 x95 (w64 (x96 + 1)) mk h103)))) (L1 b87 o88 a89 n90 c91 a92 n93 c94 x95 (w64 (x96 + 1)) mk h103)))) ((takeM h103 mk).bind fun h124 => some (.bool false, h124)))))) ((asI .i64 (rd h103 h.next 0)).bind fun x125 => ckB (Nat.ble (h.next + 1) h103.next) ((ixA a89 n90 1 x125).bind fun p126 => (asB (rd h103 p126.1 p126.2)).bind fun x127 => ckB (Nat.ble (p126.1 + 1) h103.next) (bc (!x127) ((asI .i64 (rd h103 h.next (0 + 1))).bind fun x128 => ckB (Nat.ble (h.next + 1) h103.next) ((ixA a89 n90 1 x128).bind fun p129 => (asB (rd h103 p129.1 p129.2)).bind fun x130 => ckB (Nat.ble (p129.1 + 1) h103.next) (bc x130 ((asS (rd h103 b87 (o88 + 2))).bind fun s131 => ckB (Nat.ble (b87 + 1) h103.next) ((ixA s131.a s131.n 1 x96).bind fun p132 => (asI .i64 (rd h103 p132.1 p132.2)).bind fun x133 => ckB (Nat.ble (p132.1 + 1) h103.next) (bc (!(x133 == 0)) ((takeM h103 mk).bind fun h134 => some (.bool false, h134)) (L1 b87 o88 a89 n90 c91 a92 n93 c94 x95 (w64 (x96 + 1)) mk h103)))) (L1 b87 o88 a89 n90 c91 a92 n93 c94 x95 (w64 (x96 + 1)) mk h103)))) (L1 b87 o88 a89 n90 c91 a92 n93 c94 x95 (w64 (x96 + 1)) mk h103))))))) ((asI .i64 (rd h103 h.next 0)).bind fun x135 => ckB (Nat.ble (h.next + 1) h103.next) ((ixA a89 n90 1 x135).bind fun p136 => (asB (rd h103 p136.1 p136.2)).bind fun x137 => ckB (Nat.ble (p136.1 + 1) h103.next) (bc (!x137) ((asI .i64 (rd h103 h.next (0 + 1))).bind fun x138 => ckB (Nat.ble (h.next + 1) h103.next) ((ixA a89 n90 1 x138).bind fun p139 => (asB (rd h103 p139.1 p139.2)).bind fun x140 => ckB (Nat.ble (p139.1 + 1) h103.next) (bc x140 ((asS (rd h103 b87 (o88 + 2))).bind fun s141 => ckB (Nat.ble (b87 + 1) h103.next) ((ixA s141.a s141.n 1 x96).bind fun p142 => (asI .i64 (rd h103 p142.1 p142.2)).bind fun x143 => ckB (Nat.ble (p142.1 + 1) h103.next) (bc (!(x143 == 0)) ((takeM h103 mk).bind fun h144 => some (.bool false, h144)) (L1 b87 o88 a89 n90 c91 a92 n93 c94 x95 (w64 (x96 + 1)) mk h103)))) (L1 b87 o88 a89 n90 c91 a92 n93 c94 x95 (w64 (x96 + 1)) mk h103)))) (L1 b87 o88 a89 n90 c91 a92 n93 c94 x95 (w64 (x96 + 1)) mk h103))))))) ((takeM h mk).bind fun h145 => some (.bool true, h145))
noncomputable def d_cost_cuts.LL : Nat → (Int → Int → Nat → Nat → Nat → Nat → Option Addr → Nat → Nat → Option Addr → Nat → Nat → Int → Int → List Nat → Hp → Option (Value × Hp)) × (Nat → Nat → Option Addr → Nat → Nat → Option Addr → Nat → Nat → Int → Int → List Nat → Hp → Option (Value × Hp))
  | 0 => (fun _ _ _ _ _ _ _ _ _ _ _ _ _ _ _ _ => none, fun _ _ _ _ _ _ _ _ _ _ _ _ => none)
  | k + 1 => (d_cost_cuts.b0 k (d_cost_cuts.LL k).1 (d_cost_cuts.LL k).2, d_cost_cuts.b1 k (d_cost_cuts.LL k).1 (d_cost_cuts.LL k).2)
noncomputable def d_cost_cuts.l0 (k : Nat) : Int → Int → Nat → Nat → Nat → Nat → Option Addr → Nat → Nat → Option Addr → Nat → Nat → Int → Int → List Nat → Hp → Option (Value × Hp) := (d_cost_cuts.LL k).1
noncomputable def d_cost_cuts.l1 (k : Nat) : Nat → Nat → Option Addr → Nat → Nat → Option Addr → Nat → Nat → Int → Int → List Nat → Hp → Option (Value × Hp) := (d_cost_cuts.LL k).2
theorem d_cost_cuts.l0_succ (k : Nat) : d_cost_cuts.l0 (k + 1) = d_cost_cuts.b0 k (d_cost_cuts.l0 k) (d_cost_cuts.l1 k) := rfl
theorem d_cost_cuts.l1_succ (k : Nat) : d_cost_cuts.l1 (k + 1) = d_cost_cuts.b1 k (d_cost_cuts.l0 k) (d_cost_cuts.l1 k) := rfl
noncomputable def d_cost_cuts.l0v (k : Nat) (vs : List Value) (mk : List Nat) (h : Hp) : Option (Value × Hp) := match vs with | [.int .i64 x53, .int .i64 x54, .pointer (some ⟨b55, o56, none⟩), .pointer (some ⟨b57, o58, none⟩), .slice a59 n60 c61, .slice a62 n63 c64, .int .i64 x65, .int .i64 x66] => d_cost_cuts.l0 k x53 x54 b55 o56 b57 o58 a59 n60 c61 a62 n63 c64 x65 x66 mk h | _ => none
noncomputable def d_cost_cuts.l1v (k : Nat) (vs : List Value) (mk : List Nat) (h : Hp) : Option (Value × Hp) := match vs with | [.pointer (some ⟨b87, o88, none⟩), .slice a89 n90 c91, .slice a92 n93 c94, .int .i64 x95, .int .i64 x96] => d_cost_cuts.l1 k b87 o88 a89 n90 c91 a92 n93 c94 x95 x96 mk h | _ => none
noncomputable def d_cost_cuts.L : List LEnt := [.lp [(1, .cell (.int .i64)), (2, .cell (.int .i64)), (4, .cell .ptr), (7, .cell .ptr), (9, .cell .slc), (18, .cell .slc), (19, .cell (.int .i64)), (20, .cell (.int .i64))] (d_cost_cuts.l0v), .lp [(7, .cell .ptr), (9, .cell .slc), (63, .cell .slc), (64, .cell (.int .i64)), (65, .cell (.int .i64))] (d_cost_cuts.l1v)]
noncomputable def d_cost_cuts.r (k : Nat) (x2 : Int) (a7 : Option Addr) (n8 : Nat) (c9 : Nat) (x14 : Int) (x15 : Int) (x17 : Int) (x22 : Int) (a27 : Option Addr) (n28 : Nat) (c29 : Nat) (a34 : Option Addr) (n35 : Nat) (c36 : Nat) (a41 : Option Addr) (n42 : Nat) (c43 : Nat) (h : Hp) : Option (Value × Hp) := lt (h.new (.row 0 [.int .i64 x2, .slice a7 n8 c9])) fun h48 => lt (h48.new (.row 0 [.int .i64 x17, .int .i64 x22, .slice a27 n28 c29, .slice a34 n35 c36, .slice a41 n42 c43])) fun h49 => (asI .i64 (rd h49 h.next 0)).bind fun x50 => ckB (decide (0 ≤ x50) && decide (x50 ≤ x50) && decide (x50 ≤ 1048576)) (lt (h49.new (.row 1 (repl [.bool false] (x50 : Int).toNat))) fun h51 => (asS (rd h51 h48.next (0 + 4))).bind fun s52 => d_cost_cuts.l0 k x14 x15 h.next 0 h48.next 0 (some ⟨h49.next, 0, none⟩) ((x50 : Int).toNat) ((x50 : Int).toNat) s52.a s52.n s52.c ((s52.n : Nat) : Int) 0 [] h51)
noncomputable def d_cost_cuts.v (k : Nat) (args : List Value) (h : Hp) : Option (Value × Hp) := castAL [.agg [.int .i64, .slc], .cell (.int .i64), .cell (.int .i64), .agg [.int .i64, .int .i64, .slc, .slc, .slc]] args fun vs => match vs with | [.agg ⟨[.int .i64 x2, .slice a7 n8 c9]⟩, .int .i64 x14, .int .i64 x15, .agg ⟨[.int .i64 x17, .int .i64 x22, .slice a27 n28 c29, .slice a34 n35 c36, .slice a41 n42 c43]⟩] => d_cost_cuts.r k x2 a7 n8 c9 x14 x15 x17 x22 a27 n28 c29 a34 n35 c36 a41 n42 c43 h | _ => none
theorem d_cost_cuts.l0_den (k : Nat) (x53 : Int) (x54 : Int) (b55 : Nat) (o56 : Nat) (b57 : Nat) (o58 : Nat) (a59 : Option Addr) (n60 : Nat) (c61 : Nat) (a62 : Option Addr) (n63 : Nat) (c64 : Nat) (x65 : Int) (x66 : Int) (mk : List Nat) (h : Hp) (G : Tr Value) : loopF' ((ctx E1 117 d_cost_cuts.hint (d_cost_cuts.tbl) d_cost_cuts.it (LPof (d_cost_cuts.L)) (YOof (d_cost_cuts.L))) k) Try.f122 pairK 0 ⟨[(1, .int .i64 x53), (2, .int .i64 x54), (4, .pointer (some ⟨b55, o56, none⟩)), (7, .pointer (some ⟨b57, o58, none⟩)), (9, .slice a59 n60 c61), (18, .slice a62 n63 c64), (19, .int .i64 x65), (20, .int .i64 x66)], G, mk⟩ h = d_cost_cuts.l0 (k + 1) x53 x54 b55 o56 b57 o58 a59 n60 c61 a62 n63 c64 x65 x66 mk h := by kernel_rfl
theorem d_cost_cuts.l1_den (k : Nat) (b87 : Nat) (o88 : Nat) (a89 : Option Addr) (n90 : Nat) (c91 : Nat) (a92 : Option Addr) (n93 : Nat) (c94 : Nat) (x95 : Int) (x96 : Int) (mk : List Nat) (h : Hp) (G : Tr Value) : loopF' ((ctx E1 117 d_cost_cuts.hint (d_cost_cuts.tbl) d_cost_cuts.it (LPof (d_cost_cuts.L)) (YOof (d_cost_cuts.L))) k) Try.f122 pairK 1 ⟨[(7, .pointer (some ⟨b87, o88, none⟩)), (9, .slice a89 n90 c91), (63, .slice a92 n93 c94), (64, .int .i64 x95), (65, .int .i64 x96)], G, mk⟩ h = d_cost_cuts.l1 (k + 1) b87 o88 a89 n90 c91 a92 n93 c94 x95 x96 mk h := by kernel_rfl
theorem d_cost_cuts.r_den (k : Nat) (x2 : Int) (a7 : Option Addr) (n8 : Nat) (c9 : Nat) (x14 : Int) (x15 : Int) (x17 : Int) (x22 : Int) (a27 : Option Addr) (n28 : Nat) (c29 : Nat) (a34 : Option Addr) (n35 : Nat) (c36 : Nat) (a41 : Option Addr) (n42 : Nat) (c43 : Nat) (h : Hp) : denF ((ctx E1 117 d_cost_cuts.hint (d_cost_cuts.tbl) d_cost_cuts.it (LPof (d_cost_cuts.L)) (YOof (d_cost_cuts.L))) k) Try.f122 [.agg #[.int .i64 x2, .slice a7 n8 c9], .int .i64 x14, .int .i64 x15, .agg #[.int .i64 x17, .int .i64 x22, .slice a27 n28 c29, .slice a34 n35 c36, .slice a41 n42 c43]] h pairK = d_cost_cuts.r k x2 a7 n8 c9 x14 x15 x17 x22 a27 n28 c29 a34 n35 c36 a41 n42 c43 h := by kernel_rfl
theorem d_cost_cuts.L_ok : ∀ i x, (d_cost_cuts.L)[i]? = some x → LOK (ctx E1 117 d_cost_cuts.hint (d_cost_cuts.tbl) d_cost_cuts.it (LPof (d_cost_cuts.L)) (YOof (d_cost_cuts.L))) (ctxY E1 117 d_cost_cuts.hint (d_cost_cuts.tbl)) Try.f122 (todoC d_cost_cuts.body []) i x := by
  refine LOK_cons (P := fun i x => LOK (ctx E1 117 d_cost_cuts.hint (d_cost_cuts.tbl) d_cost_cuts.it (LPof (d_cost_cuts.L)) (YOof (d_cost_cuts.L))) (ctxY E1 117 d_cost_cuts.hint (d_cost_cuts.tbl)) Try.f122 (todoC d_cost_cuts.body []) (i) x) ?_ ?_
  · refine ⟨by kernel_rfl, fun vs mk h ht => ?_, fun k vs mk h r ht hk G => ?_⟩
    · obtain ⟨v0, vs0, rfl, hv0, ht0⟩ := TySL_cons ht
      obtain ⟨x53, rfl⟩ := hv0
      obtain ⟨v1, vs1, rfl, hv1, ht1⟩ := TySL_cons ht0
      obtain ⟨x54, rfl⟩ := hv1
      obtain ⟨v2, vs2, rfl, hv2, ht2⟩ := TySL_cons ht1
      obtain ⟨b55, o56, rfl⟩ := hv2
      obtain ⟨v3, vs3, rfl, hv3, ht3⟩ := TySL_cons ht2
      obtain ⟨b57, o58, rfl⟩ := hv3
      obtain ⟨v4, vs4, rfl, hv4, ht4⟩ := TySL_cons ht3
      obtain ⟨a59, n60, c61, rfl⟩ := hv4
      obtain ⟨v5, vs5, rfl, hv5, ht5⟩ := TySL_cons ht4
      obtain ⟨a62, n63, c64, rfl⟩ := hv5
      obtain ⟨v6, vs6, rfl, hv6, ht6⟩ := TySL_cons ht5
      obtain ⟨x65, rfl⟩ := hv6
      obtain ⟨v7, vs7, rfl, hv7, ht7⟩ := TySL_cons ht6
      obtain ⟨x66, rfl⟩ := hv7
      obtain rfl := TySL_nil ht7
      rfl
    · obtain ⟨v0, vs0, rfl, hv0, ht0⟩ := TySL_cons ht
      obtain ⟨x53, rfl⟩ := hv0
      obtain ⟨v1, vs1, rfl, hv1, ht1⟩ := TySL_cons ht0
      obtain ⟨x54, rfl⟩ := hv1
      obtain ⟨v2, vs2, rfl, hv2, ht2⟩ := TySL_cons ht1
      obtain ⟨b55, o56, rfl⟩ := hv2
      obtain ⟨v3, vs3, rfl, hv3, ht3⟩ := TySL_cons ht2
      obtain ⟨b57, o58, rfl⟩ := hv3
      obtain ⟨v4, vs4, rfl, hv4, ht4⟩ := TySL_cons ht3
      obtain ⟨a59, n60, c61, rfl⟩ := hv4
      obtain ⟨v5, vs5, rfl, hv5, ht5⟩ := TySL_cons ht4
      obtain ⟨a62, n63, c64, rfl⟩ := hv5
      obtain ⟨v6, vs6, rfl, hv6, ht6⟩ := TySL_cons ht5
      obtain ⟨x65, rfl⟩ := hv6
      obtain ⟨v7, vs7, rfl, hv7, ht7⟩ := TySL_cons ht6
      obtain ⟨x66, rfl⟩ := hv7
      obtain rfl := TySL_nil ht7
      exact (d_cost_cuts.l0_den k x53 x54 b55 o56 b57 o58 a59 n60 c61 a62 n63 c64 x65 x66 mk h G).trans hk
  refine LOK_cons (P := fun i x => LOK (ctx E1 117 d_cost_cuts.hint (d_cost_cuts.tbl) d_cost_cuts.it (LPof (d_cost_cuts.L)) (YOof (d_cost_cuts.L))) (ctxY E1 117 d_cost_cuts.hint (d_cost_cuts.tbl)) Try.f122 (todoC d_cost_cuts.body []) (i + 1) x) ?_ ?_
  · refine ⟨by kernel_rfl, fun vs mk h ht => ?_, fun k vs mk h r ht hk G => ?_⟩
    · obtain ⟨v0, vs0, rfl, hv0, ht0⟩ := TySL_cons ht
      obtain ⟨b87, o88, rfl⟩ := hv0
      obtain ⟨v1, vs1, rfl, hv1, ht1⟩ := TySL_cons ht0
      obtain ⟨a89, n90, c91, rfl⟩ := hv1
      obtain ⟨v2, vs2, rfl, hv2, ht2⟩ := TySL_cons ht1
      obtain ⟨a92, n93, c94, rfl⟩ := hv2
      obtain ⟨v3, vs3, rfl, hv3, ht3⟩ := TySL_cons ht2
      obtain ⟨x95, rfl⟩ := hv3
      obtain ⟨v4, vs4, rfl, hv4, ht4⟩ := TySL_cons ht3
      obtain ⟨x96, rfl⟩ := hv4
      obtain rfl := TySL_nil ht4
      rfl
    · obtain ⟨v0, vs0, rfl, hv0, ht0⟩ := TySL_cons ht
      obtain ⟨b87, o88, rfl⟩ := hv0
      obtain ⟨v1, vs1, rfl, hv1, ht1⟩ := TySL_cons ht0
      obtain ⟨a89, n90, c91, rfl⟩ := hv1
      obtain ⟨v2, vs2, rfl, hv2, ht2⟩ := TySL_cons ht1
      obtain ⟨a92, n93, c94, rfl⟩ := hv2
      obtain ⟨v3, vs3, rfl, hv3, ht3⟩ := TySL_cons ht2
      obtain ⟨x95, rfl⟩ := hv3
      obtain ⟨v4, vs4, rfl, hv4, ht4⟩ := TySL_cons ht3
      obtain ⟨x96, rfl⟩ := hv4
      obtain rfl := TySL_nil ht4
      exact (d_cost_cuts.l1_den k b87 o88 a89 n90 c91 a92 n93 c94 x95 x96 mk h G).trans hk
  exact LOK_nil
theorem d_cost_cuts.snd {H : Pl → Prop} (hH : MonoH H) (k : Nat) : SndF E1 H 122 (d_cost_cuts.v k) := by
  intro args h v h1 hk
  obtain ⟨ht, hk⟩ := castAL_ok hk
  obtain ⟨v0, vs0, rfl, hv0, ht0⟩ := TyAL_cons ht
  obtain ⟨cs1, rfl, hv0c⟩ := hv0
  obtain ⟨w4, cs3, rfl, hw5, hc6⟩ := TyCL_cons hv0c
  obtain ⟨x2, rfl⟩ := hw5
  obtain ⟨w11, cs10, rfl, hw12, hc13⟩ := TyCL_cons hc6
  obtain ⟨a7, n8, c9, rfl⟩ := hw12
  obtain rfl := TyCL_nil hc13
  obtain ⟨v1, vs1, rfl, hv1, ht1⟩ := TyAL_cons ht0
  obtain ⟨x14, rfl⟩ := hv1
  obtain ⟨v2, vs2, rfl, hv2, ht2⟩ := TyAL_cons ht1
  obtain ⟨x15, rfl⟩ := hv2
  obtain ⟨v3, vs3, rfl, hv3, ht3⟩ := TyAL_cons ht2
  obtain ⟨cs16, rfl, hv3c⟩ := hv3
  obtain ⟨w19, cs18, rfl, hw20, hc21⟩ := TyCL_cons hv3c
  obtain ⟨x17, rfl⟩ := hw20
  obtain ⟨w24, cs23, rfl, hw25, hc26⟩ := TyCL_cons hc21
  obtain ⟨x22, rfl⟩ := hw25
  obtain ⟨w31, cs30, rfl, hw32, hc33⟩ := TyCL_cons hc26
  obtain ⟨a27, n28, c29, rfl⟩ := hw32
  obtain ⟨w38, cs37, rfl, hw39, hc40⟩ := TyCL_cons hc33
  obtain ⟨a34, n35, c36, rfl⟩ := hw39
  obtain ⟨w45, cs44, rfl, hw46, hc47⟩ := TyCL_cons hc40
  obtain ⟨a41, n42, c43, rfl⟩ := hw46
  obtain rfl := TyCL_nil hc47
  obtain rfl := TyAL_nil ht3
  refine fn_ok' (E := E1) (N := 117) (g := 122) (F := Try.f122) (hint := d_cost_cuts.hint) (tbl := d_cost_cuts.tbl) (tblY := d_cost_cuts.tbl) (itK := d_cost_cuts.it) (L := d_cost_cuts.L) (body := d_cost_cuts.body) (by kernel_rfl) (by kernel_rfl) (by kernel_rfl) hH ?_ ?_ ?_ d_cost_cuts.L_ok k (by kernel_rfl) ((d_cost_cuts.r_den k x2 a7 n8 c9 x14 x15 x17 x22 a27 n28 c29 a34 n35 c36 a41 n42 c43 h).trans hk)
  · intro k; exact noTbl_ok k
  · intro l' p' k; exact noTbl_ok k
  · intro k; exact noIt_ok k

/-! ### weirgate/cost.Accept: function 60 -/
noncomputable def d_cost_Accept.body : Code := match Try.f60.body with | some b => b | none => .skip
noncomputable def d_cost_Accept.hint : Nat → Option (Nat × List Ck) := fun d => none
noncomputable def d_cost_Accept.tbl {R : Type} : TblTy R := addF 120 [.cell .bool] d_cost_flows.v (addF 121 [.cell .bool] d_cost_priced.v (addF 122 [.cell .bool] d_cost_cuts.v (noTbl)))
noncomputable def d_cost_Accept.it {R : Type} : ItTy R := noIt
noncomputable def d_cost_Accept.L : List LEnt := []
noncomputable def d_cost_Accept.r (k : Nat) (x2 : Int) (a7 : Option Addr) (n8 : Nat) (c9 : Nat) (x14 : Int) (x15 : Int) (x16 : Int) (x18 : Int) (x23 : Int) (a28 : Option Addr) (n29 : Nat) (c30 : Nat) (a35 : Option Addr) (n36 : Nat) (c37 : Nat) (a42 : Option Addr) (n43 : Nat) (c44 : Nat) (h : Hp) : Option (Value × Hp) := lt (h.new (.row 0 [.int .i64 x2, .slice a7 n8 c9])) fun h49 => lt (h49.new (.row 0 [.int .i64 x18, .int .i64 x23, .slice a28 n29 c30, .slice a35 n36 c37, .slice a42 n43 c44])) fun h50 => (asI .i64 (rd h50 h49.next 0)).bind fun x51 => bc (!(decide (x51 < 0))) ((asI .i64 (rd h50 h49.next 0)).bind fun x52 => bc (!(decide (x52 > x16))) ((asI .i64 (rd h50 h.next 0)).bind fun x53 => (asS (rd h50 h.next (0 + 1))).bind fun s54 => (asI .i64 (rd h50 h49.next 0)).bind fun x55 => (asI .i64 (rd h50 h49.next (0 + 1))).bind fun x56 => (asS (rd h50 h49.next (0 + 2))).bind fun s57 => (asS (rd h50 h49.next (0 + 3))).bind fun s58 => (asS (rd h50 h49.next (0 + 4))).bind fun s59 => (d_cost_flows.r k x53 s54.a s54.n s54.c x14 x15 x55 x56 s57.a s57.n s57.c s58.a s58.n s58.c s59.a s59.n s59.c h50).bind fun q60 => (asB (some q60.1)).bind fun x61 => bc (!(!x61)) ((asI .i64 (rd q60.2 h.next 0)).bind fun x62 => (asS (rd q60.2 h.next (0 + 1))).bind fun s63 => (asI .i64 (rd q60.2 h49.next 0)).bind fun x64 => (asI .i64 (rd q60.2 h49.next (0 + 1))).bind fun x65 => (asS (rd q60.2 h49.next (0 + 2))).bind fun s66 => (asS (rd q60.2 h49.next (0 + 3))).bind fun s67 => (asS (rd q60.2 h49.next (0 + 4))).bind fun s68 => (d_cost_priced.r k x62 s63.a s63.n s63.c x14 x64 x65 s66.a s66.n s66.c s67.a s67.n s67.c s68.a s68.n s68.c q60.2).bind fun q69 => (asB (some q69.1)).bind fun x70 => bc (!x70) (some (.int .i64 110, q69.2)) ((asI .i64 (rd q69.2 h49.next 0)).bind fun x71 => bc (x71 == x16) ((asS (rd q69.2 h49.next (0 + 4))).bind fun s72 => bc (!(((s72.n : Nat) : Int) == 0)) ((asI .i64 (rd q69.2 h49.next 0)).bind fun x73 => bc (decide (x73 < x16)) ((asI .i64 (rd q69.2 h.next 0)).bind fun x74 => (asS (rd q69.2 h.next (0 + 1))).bind fun s75 => (asI .i64 (rd q69.2 h49.next 0)).bind fun x76 => (asI .i64 (rd q69.2 h49.next (0 + 1))).bind fun x77 => (asS (rd q69.2 h49.next (0 + 2))).bind fun s78 => (asS (rd q69.2 h49.next (0 + 3))).bind fun s79 => (asS (rd q69.2 h49.next (0 + 4))).bind fun s80 => (d_cost_cuts.r k x74 s75.a s75.n s75.c x14 x15 x76 x77 s78.a s78.n s78.c s79.a s79.n s79.c s80.a s80.n s80.c q69.2).bind fun q81 => (asB (some q81.1)).bind fun x82 => bc x82 (some (.int .i64 0, q81.2)) (some (.int .i64 110, q81.2))) (some (.int .i64 110, q69.2))) (some (.int .i64 0, q69.2))) ((asI .i64 (rd q69.2 h49.next 0)).bind fun x83 => bc (decide (x83 < x16)) ((asI .i64 (rd q69.2 h.next 0)).bind fun x84 => (asS (rd q69.2 h.next (0 + 1))).bind fun s85 => (asI .i64 (rd q69.2 h49.next 0)).bind fun x86 => (asI .i64 (rd q69.2 h49.next (0 + 1))).bind fun x87 => (asS (rd q69.2 h49.next (0 + 2))).bind fun s88 => (asS (rd q69.2 h49.next (0 + 3))).bind fun s89 => (asS (rd q69.2 h49.next (0 + 4))).bind fun s90 => (d_cost_cuts.r k x84 s85.a s85.n s85.c x14 x15 x86 x87 s88.a s88.n s88.c s89.a s89.n s89.c s90.a s90.n s90.c q69.2).bind fun q91 => (asB (some q91.1)).bind fun x92 => bc x92 (some (.int .i64 0, q91.2)) (some (.int .i64 110, q91.2))) (some (.int .i64 110, q69.2))))) (some (.int .i64 110, q60.2))) (some (.int .i64 110, h50))) (some (.int .i64 110, h50))
noncomputable def d_cost_Accept.v (k : Nat) (args : List Value) (h : Hp) : Option (Value × Hp) := castAL [.agg [.int .i64, .slc], .cell (.int .i64), .cell (.int .i64), .cell (.int .i64), .agg [.int .i64, .int .i64, .slc, .slc, .slc]] args fun vs => match vs with | [.agg ⟨[.int .i64 x2, .slice a7 n8 c9]⟩, .int .i64 x14, .int .i64 x15, .int .i64 x16, .agg ⟨[.int .i64 x18, .int .i64 x23, .slice a28 n29 c30, .slice a35 n36 c37, .slice a42 n43 c44]⟩] => d_cost_Accept.r k x2 a7 n8 c9 x14 x15 x16 x18 x23 a28 n29 c30 a35 n36 c37 a42 n43 c44 h | _ => none
theorem d_cost_Accept.r_den (k : Nat) (x2 : Int) (a7 : Option Addr) (n8 : Nat) (c9 : Nat) (x14 : Int) (x15 : Int) (x16 : Int) (x18 : Int) (x23 : Int) (a28 : Option Addr) (n29 : Nat) (c30 : Nat) (a35 : Option Addr) (n36 : Nat) (c37 : Nat) (a42 : Option Addr) (n43 : Nat) (c44 : Nat) (h : Hp) : denF ((ctx E1 60 d_cost_Accept.hint (d_cost_Accept.tbl) d_cost_Accept.it (LPof (d_cost_Accept.L)) (YOof (d_cost_Accept.L))) k) Try.f60 [.agg #[.int .i64 x2, .slice a7 n8 c9], .int .i64 x14, .int .i64 x15, .int .i64 x16, .agg #[.int .i64 x18, .int .i64 x23, .slice a28 n29 c30, .slice a35 n36 c37, .slice a42 n43 c44]] h pairK = d_cost_Accept.r k x2 a7 n8 c9 x14 x15 x16 x18 x23 a28 n29 c30 a35 n36 c37 a42 n43 c44 h := by kernel_rfl
theorem d_cost_Accept.L_ok : ∀ i x, (d_cost_Accept.L)[i]? = some x → LOK (ctx E1 60 d_cost_Accept.hint (d_cost_Accept.tbl) d_cost_Accept.it (LPof (d_cost_Accept.L)) (YOof (d_cost_Accept.L))) (ctxY E1 60 d_cost_Accept.hint (d_cost_Accept.tbl)) Try.f60 (todoC d_cost_Accept.body []) i x := by
  exact LOK_nil
theorem d_cost_Accept.snd {H : Pl → Prop} (hH : MonoH H) (k : Nat) : SndF E1 H 60 (d_cost_Accept.v k) := by
  intro args h v h1 hk
  obtain ⟨ht, hk⟩ := castAL_ok hk
  obtain ⟨v0, vs0, rfl, hv0, ht0⟩ := TyAL_cons ht
  obtain ⟨cs1, rfl, hv0c⟩ := hv0
  obtain ⟨w4, cs3, rfl, hw5, hc6⟩ := TyCL_cons hv0c
  obtain ⟨x2, rfl⟩ := hw5
  obtain ⟨w11, cs10, rfl, hw12, hc13⟩ := TyCL_cons hc6
  obtain ⟨a7, n8, c9, rfl⟩ := hw12
  obtain rfl := TyCL_nil hc13
  obtain ⟨v1, vs1, rfl, hv1, ht1⟩ := TyAL_cons ht0
  obtain ⟨x14, rfl⟩ := hv1
  obtain ⟨v2, vs2, rfl, hv2, ht2⟩ := TyAL_cons ht1
  obtain ⟨x15, rfl⟩ := hv2
  obtain ⟨v3, vs3, rfl, hv3, ht3⟩ := TyAL_cons ht2
  obtain ⟨x16, rfl⟩ := hv3
  obtain ⟨v4, vs4, rfl, hv4, ht4⟩ := TyAL_cons ht3
  obtain ⟨cs17, rfl, hv4c⟩ := hv4
  obtain ⟨w20, cs19, rfl, hw21, hc22⟩ := TyCL_cons hv4c
  obtain ⟨x18, rfl⟩ := hw21
  obtain ⟨w25, cs24, rfl, hw26, hc27⟩ := TyCL_cons hc22
  obtain ⟨x23, rfl⟩ := hw26
  obtain ⟨w32, cs31, rfl, hw33, hc34⟩ := TyCL_cons hc27
  obtain ⟨a28, n29, c30, rfl⟩ := hw33
  obtain ⟨w39, cs38, rfl, hw40, hc41⟩ := TyCL_cons hc34
  obtain ⟨a35, n36, c37, rfl⟩ := hw40
  obtain ⟨w46, cs45, rfl, hw47, hc48⟩ := TyCL_cons hc41
  obtain ⟨a42, n43, c44, rfl⟩ := hw47
  obtain rfl := TyCL_nil hc48
  obtain rfl := TyAL_nil ht4
  refine fn_ok' (E := E1) (N := 60) (g := 60) (F := Try.f60) (hint := d_cost_Accept.hint) (tbl := d_cost_Accept.tbl) (tblY := d_cost_Accept.tbl) (itK := d_cost_Accept.it) (L := d_cost_Accept.L) (body := d_cost_Accept.body) (by kernel_rfl) (by kernel_rfl) (by kernel_rfl) hH ?_ ?_ ?_ d_cost_Accept.L_ok k (by kernel_rfl) ((d_cost_Accept.r_den k x2 a7 n8 c9 x14 x15 x16 x18 x23 a28 n29 c30 a35 n36 c37 a42 n43 c44 h).trans hk)
  · intro k; exact addF_ok (d_cost_flows.snd hH k) (addF_ok (d_cost_priced.snd hH k) (addF_ok (d_cost_cuts.snd hH k) (noTbl_ok k)))
  · intro l' p' k; exact addF_ok (d_cost_flows.snd (hH.pay _ _) k) (addF_ok (d_cost_priced.snd (hH.pay _ _) k) (addF_ok (d_cost_cuts.snd (hH.pay _ _) k) (noTbl_ok k)))
  · intro k; exact noIt_ok k

/-! ### weirgate/cost.begin: function 112 -/
noncomputable def d_cost_begin.body : Code := match Try.f112.body with | some b => b | none => .skip
noncomputable def d_cost_begin.hint : Nat → Option (Nat × List Ck) := fun d => none
noncomputable def d_cost_begin.tbl {R : Type} : TblTy R := noTbl
noncomputable def d_cost_begin.it {R : Type} : ItTy R := noIt
noncomputable def d_cost_begin.b0 (k : Nat) (L0 : Nat → Nat → Option Addr → Nat → Nat → Int → Int → List Nat → Hp → Option (Value × Hp)) (b30 : Nat) (o31 : Nat) (a32 : Option Addr) (n33 : Nat) (c34 : Nat) (x35 : Int) (x36 : Int) (mk : List Nat) (h : Hp) : Option (Value × Hp) := bc (decide (x36 < x35)) ((ixA a32 n33 4 x36).bind fun p37 => (asI .i64 (rd h p37.1 p37.2)).bind fun x38 => (asI .i64 (rd h p37.1 (p37.2 + 1))).bind fun x39 => (asI .i64 (rd h p37.1 (p37.2 + 2))).bind fun x40 => (asI .i64 (rd h p37.1 (p37.2 + 3))).bind fun x41 => lt (h.new (.row 0 [.int .i64 0, .int .i64 0, .int .i64 0, .int .i64 0])) fun h42 => (wr h42 h.next 0 [.int .i64 x38, .int .i64 x39, .int .i64 x40, .int .i64 x41]).bind fun h43 => (asS (rd h43 b30 (o31 + 3))).bind fun s44 => ckB (Nat.ble (b30 + 1) h43.next) ((asI .i64 (rd h43 h.next 0)).bind fun x45 => ckB (Nat.ble (h.next + 1) h43.next) ((asS (rd h43 b30 (o31 + 3))).bind fun s46 => ckB (Nat.ble (b30 + 1) h43.next) ((asI .i64 (rd h43 h.next 0)).bind fun x47 => ckB (Nat.ble (h.next + 1) h43.next) ((ixA s46.a s46.n 1 x47).bind fun p48 => (asS (rd h43 p48.1 p48.2)).bind fun s49 => ckB (Nat.ble (p48.1 + 1) h43.next) (lt h43.bump fun h50 => lt (h50.set h43.next (.row 1 [.int .i64 x36])) fun h51 => (appS h51 1 s49.a s49.n s49.c (some ⟨h43.next, 0, none⟩) 1).bind fun q52 => ckE (q52.2.g h.next) (h43.g h.next) (ckE (q52.2.g b30) (h43.g b30) ((ixA s44.a s44.n 1 x45).bind fun p53 => (wr q52.2 p53.1 p53.2 [.slice q52.1.a q52.1.n q52.1.c]).bind fun h54 => (asS (rd h54 b30 (o31 + 3))).bind fun s55 => ckB (Nat.ble (b30 + 1) h54.next) ((asI .i64 (rd h54 h.next (0 + 1))).bind fun x56 => ckB (Nat.ble (h.next + 1) h54.next) ((asS (rd h54 b30 (o31 + 3))).bind fun s57 => ckB (Nat.ble (b30 + 1) h54.next) ((asI .i64 (rd h54 h.next (0 + 1))).bind fun x58 => ckB (Nat.ble (h.next + 1) h54.next) ((ixA s57.a s57.n 1 x58).bind fun p59 => (asS (rd h54 p59.1 p59.2)).bind fun s60 => ckB (Nat.ble (p59.1 + 1) h54.next) (lt h54.bump fun h61 => lt (h61.set h54.next (.row 1 [.int .i64 x36])) fun h62 => (appS h62 1 s60.a s60.n s60.c (some ⟨h54.next, 0, none⟩) 1).bind fun q63 => ckE (q63.2.g h.next) (h54.g h.next) (ckE (q63.2.g b30) (h54.g b30) ((ixA s55.a s55.n 1 x56).bind fun p64 => (wr q63.2 p64.1 p64.2 [.slice q63.1.a q63.1.n q63.1.c]).bind fun h65 => L0 b30 o31 a32 n33 c34 x35 (w64 (x36 + 1)) mk h65))))))))))))))) ((takeM h mk).bind fun h66 => some (.pointer (some ⟨b30, o31, none⟩), h66))
noncomputable def d_cost_begin.LL : Nat → (Nat → Nat → Option Addr → Nat → Nat → Int → Int → List Nat → Hp → Option (Value × Hp))
  | 0 => fun _ _ _ _ _ _ _ _ _ => none
  | k + 1 => d_cost_begin.b0 k (d_cost_begin.LL k)
noncomputable def d_cost_begin.l0 (k : Nat) : Nat → Nat → Option Addr → Nat → Nat → Int → Int → List Nat → Hp → Option (Value × Hp) := (d_cost_begin.LL k)
theorem d_cost_begin.l0_succ (k : Nat) : d_cost_begin.l0 (k + 1) = d_cost_begin.b0 k (d_cost_begin.l0 k) := rfl
noncomputable def d_cost_begin.l0v (k : Nat) (vs : List Value) (mk : List Nat) (h : Hp) : Option (Value × Hp) := match vs with | [.pointer (some ⟨b30, o31, none⟩), .slice a32 n33 c34, .int .i64 x35, .int .i64 x36] => d_cost_begin.l0 k b30 o31 a32 n33 c34 x35 x36 mk h | _ => none
noncomputable def d_cost_begin.L : List LEnt := [.lp [(5, .cell .ptr), (19, .cell .slc), (20, .cell (.int .i64)), (21, .cell (.int .i64))] (d_cost_begin.l0v)]
noncomputable def d_cost_begin.r (k : Nat) (x2 : Int) (a7 : Option Addr) (n8 : Nat) (c9 : Nat) (a14 : Option Addr) (n15 : Nat) (c16 : Nat) (h : Hp) : Option (Value × Hp) := lt (h.new (.row 0 [.int .i64 x2, .slice a7 n8 c9])) fun h17 => (asI .i64 (rd h17 h.next 0)).bind fun x18 => (asS (rd h17 h.next (0 + 1))).bind fun s19 => ckB (Nat.ble (h.next + 1) h17.next) ((asI .i64 (rd h17 h.next 0)).bind fun x20 => ckB (Nat.ble (h.next + 1) h17.next) (ckB (decide (0 ≤ x20) && decide (x20 ≤ x20) && decide (x20 ≤ 1048576)) (lt h17.bump fun h21 => (asI .i64 (rd h21 h.next 0)).bind fun x22 => ckB (Nat.ble (h.next + 1) h17.next) (ckB (decide (0 ≤ x22) && decide (x22 ≤ x22) && decide (x22 ≤ 1048576)) (lt h21.bump fun h23 => lt ((h23.set h21.next (.row 1 (repl [.int .i64 0] (x22 : Int).toNat))).set h17.next (.row 1 (repl [.slice none 0 0] (x20 : Int).toNat))) fun h24 => lt ((h23.set h21.next (.row 1 (repl [.int .i64 0] (x22 : Int).toNat))).set h17.next (.row 1 (repl [.slice none 0 0] (x20 : Int).toNat))) fun h25 => lt h23.bump fun h26 => lt (((h26.set h23.next (.row 0 [.int .i64 x18, .slice s19.a s19.n s19.c, .slice a14 n15 c16, .slice (some ⟨h17.next, 0, none⟩) ((x20 : Int).toNat) ((x20 : Int).toNat), .slice (some ⟨h21.next, 0, none⟩) ((x22 : Int).toNat) ((x22 : Int).toNat)])).set h21.next (.row 1 (repl [.int .i64 0] (x22 : Int).toNat))).set h17.next (.row 1 (repl [.slice none 0 0] (x20 : Int).toNat))) fun h27 => lt (((h26.set h23.next (.row 0 [.int .i64 x18, .slice s19.a s19.n s19.c, .slice a14 n15 c16, .slice (some ⟨h17.next, 0, none⟩) ((x20 : Int).toNat) ((x20 : Int).toNat), .slice (some ⟨h21.next, 0, none⟩) ((x22 : Int).toNat) ((x22 : Int).toNat)])).set h21.next (.row 1 (repl [.int .i64 0] (x22 : Int).toNat))).set h17.next (.row 1 (repl [.slice none 0 0] (x20 : Int).toNat))) fun h28 => (asS (rd h28 h.next (0 + 1))).bind fun s29 => d_cost_begin.l0 k h23.next 0 s29.a s29.n s29.c ((s29.n : Nat) : Int) 0 [] h28)))))
noncomputable def d_cost_begin.v (k : Nat) (args : List Value) (h : Hp) : Option (Value × Hp) := castAL [.agg [.int .i64, .slc], .cell .slc] args fun vs => match vs with | [.agg ⟨[.int .i64 x2, .slice a7 n8 c9]⟩, .slice a14 n15 c16] => d_cost_begin.r k x2 a7 n8 c9 a14 n15 c16 h | _ => none
theorem d_cost_begin.l0_den (k : Nat) (b30 : Nat) (o31 : Nat) (a32 : Option Addr) (n33 : Nat) (c34 : Nat) (x35 : Int) (x36 : Int) (mk : List Nat) (h : Hp) (G : Tr Value) : loopF' ((ctx E1 64 d_cost_begin.hint (d_cost_begin.tbl) d_cost_begin.it (LPof (d_cost_begin.L)) (YOof (d_cost_begin.L))) k) Try.f112 pairK 0 ⟨[(5, .pointer (some ⟨b30, o31, none⟩)), (19, .slice a32 n33 c34), (20, .int .i64 x35), (21, .int .i64 x36)], G, mk⟩ h = d_cost_begin.l0 (k + 1) b30 o31 a32 n33 c34 x35 x36 mk h := by kernel_rfl
theorem d_cost_begin.r_den (k : Nat) (x2 : Int) (a7 : Option Addr) (n8 : Nat) (c9 : Nat) (a14 : Option Addr) (n15 : Nat) (c16 : Nat) (h : Hp) : denF ((ctx E1 64 d_cost_begin.hint (d_cost_begin.tbl) d_cost_begin.it (LPof (d_cost_begin.L)) (YOof (d_cost_begin.L))) k) Try.f112 [.agg #[.int .i64 x2, .slice a7 n8 c9], .slice a14 n15 c16] h pairK = d_cost_begin.r k x2 a7 n8 c9 a14 n15 c16 h := by kernel_rfl
theorem d_cost_begin.L_ok : ∀ i x, (d_cost_begin.L)[i]? = some x → LOK (ctx E1 64 d_cost_begin.hint (d_cost_begin.tbl) d_cost_begin.it (LPof (d_cost_begin.L)) (YOof (d_cost_begin.L))) (ctxY E1 64 d_cost_begin.hint (d_cost_begin.tbl)) Try.f112 (todoC d_cost_begin.body []) i x := by
  refine LOK_cons (P := fun i x => LOK (ctx E1 64 d_cost_begin.hint (d_cost_begin.tbl) d_cost_begin.it (LPof (d_cost_begin.L)) (YOof (d_cost_begin.L))) (ctxY E1 64 d_cost_begin.hint (d_cost_begin.tbl)) Try.f112 (todoC d_cost_begin.body []) (i) x) ?_ ?_
  · refine ⟨by kernel_rfl, fun vs mk h ht => ?_, fun k vs mk h r ht hk G => ?_⟩
    · obtain ⟨v0, vs0, rfl, hv0, ht0⟩ := TySL_cons ht
      obtain ⟨b30, o31, rfl⟩ := hv0
      obtain ⟨v1, vs1, rfl, hv1, ht1⟩ := TySL_cons ht0
      obtain ⟨a32, n33, c34, rfl⟩ := hv1
      obtain ⟨v2, vs2, rfl, hv2, ht2⟩ := TySL_cons ht1
      obtain ⟨x35, rfl⟩ := hv2
      obtain ⟨v3, vs3, rfl, hv3, ht3⟩ := TySL_cons ht2
      obtain ⟨x36, rfl⟩ := hv3
      obtain rfl := TySL_nil ht3
      rfl
    · obtain ⟨v0, vs0, rfl, hv0, ht0⟩ := TySL_cons ht
      obtain ⟨b30, o31, rfl⟩ := hv0
      obtain ⟨v1, vs1, rfl, hv1, ht1⟩ := TySL_cons ht0
      obtain ⟨a32, n33, c34, rfl⟩ := hv1
      obtain ⟨v2, vs2, rfl, hv2, ht2⟩ := TySL_cons ht1
      obtain ⟨x35, rfl⟩ := hv2
      obtain ⟨v3, vs3, rfl, hv3, ht3⟩ := TySL_cons ht2
      obtain ⟨x36, rfl⟩ := hv3
      obtain rfl := TySL_nil ht3
      exact (d_cost_begin.l0_den k b30 o31 a32 n33 c34 x35 x36 mk h G).trans hk
  exact LOK_nil
theorem d_cost_begin.snd {H : Pl → Prop} (hH : MonoH H) (k : Nat) : SndF E1 H 112 (d_cost_begin.v k) := by
  intro args h v h1 hk
  obtain ⟨ht, hk⟩ := castAL_ok hk
  obtain ⟨v0, vs0, rfl, hv0, ht0⟩ := TyAL_cons ht
  obtain ⟨cs1, rfl, hv0c⟩ := hv0
  obtain ⟨w4, cs3, rfl, hw5, hc6⟩ := TyCL_cons hv0c
  obtain ⟨x2, rfl⟩ := hw5
  obtain ⟨w11, cs10, rfl, hw12, hc13⟩ := TyCL_cons hc6
  obtain ⟨a7, n8, c9, rfl⟩ := hw12
  obtain rfl := TyCL_nil hc13
  obtain ⟨v1, vs1, rfl, hv1, ht1⟩ := TyAL_cons ht0
  obtain ⟨a14, n15, c16, rfl⟩ := hv1
  obtain rfl := TyAL_nil ht1
  refine fn_ok' (E := E1) (N := 64) (g := 112) (F := Try.f112) (hint := d_cost_begin.hint) (tbl := d_cost_begin.tbl) (tblY := d_cost_begin.tbl) (itK := d_cost_begin.it) (L := d_cost_begin.L) (body := d_cost_begin.body) (by kernel_rfl) (by kernel_rfl) (by kernel_rfl) hH ?_ ?_ ?_ d_cost_begin.L_ok k (by kernel_rfl) ((d_cost_begin.r_den k x2 a7 n8 c9 a14 n15 c16 h).trans hk)
  · intro k; exact noTbl_ok k
  · intro l' p' k; exact noTbl_ok k
  · intro k; exact noIt_ok k

/-! ### math/bits.Mul64: function 152 -/
noncomputable def d_math_bits_Mul64.body : Code := match Try.f152.body with | some b => b | none => .skip
noncomputable def d_math_bits_Mul64.hint : Nat → Option (Nat × List Ck) := fun d => none
noncomputable def d_math_bits_Mul64.tbl {R : Type} : TblTy R := noTbl
noncomputable def d_math_bits_Mul64.it {R : Type} : ItTy R := noIt
noncomputable def d_math_bits_Mul64.L : List LEnt := []
noncomputable def d_math_bits_Mul64.r (k : Nat) (x1 : Int) (x2 : Int) (h : Hp) : Option (Value × Hp) := some (.tuple #[.int .u64 (IntKind.wrap .u64 ((IntKind.wrap .u64 ((IntKind.wrap .u64 ((Int.fdiv x1 (2 ^ (min (32 : Int).toNat (IntKind.bits .u64)))) * (Int.fdiv x2 (2 ^ (min (32 : Int).toNat (IntKind.bits .u64)))))) + (Int.fdiv (IntKind.wrap .u64 ((IntKind.wrap .u64 ((Int.fdiv x1 (2 ^ (min (32 : Int).toNat (IntKind.bits .u64)))) * (IntKind.wrap .u64 (((BitVec.ofInt (IntKind.bits .u64) x2 &&& BitVec.ofInt (IntKind.bits .u64) 4294967295).toNat : Nat) : Int)))) + (Int.fdiv (IntKind.wrap .u64 ((IntKind.wrap .u64 (((BitVec.ofInt (IntKind.bits .u64) x1 &&& BitVec.ofInt (IntKind.bits .u64) 4294967295).toNat : Nat) : Int)) * (IntKind.wrap .u64 (((BitVec.ofInt (IntKind.bits .u64) x2 &&& BitVec.ofInt (IntKind.bits .u64) 4294967295).toNat : Nat) : Int)))) (2 ^ (min (32 : Int).toNat (IntKind.bits .u64)))))) (2 ^ (min (32 : Int).toNat (IntKind.bits .u64)))))) + (Int.fdiv (IntKind.wrap .u64 ((IntKind.wrap .u64 (((BitVec.ofInt (IntKind.bits .u64) (IntKind.wrap .u64 ((IntKind.wrap .u64 ((Int.fdiv x1 (2 ^ (min (32 : Int).toNat (IntKind.bits .u64)))) * (IntKind.wrap .u64 (((BitVec.ofInt (IntKind.bits .u64) x2 &&& BitVec.ofInt (IntKind.bits .u64) 4294967295).toNat : Nat) : Int)))) + (Int.fdiv (IntKind.wrap .u64 ((IntKind.wrap .u64 (((BitVec.ofInt (IntKind.bits .u64) x1 &&& BitVec.ofInt (IntKind.bits .u64) 4294967295).toNat : Nat) : Int)) * (IntKind.wrap .u64 (((BitVec.ofInt (IntKind.bits .u64) x2 &&& BitVec.ofInt (IntKind.bits .u64) 4294967295).toNat : Nat) : Int)))) (2 ^ (min (32 : Int).toNat (IntKind.bits .u64)))))) &&& BitVec.ofInt (IntKind.bits .u64) 4294967295).toNat : Nat) : Int)) + (IntKind.wrap .u64 ((IntKind.wrap .u64 (((BitVec.ofInt (IntKind.bits .u64) x1 &&& BitVec.ofInt (IntKind.bits .u64) 4294967295).toNat : Nat) : Int)) * (Int.fdiv x2 (2 ^ (min (32 : Int).toNat (IntKind.bits .u64)))))))) (2 ^ (min (32 : Int).toNat (IntKind.bits .u64)))))), .int .u64 (IntKind.wrap .u64 (x1 * x2))], h)
noncomputable def d_math_bits_Mul64.v (k : Nat) (args : List Value) (h : Hp) : Option (Value × Hp) := castAL [.cell (.int .u64), .cell (.int .u64)] args fun vs => match vs with | [.int .u64 x1, .int .u64 x2] => d_math_bits_Mul64.r k x1 x2 h | _ => none
theorem d_math_bits_Mul64.r_den (k : Nat) (x1 : Int) (x2 : Int) (h : Hp) : denF ((ctx E1 51 d_math_bits_Mul64.hint (d_math_bits_Mul64.tbl) d_math_bits_Mul64.it (LPof (d_math_bits_Mul64.L)) (YOof (d_math_bits_Mul64.L))) k) Try.f152 [.int .u64 x1, .int .u64 x2] h pairK = d_math_bits_Mul64.r k x1 x2 h := by kernel_rfl
theorem d_math_bits_Mul64.L_ok : ∀ i x, (d_math_bits_Mul64.L)[i]? = some x → LOK (ctx E1 51 d_math_bits_Mul64.hint (d_math_bits_Mul64.tbl) d_math_bits_Mul64.it (LPof (d_math_bits_Mul64.L)) (YOof (d_math_bits_Mul64.L))) (ctxY E1 51 d_math_bits_Mul64.hint (d_math_bits_Mul64.tbl)) Try.f152 (todoC d_math_bits_Mul64.body []) i x := by
  exact LOK_nil
theorem d_math_bits_Mul64.snd {H : Pl → Prop} (hH : MonoH H) (k : Nat) : SndF E1 H 152 (d_math_bits_Mul64.v k) := by
  intro args h v h1 hk
  obtain ⟨ht, hk⟩ := castAL_ok hk
  obtain ⟨v0, vs0, rfl, hv0, ht0⟩ := TyAL_cons ht
  obtain ⟨x1, rfl⟩ := hv0
  obtain ⟨v1, vs1, rfl, hv1, ht1⟩ := TyAL_cons ht0
  obtain ⟨x2, rfl⟩ := hv1
  obtain rfl := TyAL_nil ht1
  refine fn_ok' (E := E1) (N := 51) (g := 152) (F := Try.f152) (hint := d_math_bits_Mul64.hint) (tbl := d_math_bits_Mul64.tbl) (tblY := d_math_bits_Mul64.tbl) (itK := d_math_bits_Mul64.it) (L := d_math_bits_Mul64.L) (body := d_math_bits_Mul64.body) (by kernel_rfl) (by kernel_rfl) (by kernel_rfl) hH ?_ ?_ ?_ d_math_bits_Mul64.L_ok k (by kernel_rfl) ((d_math_bits_Mul64.r_den k x1 x2 h).trans hk)
  · intro k; exact noTbl_ok k
  · intro l' p' k; exact noTbl_ok k
  · intro k; exact noIt_ok k

/-! ### math/bits.Mul: function 136 -/
noncomputable def d_math_bits_Mul.body : Code := match Try.f136.body with | some b => b | none => .skip
noncomputable def d_math_bits_Mul.hint : Nat → Option (Nat × List Ck) := fun d => none
noncomputable def d_math_bits_Mul.tbl {R : Type} : TblTy R := addF 152 [.cell (.int .u64), .cell (.int .u64)] d_math_bits_Mul64.v (noTbl)
noncomputable def d_math_bits_Mul.it {R : Type} : ItTy R := noIt
noncomputable def d_math_bits_Mul.L : List LEnt := []
noncomputable def d_math_bits_Mul.r (k : Nat) (x1 : Int) (x2 : Int) (h : Hp) : Option (Value × Hp) := (d_math_bits_Mul64.r k x1 x2 h).bind fun q3 => (asTup 2 q3.1).bind fun cs4 => (asI .u64 (nth cs4 0)).bind fun x5 => (asI .u64 (nth cs4 1)).bind fun x6 => some (.tuple #[.int .u64 x5, .int .u64 x6], q3.2)
noncomputable def d_math_bits_Mul.v (k : Nat) (args : List Value) (h : Hp) : Option (Value × Hp) := castAL [.cell (.int .u64), .cell (.int .u64)] args fun vs => match vs with | [.int .u64 x1, .int .u64 x2] => d_math_bits_Mul.r k x1 x2 h | _ => none
theorem d_math_bits_Mul.r_den (k : Nat) (x1 : Int) (x2 : Int) (h : Hp) : denF ((ctx E1 30 d_math_bits_Mul.hint (d_math_bits_Mul.tbl) d_math_bits_Mul.it (LPof (d_math_bits_Mul.L)) (YOof (d_math_bits_Mul.L))) k) Try.f136 [.int .u64 x1, .int .u64 x2] h pairK = d_math_bits_Mul.r k x1 x2 h := by kernel_rfl
theorem d_math_bits_Mul.L_ok : ∀ i x, (d_math_bits_Mul.L)[i]? = some x → LOK (ctx E1 30 d_math_bits_Mul.hint (d_math_bits_Mul.tbl) d_math_bits_Mul.it (LPof (d_math_bits_Mul.L)) (YOof (d_math_bits_Mul.L))) (ctxY E1 30 d_math_bits_Mul.hint (d_math_bits_Mul.tbl)) Try.f136 (todoC d_math_bits_Mul.body []) i x := by
  exact LOK_nil
theorem d_math_bits_Mul.snd {H : Pl → Prop} (hH : MonoH H) (k : Nat) : SndF E1 H 136 (d_math_bits_Mul.v k) := by
  intro args h v h1 hk
  obtain ⟨ht, hk⟩ := castAL_ok hk
  obtain ⟨v0, vs0, rfl, hv0, ht0⟩ := TyAL_cons ht
  obtain ⟨x1, rfl⟩ := hv0
  obtain ⟨v1, vs1, rfl, hv1, ht1⟩ := TyAL_cons ht0
  obtain ⟨x2, rfl⟩ := hv1
  obtain rfl := TyAL_nil ht1
  refine fn_ok' (E := E1) (N := 30) (g := 136) (F := Try.f136) (hint := d_math_bits_Mul.hint) (tbl := d_math_bits_Mul.tbl) (tblY := d_math_bits_Mul.tbl) (itK := d_math_bits_Mul.it) (L := d_math_bits_Mul.L) (body := d_math_bits_Mul.body) (by kernel_rfl) (by kernel_rfl) (by kernel_rfl) hH ?_ ?_ ?_ d_math_bits_Mul.L_ok k (by kernel_rfl) ((d_math_bits_Mul.r_den k x1 x2 h).trans hk)
  · intro k; exact addF_ok (d_math_bits_Mul64.snd hH k) (noTbl_ok k)
  · intro l' p' k; exact addF_ok (d_math_bits_Mul64.snd (hH.pay _ _) k) (noTbl_ok k)
  · intro k; exact noIt_ok k

/-! ### slices.Repeat[[]int,int]: function 140 -/
noncomputable def d_slices_Repeat_int_int.body : Code := match Try.f140.body with | some b => b | none => .skip
noncomputable def d_slices_Repeat_int_int.hint : Nat → Option (Nat × List Ck) := fun d => none
noncomputable def d_slices_Repeat_int_int.tbl {R : Type} : TblTy R := addF 136 [.cell (.int .u64), .cell (.int .u64)] d_math_bits_Mul.v (noTbl)
noncomputable def d_slices_Repeat_int_int.it {R : Type} : ItTy R := noIt
noncomputable def d_slices_Repeat_int_int.b0 (k : Nat) (L0 : Option Addr → Nat → Nat → Int → List Nat → Hp → Option (Value × Hp)) (a11 : Option Addr) (n12 : Nat) (c13 : Nat) (x14 : Int) (mk : List Nat) (h : Hp) : Option (Value × Hp) := bc (decide (x14 < ((n12 : Nat) : Int))) ((slA a11 c13 1 x14 ((n12 : Nat) : Int)).bind fun s15 => (slA a11 c13 1 0 x14).bind fun s16 => (copyS h 1 s15.a s15.n s16.a s16.n).bind fun q17 => L0 a11 n12 c13 (w64 (x14 + ((q17.1 : Nat) : Int))) mk q17.2) ((takeM h mk).bind fun h18 => some (.slice a11 n12 c13, h18))
noncomputable def d_slices_Repeat_int_int.LL : Nat → (Option Addr → Nat → Nat → Int → List Nat → Hp → Option (Value × Hp))
  | 0 => fun _ _ _ _ _ _ => none
  | k + 1 => d_slices_Repeat_int_int.b0 k (d_slices_Repeat_int_int.LL k)
noncomputable def d_slices_Repeat_int_int.l0 (k : Nat) : Option Addr → Nat → Nat → Int → List Nat → Hp → Option (Value × Hp) := (d_slices_Repeat_int_int.LL k)
theorem d_slices_Repeat_int_int.l0_succ (k : Nat) : d_slices_Repeat_int_int.l0 (k + 1) = d_slices_Repeat_int_int.b0 k (d_slices_Repeat_int_int.l0 k) := rfl
noncomputable def d_slices_Repeat_int_int.l0v (k : Nat) (vs : List Value) (mk : List Nat) (h : Hp) : Option (Value × Hp) := match vs with | [.slice a11 n12 c13, .int .i64 x14] => d_slices_Repeat_int_int.l0 k a11 n12 c13 x14 mk h | _ => none
noncomputable def d_slices_Repeat_int_int.L : List LEnt := [.lp [(7, .cell .slc), (8, .cell (.int .i64))] (d_slices_Repeat_int_int.l0v)]
noncomputable def d_slices_Repeat_int_int.r (k : Nat) (a1 : Option Addr) (n2 : Nat) (c3 : Nat) (x4 : Int) (h : Hp) : Option (Value × Hp) := bc (decide (x4 < 0)) (none) ((d_math_bits_Mul.r k (IntKind.wrap .u64 ((n2 : Nat) : Int)) (IntKind.wrap .u64 x4) h).bind fun q5 => (asTup 2 q5.1).bind fun cs6 => (asI .u64 (nth cs6 0)).bind fun x7 => (asI .u64 (nth cs6 1)).bind fun x8 => bc (!(decide (x7 > 0))) (bc (decide (x8 > 9223372036854775807)) (none) (ckB (decide (0 ≤ (IntKind.wrap .i64 x8)) && decide ((IntKind.wrap .i64 x8) ≤ (IntKind.wrap .i64 x8)) && decide ((IntKind.wrap .i64 x8) ≤ 1048576)) (lt (q5.2.new (.row 1 (repl [.int .i64 0] ((IntKind.wrap .i64 x8) : Int).toNat))) fun h9 => (copyS h9 1 (some ⟨q5.2.next, 0, none⟩) (((IntKind.wrap .i64 x8) : Int).toNat) a1 n2).bind fun q10 => d_slices_Repeat_int_int.l0 k (some ⟨q5.2.next, 0, none⟩) (((IntKind.wrap .i64 x8) : Int).toNat) (((IntKind.wrap .i64 x8) : Int).toNat) ((q10.1 : Nat) : Int) [] q10.2))) (none))
noncomputable def d_slices_Repeat_int_int.v (k : Nat) (args : List Value) (h : Hp) : Option (Value × Hp) := castAL [.cell .slc, .cell (.int .i64)] args fun vs => match vs with | [.slice a1 n2 c3, .int .i64 x4] => d_slices_Repeat_int_int.r k a1 n2 c3 x4 h | _ => none
theorem d_slices_Repeat_int_int.l0_den (k : Nat) (a11 : Option Addr) (n12 : Nat) (c13 : Nat) (x14 : Int) (mk : List Nat) (h : Hp) (G : Tr Value) : loopF' ((ctx E1 48 d_slices_Repeat_int_int.hint (d_slices_Repeat_int_int.tbl) d_slices_Repeat_int_int.it (LPof (d_slices_Repeat_int_int.L)) (YOof (d_slices_Repeat_int_int.L))) k) Try.f140 pairK 0 ⟨[(7, .slice a11 n12 c13), (8, .int .i64 x14)], G, mk⟩ h = d_slices_Repeat_int_int.l0 (k + 1) a11 n12 c13 x14 mk h := by kernel_rfl
theorem d_slices_Repeat_int_int.r_den (k : Nat) (a1 : Option Addr) (n2 : Nat) (c3 : Nat) (x4 : Int) (h : Hp) : denF ((ctx E1 48 d_slices_Repeat_int_int.hint (d_slices_Repeat_int_int.tbl) d_slices_Repeat_int_int.it (LPof (d_slices_Repeat_int_int.L)) (YOof (d_slices_Repeat_int_int.L))) k) Try.f140 [.slice a1 n2 c3, .int .i64 x4] h pairK = d_slices_Repeat_int_int.r k a1 n2 c3 x4 h := by kernel_rfl
theorem d_slices_Repeat_int_int.L_ok : ∀ i x, (d_slices_Repeat_int_int.L)[i]? = some x → LOK (ctx E1 48 d_slices_Repeat_int_int.hint (d_slices_Repeat_int_int.tbl) d_slices_Repeat_int_int.it (LPof (d_slices_Repeat_int_int.L)) (YOof (d_slices_Repeat_int_int.L))) (ctxY E1 48 d_slices_Repeat_int_int.hint (d_slices_Repeat_int_int.tbl)) Try.f140 (todoC d_slices_Repeat_int_int.body []) i x := by
  refine LOK_cons (P := fun i x => LOK (ctx E1 48 d_slices_Repeat_int_int.hint (d_slices_Repeat_int_int.tbl) d_slices_Repeat_int_int.it (LPof (d_slices_Repeat_int_int.L)) (YOof (d_slices_Repeat_int_int.L))) (ctxY E1 48 d_slices_Repeat_int_int.hint (d_slices_Repeat_int_int.tbl)) Try.f140 (todoC d_slices_Repeat_int_int.body []) (i) x) ?_ ?_
  · refine ⟨by kernel_rfl, fun vs mk h ht => ?_, fun k vs mk h r ht hk G => ?_⟩
    · obtain ⟨v0, vs0, rfl, hv0, ht0⟩ := TySL_cons ht
      obtain ⟨a11, n12, c13, rfl⟩ := hv0
      obtain ⟨v1, vs1, rfl, hv1, ht1⟩ := TySL_cons ht0
      obtain ⟨x14, rfl⟩ := hv1
      obtain rfl := TySL_nil ht1
      rfl
    · obtain ⟨v0, vs0, rfl, hv0, ht0⟩ := TySL_cons ht
      obtain ⟨a11, n12, c13, rfl⟩ := hv0
      obtain ⟨v1, vs1, rfl, hv1, ht1⟩ := TySL_cons ht0
      obtain ⟨x14, rfl⟩ := hv1
      obtain rfl := TySL_nil ht1
      exact (d_slices_Repeat_int_int.l0_den k a11 n12 c13 x14 mk h G).trans hk
  exact LOK_nil
theorem d_slices_Repeat_int_int.snd {H : Pl → Prop} (hH : MonoH H) (k : Nat) : SndF E1 H 140 (d_slices_Repeat_int_int.v k) := by
  intro args h v h1 hk
  obtain ⟨ht, hk⟩ := castAL_ok hk
  obtain ⟨v0, vs0, rfl, hv0, ht0⟩ := TyAL_cons ht
  obtain ⟨a1, n2, c3, rfl⟩ := hv0
  obtain ⟨v1, vs1, rfl, hv1, ht1⟩ := TyAL_cons ht0
  obtain ⟨x4, rfl⟩ := hv1
  obtain rfl := TyAL_nil ht1
  refine fn_ok' (E := E1) (N := 48) (g := 140) (F := Try.f140) (hint := d_slices_Repeat_int_int.hint) (tbl := d_slices_Repeat_int_int.tbl) (tblY := d_slices_Repeat_int_int.tbl) (itK := d_slices_Repeat_int_int.it) (L := d_slices_Repeat_int_int.L) (body := d_slices_Repeat_int_int.body) (by kernel_rfl) (by kernel_rfl) (by kernel_rfl) hH ?_ ?_ ?_ d_slices_Repeat_int_int.L_ok k (by kernel_rfl) ((d_slices_Repeat_int_int.r_den k a1 n2 c3 x4 h).trans hk)
  · intro k; exact addF_ok (d_math_bits_Mul.snd hH k) (noTbl_ok k)
  · intro l' p' k; exact addF_ok (d_math_bits_Mul.snd (hH.pay _ _) k) (noTbl_ok k)
  · intro k; exact noIt_ok k

/-! ### (*weirgate/cost.heap[int, int]).swap: function 153 -/
noncomputable def d_cost_heap_swap.body : Code := match Try.f153.body with | some b => b | none => .skip
noncomputable def d_cost_heap_swap.hint : Nat → Option (Nat × List Ck) := fun d => none
noncomputable def d_cost_heap_swap.tbl {R : Type} : TblTy R := noTbl
noncomputable def d_cost_heap_swap.it {R : Type} : ItTy R := noIt
noncomputable def d_cost_heap_swap.L : List LEnt := []
noncomputable def d_cost_heap_swap.r (k : Nat) (b1 : Nat) (o2 : Nat) (x3 : Int) (x4 : Int) (h : Hp) : Option (Value × Hp) := (asS (rd h b1 o2)).bind fun s5 => ckB (Nat.ble (b1 + 1) h.next) ((asS (rd h b1 o2)).bind fun s6 => ckB (Nat.ble (b1 + 1) h.next) ((asS (rd h b1 o2)).bind fun s7 => ckB (Nat.ble (b1 + 1) h.next) ((ixA s7.a s7.n 1 x4).bind fun p8 => (asI .i64 (rd h p8.1 p8.2)).bind fun x9 => ckB (Nat.ble (p8.1 + 1) h.next) ((asS (rd h b1 o2)).bind fun s10 => ckB (Nat.ble (b1 + 1) h.next) ((ixA s10.a s10.n 1 x3).bind fun p11 => (asI .i64 (rd h p11.1 p11.2)).bind fun x12 => ckB (Nat.ble (p11.1 + 1) h.next) ((ixA s5.a s5.n 1 x3).bind fun p13 => (wr h p13.1 p13.2 [.int .i64 x9]).bind fun h14 => (ixA s6.a s6.n 1 x4).bind fun p15 => (wr h14 p15.1 p15.2 [.int .i64 x12]).bind fun h16 => (asS (rd h16 b1 (o2 + 1))).bind fun s17 => ckB (Nat.ble (b1 + 1) h16.next) ((asS (rd h16 b1 (o2 + 1))).bind fun s18 => ckB (Nat.ble (b1 + 1) h16.next) ((asS (rd h16 b1 (o2 + 1))).bind fun s19 => ckB (Nat.ble (b1 + 1) h16.next) ((ixA s19.a s19.n 1 x4).bind fun p20 => (asI .i64 (rd h16 p20.1 p20.2)).bind fun x21 => ckB (Nat.ble (p20.1 + 1) h16.next) ((asS (rd h16 b1 (o2 + 1))).bind fun s22 => ckB (Nat.ble (b1 + 1) h16.next) ((ixA s22.a s22.n 1 x3).bind fun p23 => (asI .i64 (rd h16 p23.1 p23.2)).bind fun x24 => ckB (Nat.ble (p23.1 + 1) h16.next) ((ixA s17.a s17.n 1 x3).bind fun p25 => (wr h16 p25.1 p25.2 [.int .i64 x21]).bind fun h26 => (ixA s18.a s18.n 1 x4).bind fun p27 => (wr h26 p27.1 p27.2 [.int .i64 x24]).bind fun h28 => some (.tuple #[], h28)))))))))))))
noncomputable def d_cost_heap_swap.v (k : Nat) (args : List Value) (h : Hp) : Option (Value × Hp) := castAL [.cell .ptr, .cell (.int .i64), .cell (.int .i64)] args fun vs => match vs with | [.pointer (some ⟨b1, o2, none⟩), .int .i64 x3, .int .i64 x4] => d_cost_heap_swap.r k b1 o2 x3 x4 h | _ => none
theorem d_cost_heap_swap.r_den (k : Nat) (b1 : Nat) (o2 : Nat) (x3 : Int) (x4 : Int) (h : Hp) : denF ((ctx E1 58 d_cost_heap_swap.hint (d_cost_heap_swap.tbl) d_cost_heap_swap.it (LPof (d_cost_heap_swap.L)) (YOof (d_cost_heap_swap.L))) k) Try.f153 [.pointer (some ⟨b1, o2, none⟩), .int .i64 x3, .int .i64 x4] h pairK = d_cost_heap_swap.r k b1 o2 x3 x4 h := by kernel_rfl
theorem d_cost_heap_swap.L_ok : ∀ i x, (d_cost_heap_swap.L)[i]? = some x → LOK (ctx E1 58 d_cost_heap_swap.hint (d_cost_heap_swap.tbl) d_cost_heap_swap.it (LPof (d_cost_heap_swap.L)) (YOof (d_cost_heap_swap.L))) (ctxY E1 58 d_cost_heap_swap.hint (d_cost_heap_swap.tbl)) Try.f153 (todoC d_cost_heap_swap.body []) i x := by
  exact LOK_nil
theorem d_cost_heap_swap.snd {H : Pl → Prop} (hH : MonoH H) (k : Nat) : SndF E1 H 153 (d_cost_heap_swap.v k) := by
  intro args h v h1 hk
  obtain ⟨ht, hk⟩ := castAL_ok hk
  obtain ⟨v0, vs0, rfl, hv0, ht0⟩ := TyAL_cons ht
  obtain ⟨b1, o2, rfl⟩ := hv0
  obtain ⟨v1, vs1, rfl, hv1, ht1⟩ := TyAL_cons ht0
  obtain ⟨x3, rfl⟩ := hv1
  obtain ⟨v2, vs2, rfl, hv2, ht2⟩ := TyAL_cons ht1
  obtain ⟨x4, rfl⟩ := hv2
  obtain rfl := TyAL_nil ht2
  refine fn_ok' (E := E1) (N := 58) (g := 153) (F := Try.f153) (hint := d_cost_heap_swap.hint) (tbl := d_cost_heap_swap.tbl) (tblY := d_cost_heap_swap.tbl) (itK := d_cost_heap_swap.it) (L := d_cost_heap_swap.L) (body := d_cost_heap_swap.body) (by kernel_rfl) (by kernel_rfl) (by kernel_rfl) hH ?_ ?_ ?_ d_cost_heap_swap.L_ok k (by kernel_rfl) ((d_cost_heap_swap.r_den k b1 o2 x3 x4 h).trans hk)
  · intro k; exact noTbl_ok k
  · intro l' p' k; exact noTbl_ok k
  · intro k; exact noIt_ok k

/-! ### (*weirgate/cost.heap[int, int]).push: function 141 -/
noncomputable def d_cost_heap_push.body : Code := match Try.f141.body with | some b => b | none => .skip
noncomputable def d_cost_heap_push.hint : Nat → Option (Nat × List Ck) := fun d => none
noncomputable def d_cost_heap_push.tbl {R : Type} : TblTy R := addF 153 [] d_cost_heap_swap.v (noTbl)
noncomputable def d_cost_heap_push.it {R : Type} : ItTy R := noIt
noncomputable def d_cost_heap_push.b0 (k : Nat) (L0 : Nat → Nat → Int → List Nat → Hp → Option (Value × Hp)) (b16 : Nat) (o17 : Nat) (x18 : Int) (mk : List Nat) (h : Hp) : Option (Value × Hp) := bc (decide (x18 > 0)) ((asS (rd h b16 o17)).bind fun s19 => ckB (Nat.ble (b16 + 1) h.next) ((ixA s19.a s19.n 1 x18).bind fun p20 => (asI .i64 (rd h p20.1 p20.2)).bind fun x21 => ckB (Nat.ble (p20.1 + 1) h.next) ((asS (rd h b16 o17)).bind fun s22 => ckB (Nat.ble (b16 + 1) h.next) ((ixA s22.a s22.n 1 (w64 (Int.tdiv (w64 (x18 - 1)) 2))).bind fun p23 => (asI .i64 (rd h p23.1 p23.2)).bind fun x24 => ckB (Nat.ble (p23.1 + 1) h.next) (bc (decide (x21 < x24)) ((d_cost_heap_swap.r k b16 o17 x18 (w64 (Int.tdiv (w64 (x18 - 1)) 2)) h).bind fun q25 => (asTup 0 q25.1).bind fun _ => L0 b16 o17 (w64 (Int.tdiv (w64 (x18 - 1)) 2)) mk q25.2) ((takeM h mk).bind fun h26 => some (.tuple #[], h26))))))) ((takeM h mk).bind fun h27 => some (.tuple #[], h27))
noncomputable def d_cost_heap_push.LL : Nat → (Nat → Nat → Int → List Nat → Hp → Option (Value × Hp))
  | 0 => fun _ _ _ _ _ => none
  | k + 1 => d_cost_heap_push.b0 k (d_cost_heap_push.LL k)
noncomputable def d_cost_heap_push.l0 (k : Nat) : Nat → Nat → Int → List Nat → Hp → Option (Value × Hp) := (d_cost_heap_push.LL k)
theorem d_cost_heap_push.l0_succ (k : Nat) : d_cost_heap_push.l0 (k + 1) = d_cost_heap_push.b0 k (d_cost_heap_push.l0 k) := rfl
noncomputable def d_cost_heap_push.l0v (k : Nat) (vs : List Value) (mk : List Nat) (h : Hp) : Option (Value × Hp) := match vs with | [.pointer (some ⟨b16, o17, none⟩), .int .i64 x18] => d_cost_heap_push.l0 k b16 o17 x18 mk h | _ => none
noncomputable def d_cost_heap_push.L : List LEnt := [.lp [(0, .cell .ptr), (6, .cell (.int .i64))] (d_cost_heap_push.l0v)]
noncomputable def d_cost_heap_push.r (k : Nat) (b1 : Nat) (o2 : Nat) (x3 : Int) (x4 : Int) (h : Hp) : Option (Value × Hp) := (asS (rd h b1 o2)).bind fun s5 => ckB (Nat.ble (b1 + 1) h.next) (lt h.bump fun h6 => lt (h6.set h.next (.row 1 [.int .i64 x3])) fun h7 => (appS h7 1 s5.a s5.n s5.c (some ⟨h.next, 0, none⟩) 1).bind fun q8 => (asS (rd q8.2 b1 (o2 + 1))).bind fun s9 => ckB (Nat.ble (b1 + 1) h.next) (ckE (h6.g b1) (q8.2.g b1) (lt q8.2.bump fun h10 => lt (h10.set q8.2.next (.row 1 [.int .i64 x4])) fun h11 => (appS h11 1 s9.a s9.n s9.c (some ⟨q8.2.next, 0, none⟩) 1).bind fun q12 => (wr q12.2 b1 o2 [.slice q8.1.a q8.1.n q8.1.c]).bind fun h13 => (wr h13 b1 (o2 + 1) [.slice q12.1.a q12.1.n q12.1.c]).bind fun h14 => (asS (rd h14 b1 o2)).bind fun s15 => d_cost_heap_push.l0 k b1 o2 (w64 (((s15.n : Nat) : Int) - 1)) [] h14)))
noncomputable def d_cost_heap_push.v (k : Nat) (args : List Value) (h : Hp) : Option (Value × Hp) := castAL [.cell .ptr, .cell (.int .i64), .cell (.int .i64)] args fun vs => match vs with | [.pointer (some ⟨b1, o2, none⟩), .int .i64 x3, .int .i64 x4] => d_cost_heap_push.r k b1 o2 x3 x4 h | _ => none
theorem d_cost_heap_push.l0_den (k : Nat) (b16 : Nat) (o17 : Nat) (x18 : Int) (mk : List Nat) (h : Hp) (G : Tr Value) : loopF' ((ctx E1 63 d_cost_heap_push.hint (d_cost_heap_push.tbl) d_cost_heap_push.it (LPof (d_cost_heap_push.L)) (YOof (d_cost_heap_push.L))) k) Try.f141 pairK 0 ⟨[(0, .pointer (some ⟨b16, o17, none⟩)), (6, .int .i64 x18)], G, mk⟩ h = d_cost_heap_push.l0 (k + 1) b16 o17 x18 mk h := by kernel_rfl
theorem d_cost_heap_push.r_den (k : Nat) (b1 : Nat) (o2 : Nat) (x3 : Int) (x4 : Int) (h : Hp) : denF ((ctx E1 63 d_cost_heap_push.hint (d_cost_heap_push.tbl) d_cost_heap_push.it (LPof (d_cost_heap_push.L)) (YOof (d_cost_heap_push.L))) k) Try.f141 [.pointer (some ⟨b1, o2, none⟩), .int .i64 x3, .int .i64 x4] h pairK = d_cost_heap_push.r k b1 o2 x3 x4 h := by kernel_rfl
theorem d_cost_heap_push.L_ok : ∀ i x, (d_cost_heap_push.L)[i]? = some x → LOK (ctx E1 63 d_cost_heap_push.hint (d_cost_heap_push.tbl) d_cost_heap_push.it (LPof (d_cost_heap_push.L)) (YOof (d_cost_heap_push.L))) (ctxY E1 63 d_cost_heap_push.hint (d_cost_heap_push.tbl)) Try.f141 (todoC d_cost_heap_push.body []) i x := by
  refine LOK_cons (P := fun i x => LOK (ctx E1 63 d_cost_heap_push.hint (d_cost_heap_push.tbl) d_cost_heap_push.it (LPof (d_cost_heap_push.L)) (YOof (d_cost_heap_push.L))) (ctxY E1 63 d_cost_heap_push.hint (d_cost_heap_push.tbl)) Try.f141 (todoC d_cost_heap_push.body []) (i) x) ?_ ?_
  · refine ⟨by kernel_rfl, fun vs mk h ht => ?_, fun k vs mk h r ht hk G => ?_⟩
    · obtain ⟨v0, vs0, rfl, hv0, ht0⟩ := TySL_cons ht
      obtain ⟨b16, o17, rfl⟩ := hv0
      obtain ⟨v1, vs1, rfl, hv1, ht1⟩ := TySL_cons ht0
      obtain ⟨x18, rfl⟩ := hv1
      obtain rfl := TySL_nil ht1
      rfl
    · obtain ⟨v0, vs0, rfl, hv0, ht0⟩ := TySL_cons ht
      obtain ⟨b16, o17, rfl⟩ := hv0
      obtain ⟨v1, vs1, rfl, hv1, ht1⟩ := TySL_cons ht0
      obtain ⟨x18, rfl⟩ := hv1
      obtain rfl := TySL_nil ht1
      exact (d_cost_heap_push.l0_den k b16 o17 x18 mk h G).trans hk
  exact LOK_nil
theorem d_cost_heap_push.snd {H : Pl → Prop} (hH : MonoH H) (k : Nat) : SndF E1 H 141 (d_cost_heap_push.v k) := by
  intro args h v h1 hk
  obtain ⟨ht, hk⟩ := castAL_ok hk
  obtain ⟨v0, vs0, rfl, hv0, ht0⟩ := TyAL_cons ht
  obtain ⟨b1, o2, rfl⟩ := hv0
  obtain ⟨v1, vs1, rfl, hv1, ht1⟩ := TyAL_cons ht0
  obtain ⟨x3, rfl⟩ := hv1
  obtain ⟨v2, vs2, rfl, hv2, ht2⟩ := TyAL_cons ht1
  obtain ⟨x4, rfl⟩ := hv2
  obtain rfl := TyAL_nil ht2
  refine fn_ok' (E := E1) (N := 63) (g := 141) (F := Try.f141) (hint := d_cost_heap_push.hint) (tbl := d_cost_heap_push.tbl) (tblY := d_cost_heap_push.tbl) (itK := d_cost_heap_push.it) (L := d_cost_heap_push.L) (body := d_cost_heap_push.body) (by kernel_rfl) (by kernel_rfl) (by kernel_rfl) hH ?_ ?_ ?_ d_cost_heap_push.L_ok k (by kernel_rfl) ((d_cost_heap_push.r_den k b1 o2 x3 x4 h).trans hk)
  · intro k; exact addF_ok (d_cost_heap_swap.snd hH k) (noTbl_ok k)
  · intro l' p' k; exact addF_ok (d_cost_heap_swap.snd (hH.pay _ _) k) (noTbl_ok k)
  · intro k; exact noIt_ok k
end Go.Proofs.Ytgikimegikelkaa.Dn
