/- Functions of the program, told over a heap, with their proofs against the machine of lists and tries (printed by dprint.py). -/
import Derived.Test.YtgikimegikelkaaAbE
import Derived.Test.YtgikimegikelkaaAbDen8
import Derived.Test.YtgikimegikelkaaDn5
namespace Go.Proofs.Ytgikimegikelkaa.Dn
open Go Go.Proofs.Ytgikimegikelkaa.Ab Go.Proofs.Ytgikimegikelkaa.AbT Go.Proofs
set_option linter.unusedVariables false
set_option linter.unusedSimpArgs false
set_option maxRecDepth 100000
/-! ### weirgate/weirgateref11.Cheapest: function 58 -/
noncomputable def d_ref11_Cheapest.body : Code := match Try.f58.body with | some b => b | none => .skip
noncomputable def d_ref11_Cheapest.hint : Nat → Option (Nat × List Ck) := fun d => none
noncomputable def d_ref11_Cheapest.tbl {R : Type} : TblTy R := addF 116 [.agg [.slc, .slc]] d_ref11_Ways.v (addF 117 [.cell (.int .i64)] d_ref11_far.v (addF 71 [.cell (.int .i64)] d_ref11_Total.v (noTbl)))
noncomputable def d_ref11_Cheapest.it {R : Type} : ItTy R := noIt
noncomputable def d_ref11_Cheapest.b0 (k : Nat) (L0 : Int → Int → Int → Nat → Nat → Nat → Nat → Option Addr → Nat → Nat → Int → List Nat → Hp → Option (Value × Hp)) (L1 : Int → Int → Int → Nat → Nat → Nat → Nat → Option Addr → Nat → Nat → Int → Nat → Nat → Int → Int → List Nat → Hp → Option (Value × Hp)) (L2 : Int → Int → Int → Nat → Nat → Nat → Nat → Option Addr → Nat → Nat → Int → Nat → Nat → Int → Int → List Nat → Hp → Option (Value × Hp)) (x21 : Int) (x22 : Int) (x23 : Int) (b24 : Nat) (o25 : Nat) (b26 : Nat) (o27 : Nat) (a28 : Option Addr) (n29 : Nat) (c30 : Nat) (x31 : Int) (mk : List Nat) (h : Hp) : Option (Value × Hp) := bc (decide (x31 < x23)) ((asI .i64 (rd h b24 o25)).bind fun x32 => (asS (rd h b24 (o25 + 1))).bind fun s33 => (d_ref11_Ways.r k x32 s33.a s33.n s33.c x21 a28 n29 c30 h).bind fun q34 => (asA 2 (some q34.1)).bind fun cs35 => (asS0 (nth cs35 0)).bind fun s36 => (asS0 (nth cs35 1)).bind fun s37 => lt (q34.2.new (.row 0 [.slice none 0 0, .slice none 0 0])) fun h38 => (wr h38 q34.2.next 0 [.slice s36.a s36.n s36.c, .slice s37.a s37.n s37.c]).bind fun h39 => (asS (rd h39 q34.2.next 0)).bind fun s40 => ckB (Nat.ble (q34.2.next + 1) h39.next) ((ixA s40.a s40.n 1 x22).bind fun p41 => (asI .i64 (rd h39 p41.1 p41.2)).bind fun x42 => ckB (Nat.ble (p41.1 + 1) h39.next) ((d_ref11_far.r k  h39).bind fun q43 => (asI .i64 (some q43.1)).bind fun x44 => ckE (q43.2.g p41.1) (h39.g p41.1) (ckE (q43.2.g q34.2.next) (h39.g q34.2.next) (bc (x42 == x44) ((asI .i64 (rd q43.2 b24 o25)).bind fun x45 => (asS (rd q43.2 b24 (o25 + 1))).bind fun s46 => (d_ref11_Total.r k x45 s46.a s46.n s46.c a28 n29 c30 q43.2).bind fun q47 => (asI .i64 (some q47.1)).bind fun x48 => (wr q47.2 b26 o27 [.int .i64 x31, .int .i64 x48, .slice a28 n29 c30, .slice none 0 0, .slice none 0 0]).bind fun h49 => (takeM h49 mk).bind fun h50 => (asI .i64 (rd h50 b26 o27)).bind fun x51 => (asI .i64 (rd h50 b26 (o27 + 1))).bind fun x52 => (asS (rd h50 b26 (o27 + 2))).bind fun s53 => (asS (rd h50 b26 (o27 + 3))).bind fun s54 => (asS (rd h50 b26 (o27 + 4))).bind fun s55 => some (.agg #[.int .i64 x51, .int .i64 x52, .slice s53.a s53.n s53.c, .slice s54.a s54.n s54.c, .slice s55.a s55.n s55.c], h50)) (L1 x21 x22 x23 b24 o25 b26 o27 a28 n29 c30 x31 q34.2.next 0 (w64 (x23 - x31)) x22 mk q43.2)))))) ((asI .i64 (rd h b24 o25)).bind fun x56 => (asS (rd h b24 (o25 + 1))).bind fun s57 => (d_ref11_Total.r k x56 s57.a s57.n s57.c a28 n29 c30 h).bind fun q58 => (asI .i64 (some q58.1)).bind fun x59 => (wr q58.2 b26 o27 [.int .i64 x31, .int .i64 x59, .slice a28 n29 c30, .slice none 0 0, .slice none 0 0]).bind fun h60 => (takeM h60 mk).bind fun h61 => (asI .i64 (rd h61 b26 o27)).bind fun x62 => (asI .i64 (rd h61 b26 (o27 + 1))).bind fun x63 => (asS (rd h61 b26 (o27 + 2))).bind fun s64 => (asS (rd h61 b26 (o27 + 3))).bind fun s65 => (asS (rd h61 b26 (o27 + 4))).bind fun s66 => some (.agg #[.int .i64 x62, .int .i64 x63, .slice s64.a s64.n s64.c, .slice s65.a s65.n s65.c, .slice s66.a s66.n s66.c], h61))
noncomputable def d_ref11_Cheapest.b1 (k : Nat) (L0 : Int → Int → Int → Nat → Nat → Nat → Nat → Option Addr → Nat → Nat → Int → List Nat → Hp → Option (Value × Hp)) (L1 : Int → Int → Int → Nat → Nat → Nat → Nat → Option Addr → Nat → Nat → Int → Nat → Nat → Int → Int → List Nat → Hp → Option (Value × Hp)) (L2 : Int → Int → Int → Nat → Nat → Nat → Nat → Option Addr → Nat → Nat → Int → Nat → Nat → Int → Int → List Nat → Hp → Option (Value × Hp)) (x67 : Int) (x68 : Int) (x69 : Int) (b70 : Nat) (o71 : Nat) (b72 : Nat) (o73 : Nat) (a74 : Option Addr) (n75 : Nat) (c76 : Nat) (x77 : Int) (b78 : Nat) (o79 : Nat) (x80 : Int) (x81 : Int) (mk : List Nat) (h : Hp) : Option (Value × Hp) := bc (!(x81 == x67)) ((asS (rd h b78 (o79 + 1))).bind fun s82 => (ixA s82.a s82.n 1 x81).bind fun p83 => (asI .i64 (rd h p83.1 p83.2)).bind fun x84 => bc (decide (x84 > 0)) ((asS (rd h b70 (o71 + 1))).bind fun s85 => ckB (Nat.ble (b70 + 1) h.next) ((ixA s85.a s85.n 4 (w64 (x84 - 1))).bind fun p86 => (asI .i64 (rd h p86.1 (p86.2 + 2))).bind fun x87 => ckB (Nat.ble (p86.1 + 1) h.next) ((ixA a74 n75 1 (w64 (x84 - 1))).bind fun p88 => (asI .i64 (rd h p88.1 p88.2)).bind fun x89 => ckB (Nat.ble (p88.1 + 1) h.next) ((asS (rd h b70 (o71 + 1))).bind fun s90 => (ixA s90.a s90.n 4 (w64 (x84 - 1))).bind fun p91 => (asI .i64 (rd h p91.1 p91.2)).bind fun x92 => L1 x67 x68 x69 b70 o71 b72 o73 a74 n75 c76 x77 b78 o79 (mnI x80 (w64 (x87 - x89))) x92 mk h)))) ((ixA a74 n75 1 (w64 ((w64 (0 - x84)) - 1))).bind fun p93 => (asI .i64 (rd h p93.1 p93.2)).bind fun x94 => (asS (rd h b70 (o71 + 1))).bind fun s95 => (ixA s95.a s95.n 4 (w64 ((w64 (0 - x84)) - 1))).bind fun p96 => (asI .i64 (rd h p96.1 (p96.2 + 1))).bind fun x97 => L1 x67 x68 x69 b70 o71 b72 o73 a74 n75 c76 x77 b78 o79 (mnI x80 x94) x97 mk h)) (L2 x67 x68 x69 b70 o71 b72 o73 a74 n75 c76 x77 b78 o79 x80 x68 mk h)
noncomputable def d_ref11_Cheapest.b2 (k : Nat) (L0 : Int → Int → Int → Nat → Nat → Nat → Nat → Option Addr → Nat → Nat → Int → List Nat → Hp → Option (Value × Hp)) (L1 : Int → Int → Int → Nat → Nat → Nat → Nat → Option Addr → Nat → Nat → Int → Nat → Nat → Int → Int → List Nat → Hp → Option (Value × Hp)) (L2 : Int → Int → Int → Nat → Nat → Nat → Nat → Option Addr → Nat → Nat → Int → Nat → Nat → Int → Int → List Nat → Hp → Option (Value × Hp)) (x98 : Int) (x99 : Int) (x100 : Int) (b101 : Nat) (o102 : Nat) (b103 : Nat) (o104 : Nat) (a105 : Option Addr) (n106 : Nat) (c107 : Nat) (x108 : Int) (b109 : Nat) (o110 : Nat) (x111 : Int) (x112 : Int) (mk : List Nat) (h : Hp) : Option (Value × Hp) := bc (!(x112 == x98)) ((asS (rd h b109 (o110 + 1))).bind fun s113 => (ixA s113.a s113.n 1 x112).bind fun p114 => (asI .i64 (rd h p114.1 p114.2)).bind fun x115 => bc (decide (x115 > 0)) ((ixA a105 n106 1 (w64 (x115 - 1))).bind fun p116 => (asI .i64 (rd h p116.1 p116.2)).bind fun x117 => (ixA a105 n106 1 (w64 (x115 - 1))).bind fun p118 => (wr h p118.1 p118.2 [.int .i64 (w64 (x117 + x111))]).bind fun h119 => (asS (rd h119 b101 (o102 + 1))).bind fun s120 => (ixA s120.a s120.n 4 (w64 (x115 - 1))).bind fun p121 => (asI .i64 (rd h119 p121.1 p121.2)).bind fun x122 => L2 x98 x99 x100 b101 o102 b103 o104 a105 n106 c107 x108 b109 o110 x111 x122 mk h119) ((ixA a105 n106 1 (w64 ((w64 (0 - x115)) - 1))).bind fun p123 => (asI .i64 (rd h p123.1 p123.2)).bind fun x124 => (ixA a105 n106 1 (w64 ((w64 (0 - x115)) - 1))).bind fun p125 => (wr h p125.1 p125.2 [.int .i64 (w64 (x124 - x111))]).bind fun h126 => (asS (rd h126 b101 (o102 + 1))).bind fun s127 => (ixA s127.a s127.n 4 (w64 ((w64 (0 - x115)) - 1))).bind fun p128 => (asI .i64 (rd h126 p128.1 (p128.2 + 1))).bind fun x129 => L2 x98 x99 x100 b101 o102 b103 o104 a105 n106 c107 x108 b109 o110 x111 x129 mk h126)) (L0 x98 x99 x100 b101 o102 b103 o104 a105 n106 c107 (w64 (x108 + x111)) mk h)
noncomputable def d_ref11_Cheapest.LL : Nat → (Int → Int → Int → Nat → Nat → Nat → Nat → Option Addr → Nat → Nat → Int → List Nat → Hp → Option (Value × Hp)) × (Int → Int → Int → Nat → Nat → Nat → Nat → Option Addr → Nat → Nat → Int → Nat → Nat → Int → Int → List Nat → Hp → Option (Value × Hp)) × (Int → Int → Int → Nat → Nat → Nat → Nat → Option Addr → Nat → Nat → Int → Nat → Nat → Int → Int → List Nat → Hp → Option (Value × Hp))
  | 0 => (fun _ _ _ _ _ _ _ _ _ _ _ _ _ => none, fun _ _ _ _ _ _ _ _ _ _ _ _ _ _ _ _ _ => none, fun _ _ _ _ _ _ _ _ _ _ _ _ _ _ _ _ _ => none)
  | k + 1 => (d_ref11_Cheapest.b0 k (d_ref11_Cheapest.LL k).1 (d_ref11_Cheapest.LL k).2.1 (d_ref11_Cheapest.LL k).2.2, d_ref11_Cheapest.b1 k (d_ref11_Cheapest.LL k).1 (d_ref11_Cheapest.LL k).2.1 (d_ref11_Cheapest.LL k).2.2, d_ref11_Cheapest.b2 k (d_ref11_Cheapest.LL k).1 (d_ref11_Cheapest.LL k).2.1 (d_ref11_Cheapest.LL k).2.2)
noncomputable def d_ref11_Cheapest.l0 (k : Nat) : Int → Int → Int → Nat → Nat → Nat → Nat → Option Addr → Nat → Nat → Int → List Nat → Hp → Option (Value × Hp) := (d_ref11_Cheapest.LL k).1
noncomputable def d_ref11_Cheapest.l1 (k : Nat) : Int → Int → Int → Nat → Nat → Nat → Nat → Option Addr → Nat → Nat → Int → Nat → Nat → Int → Int → List Nat → Hp → Option (Value × Hp) := (d_ref11_Cheapest.LL k).2.1
noncomputable def d_ref11_Cheapest.l2 (k : Nat) : Int → Int → Int → Nat → Nat → Nat → Nat → Option Addr → Nat → Nat → Int → Nat → Nat → Int → Int → List Nat → Hp → Option (Value × Hp) := (d_ref11_Cheapest.LL k).2.2
theorem d_ref11_Cheapest.l0_succ (k : Nat) : d_ref11_Cheapest.l0 (k + 1) = d_ref11_Cheapest.b0 k (d_ref11_Cheapest.l0 k) (d_ref11_Cheapest.l1 k) (d_ref11_Cheapest.l2 k) := rfl
theorem d_ref11_Cheapest.l1_succ (k : Nat) : d_ref11_Cheapest.l1 (k + 1) = d_ref11_Cheapest.b1 k (d_ref11_Cheapest.l0 k) (d_ref11_Cheapest.l1 k) (d_ref11_Cheapest.l2 k) := rfl
theorem d_ref11_Cheapest.l2_succ (k : Nat) : d_ref11_Cheapest.l2 (k + 1) = d_ref11_Cheapest.b2 k (d_ref11_Cheapest.l0 k) (d_ref11_Cheapest.l1 k) (d_ref11_Cheapest.l2 k) := rfl
noncomputable def d_ref11_Cheapest.l0v (k : Nat) (vs : List Value) (mk : List Nat) (h : Hp) : Option (Value × Hp) := match vs with | [.int .i64 x21, .int .i64 x22, .int .i64 x23, .pointer (some ⟨b24, o25, none⟩), .pointer (some ⟨b26, o27, none⟩), .slice a28 n29 c30, .int .i64 x31] => d_ref11_Cheapest.l0 k x21 x22 x23 b24 o25 b26 o27 a28 n29 c30 x31 mk h | _ => none
noncomputable def d_ref11_Cheapest.l1v (k : Nat) (vs : List Value) (mk : List Nat) (h : Hp) : Option (Value × Hp) := match vs with | [.int .i64 x67, .int .i64 x68, .int .i64 x69, .pointer (some ⟨b70, o71, none⟩), .pointer (some ⟨b72, o73, none⟩), .slice a74 n75 c76, .int .i64 x77, .pointer (some ⟨b78, o79, none⟩), .int .i64 x80, .int .i64 x81] => d_ref11_Cheapest.l1 k x67 x68 x69 b70 o71 b72 o73 a74 n75 c76 x77 b78 o79 x80 x81 mk h | _ => none
noncomputable def d_ref11_Cheapest.l2v (k : Nat) (vs : List Value) (mk : List Nat) (h : Hp) : Option (Value × Hp) := match vs with | [.int .i64 x98, .int .i64 x99, .int .i64 x100, .pointer (some ⟨b101, o102, none⟩), .pointer (some ⟨b103, o104, none⟩), .slice a105 n106 c107, .int .i64 x108, .pointer (some ⟨b109, o110, none⟩), .int .i64 x111, .int .i64 x112] => d_ref11_Cheapest.l2 k x98 x99 x100 b101 o102 b103 o104 a105 n106 c107 x108 b109 o110 x111 x112 mk h | _ => none
noncomputable def d_ref11_Cheapest.L : List LEnt := [.lp [(1, .cell (.int .i64)), (2, .cell (.int .i64)), (3, .cell (.int .i64)), (4, .cell .ptr), (8, .cell .ptr), (9, .cell .slc), (10, .cell (.int .i64))] (d_ref11_Cheapest.l0v), .lp [(1, .cell (.int .i64)), (2, .cell (.int .i64)), (3, .cell (.int .i64)), (4, .cell .ptr), (8, .cell .ptr), (9, .cell .slc), (10, .cell (.int .i64)), (11, .cell .ptr), (12, .cell (.int .i64)), (13, .cell (.int .i64))] (d_ref11_Cheapest.l1v), .lp [(1, .cell (.int .i64)), (2, .cell (.int .i64)), (3, .cell (.int .i64)), (4, .cell .ptr), (8, .cell .ptr), (9, .cell .slc), (10, .cell (.int .i64)), (11, .cell .ptr), (12, .cell (.int .i64)), (15, .cell (.int .i64))] (d_ref11_Cheapest.l2v)]
noncomputable def d_ref11_Cheapest.r (k : Nat) (x2 : Int) (a7 : Option Addr) (n8 : Nat) (c9 : Nat) (x14 : Int) (x15 : Int) (x16 : Int) (h : Hp) : Option (Value × Hp) := lt (h.new (.row 0 [.int .i64 x2, .slice a7 n8 c9])) fun h17 => lt (h17.new (.row 0 [.int .i64 0, .int .i64 0, .slice none 0 0, .slice none 0 0, .slice none 0 0])) fun h18 => (asS (rd h18 h.next (0 + 1))).bind fun s19 => ckB (decide (0 ≤ ((s19.n : Nat) : Int)) && decide (((s19.n : Nat) : Int) ≤ ((s19.n : Nat) : Int)) && decide (((s19.n : Nat) : Int) ≤ 1048576)) (lt (h18.new (.row 1 (repl [.int .i64 0] (((s19.n : Nat) : Int) : Int).toNat))) fun h20 => d_ref11_Cheapest.l0 k x14 x15 x16 h.next 0 h17.next 0 (some ⟨h18.next, 0, none⟩) ((((s19.n : Nat) : Int) : Int).toNat) ((((s19.n : Nat) : Int) : Int).toNat) 0 [] h20)
noncomputable def d_ref11_Cheapest.v (k : Nat) (args : List Value) (h : Hp) : Option (Value × Hp) := castAL [.agg [.int .i64, .slc], .cell (.int .i64), .cell (.int .i64), .cell (.int .i64)] args fun vs => match vs with | [.agg ⟨[.int .i64 x2, .slice a7 n8 c9]⟩, .int .i64 x14, .int .i64 x15, .int .i64 x16] => d_ref11_Cheapest.r k x2 a7 n8 c9 x14 x15 x16 h | _ => none
theorem d_ref11_Cheapest.l0_den (k : Nat) (x21 : Int) (x22 : Int) (x23 : Int) (b24 : Nat) (o25 : Nat) (b26 : Nat) (o27 : Nat) (a28 : Option Addr) (n29 : Nat) (c30 : Nat) (x31 : Int) (mk : List Nat) (h : Hp) (G : Tr Value) : loopF' ((ctx E1 146 d_ref11_Cheapest.hint (d_ref11_Cheapest.tbl) d_ref11_Cheapest.it (LPof (d_ref11_Cheapest.L)) (YOof (d_ref11_Cheapest.L))) k) Try.f58 pairK 0 ⟨[(1, .int .i64 x21), (2, .int .i64 x22), (3, .int .i64 x23), (4, .pointer (some ⟨b24, o25, none⟩)), (8, .pointer (some ⟨b26, o27, none⟩)), (9, .slice a28 n29 c30), (10, .int .i64 x31)], G, mk⟩ h = d_ref11_Cheapest.l0 (k + 1) x21 x22 x23 b24 o25 b26 o27 a28 n29 c30 x31 mk h := by kernel_rfl
theorem d_ref11_Cheapest.l1_den (k : Nat) (x67 : Int) (x68 : Int) (x69 : Int) (b70 : Nat) (o71 : Nat) (b72 : Nat) (o73 : Nat) (a74 : Option Addr) (n75 : Nat) (c76 : Nat) (x77 : Int) (b78 : Nat) (o79 : Nat) (x80 : Int) (x81 : Int) (mk : List Nat) (h : Hp) (G : Tr Value) : loopF' ((ctx E1 146 d_ref11_Cheapest.hint (d_ref11_Cheapest.tbl) d_ref11_Cheapest.it (LPof (d_ref11_Cheapest.L)) (YOof (d_ref11_Cheapest.L))) k) Try.f58 pairK 1 ⟨[(1, .int .i64 x67), (2, .int .i64 x68), (3, .int .i64 x69), (4, .pointer (some ⟨b70, o71, none⟩)), (8, .pointer (some ⟨b72, o73, none⟩)), (9, .slice a74 n75 c76), (10, .int .i64 x77), (11, .pointer (some ⟨b78, o79, none⟩)), (12, .int .i64 x80), (13, .int .i64 x81)], G, mk⟩ h = d_ref11_Cheapest.l1 (k + 1) x67 x68 x69 b70 o71 b72 o73 a74 n75 c76 x77 b78 o79 x80 x81 mk h := by kernel_rfl
theorem d_ref11_Cheapest.l2_den (k : Nat) (x98 : Int) (x99 : Int) (x100 : Int) (b101 : Nat) (o102 : Nat) (b103 : Nat) (o104 : Nat) (a105 : Option Addr) (n106 : Nat) (c107 : Nat) (x108 : Int) (b109 : Nat) (o110 : Nat) (x111 : Int) (x112 : Int) (mk : List Nat) (h : Hp) (G : Tr Value) : loopF' ((ctx E1 146 d_ref11_Cheapest.hint (d_ref11_Cheapest.tbl) d_ref11_Cheapest.it (LPof (d_ref11_Cheapest.L)) (YOof (d_ref11_Cheapest.L))) k) Try.f58 pairK 2 ⟨[(1, .int .i64 x98), (2, .int .i64 x99), (3, .int .i64 x100), (4, .pointer (some ⟨b101, o102, none⟩)), (8, .pointer (some ⟨b103, o104, none⟩)), (9, .slice a105 n106 c107), (10, .int .i64 x108), (11, .pointer (some ⟨b109, o110, none⟩)), (12, .int .i64 x111), (15, .int .i64 x112)], G, mk⟩ h = d_ref11_Cheapest.l2 (k + 1) x98 x99 x100 b101 o102 b103 o104 a105 n106 c107 x108 b109 o110 x111 x112 mk h := by kernel_rfl
theorem d_ref11_Cheapest.r_den (k : Nat) (x2 : Int) (a7 : Option Addr) (n8 : Nat) (c9 : Nat) (x14 : Int) (x15 : Int) (x16 : Int) (h : Hp) : denF ((ctx E1 146 d_ref11_Cheapest.hint (d_ref11_Cheapest.tbl) d_ref11_Cheapest.it (LPof (d_ref11_Cheapest.L)) (YOof (d_ref11_Cheapest.L))) k) Try.f58 [.agg #[.int .i64 x2, .slice a7 n8 c9], .int .i64 x14, .int .i64 x15, .int .i64 x16] h pairK = d_ref11_Cheapest.r k x2 a7 n8 c9 x14 x15 x16 h := by kernel_rfl
theorem d_ref11_Cheapest.L_ok : ∀ i x, (d_ref11_Cheapest.L)[i]? = some x → LOK (ctx E1 146 d_ref11_Cheapest.hint (d_ref11_Cheapest.tbl) d_ref11_Cheapest.it (LPof (d_ref11_Cheapest.L)) (YOof (d_ref11_Cheapest.L))) (ctxY E1 146 d_ref11_Cheapest.hint (d_ref11_Cheapest.tbl)) Try.f58 (todoC d_ref11_Cheapest.body []) i x := by
  refine LOK_cons (P := fun i x => LOK (ctx E1 146 d_ref11_Cheapest.hint (d_ref11_Cheapest.tbl) d_ref11_Cheapest.it (LPof (d_ref11_Cheapest.L)) (YOof (d_ref11_Cheapest.L))) (ctxY E1 146 d_ref11_Cheapest.hint (d_ref11_Cheapest.tbl)) Try.f58 (todoC d_ref11_Cheapest.body []) (i) x) ?_ ?_
  · refine ⟨by kernel_rfl, fun vs mk h ht => ?_, fun k vs mk h r ht hk G => ?_⟩
    · obtain ⟨v0, vs0, rfl, hv0, ht0⟩ := TySL_cons ht
      obtain ⟨x21, rfl⟩ := hv0
      obtain ⟨v1, vs1, rfl, hv1, ht1⟩ := TySL_cons ht0
      obtain ⟨x22, rfl⟩ := hv1
      obtain ⟨v2, vs2, rfl, hv2, ht2⟩ := TySL_cons ht1
      obtain ⟨x23, rfl⟩ := hv2
      obtain ⟨v3, vs3, rfl, hv3, ht3⟩ := TySL_cons ht2
      obtain ⟨b24, o25, rfl⟩ := hv3
      obtain ⟨v4, vs4, rfl, hv4, ht4⟩ := TySL_cons ht3
      obtain ⟨b26, o27, rfl⟩ := hv4
      obtain ⟨v5, vs5, rfl, hv5, ht5⟩ := TySL_cons ht4
      obtain ⟨a28, n29, c30, rfl⟩ := hv5
      obtain ⟨v6, vs6, rfl, hv6, ht6⟩ := TySL_cons ht5
      obtain ⟨x31, rfl⟩ := hv6
      obtain rfl := TySL_nil ht6
      rfl
    · obtain ⟨v0, vs0, rfl, hv0, ht0⟩ := TySL_cons ht
      obtain ⟨x21, rfl⟩ := hv0
      obtain ⟨v1, vs1, rfl, hv1, ht1⟩ := TySL_cons ht0
      obtain ⟨x22, rfl⟩ := hv1
      obtain ⟨v2, vs2, rfl, hv2, ht2⟩ := TySL_cons ht1
      obtain ⟨x23, rfl⟩ := hv2
      obtain ⟨v3, vs3, rfl, hv3, ht3⟩ := TySL_cons ht2
      obtain ⟨b24, o25, rfl⟩ := hv3
      obtain ⟨v4, vs4, rfl, hv4, ht4⟩ := TySL_cons ht3
      obtain ⟨b26, o27, rfl⟩ := hv4
      obtain ⟨v5, vs5, rfl, hv5, ht5⟩ := TySL_cons ht4
      obtain ⟨a28, n29, c30, rfl⟩ := hv5
      obtain ⟨v6, vs6, rfl, hv6, ht6⟩ := TySL_cons ht5
      obtain ⟨x31, rfl⟩ := hv6
      obtain rfl := TySL_nil ht6
      exact (d_ref11_Cheapest.l0_den k x21 x22 x23 b24 o25 b26 o27 a28 n29 c30 x31 mk h G).trans hk
  refine LOK_cons (P := fun i x => LOK (ctx E1 146 d_ref11_Cheapest.hint (d_ref11_Cheapest.tbl) d_ref11_Cheapest.it (LPof (d_ref11_Cheapest.L)) (YOof (d_ref11_Cheapest.L))) (ctxY E1 146 d_ref11_Cheapest.hint (d_ref11_Cheapest.tbl)) Try.f58 (todoC d_ref11_Cheapest.body []) (i + 1) x) ?_ ?_
  · refine ⟨by kernel_rfl, fun vs mk h ht => ?_, fun k vs mk h r ht hk G => ?_⟩
    · obtain ⟨v0, vs0, rfl, hv0, ht0⟩ := TySL_cons ht
      obtain ⟨x67, rfl⟩ := hv0
      obtain ⟨v1, vs1, rfl, hv1, ht1⟩ := TySL_cons ht0
      obtain ⟨x68, rfl⟩ := hv1
      obtain ⟨v2, vs2, rfl, hv2, ht2⟩ := TySL_cons ht1
      obtain ⟨x69, rfl⟩ := hv2
      obtain ⟨v3, vs3, rfl, hv3, ht3⟩ := TySL_cons ht2
      obtain ⟨b70, o71, rfl⟩ := hv3
      obtain ⟨v4, vs4, rfl, hv4, ht4⟩ := TySL_cons ht3
      obtain ⟨b72, o73, rfl⟩ := hv4
      obtain ⟨v5, vs5, rfl, hv5, ht5⟩ := TySL_cons ht4
      obtain ⟨a74, n75, c76, rfl⟩ := hv5
      obtain ⟨v6, vs6, rfl, hv6, ht6⟩ := TySL_cons ht5
      obtain ⟨x77, rfl⟩ := hv6
      obtain ⟨v7, vs7, rfl, hv7, ht7⟩ := TySL_cons ht6
      obtain ⟨b78, o79, rfl⟩ := hv7
      obtain ⟨v8, vs8, rfl, hv8, ht8⟩ := TySL_cons ht7
      obtain ⟨x80, rfl⟩ := hv8
      obtain ⟨v9, vs9, rfl, hv9, ht9⟩ := TySL_cons ht8
      obtain ⟨x81, rfl⟩ := hv9
      obtain rfl := TySL_nil ht9
      rfl
    · obtain ⟨v0, vs0, rfl, hv0, ht0⟩ := TySL_cons ht
      obtain ⟨x67, rfl⟩ := hv0
      obtain ⟨v1, vs1, rfl, hv1, ht1⟩ := TySL_cons ht0
      obtain ⟨x68, rfl⟩ := hv1
      obtain ⟨v2, vs2, rfl, hv2, ht2⟩ := TySL_cons ht1
      obtain ⟨x69, rfl⟩ := hv2
      obtain ⟨v3, vs3, rfl, hv3, ht3⟩ := TySL_cons ht2
      obtain ⟨b70, o71, rfl⟩ := hv3
      obtain ⟨v4, vs4, rfl, hv4, ht4⟩ := TySL_cons ht3
      obtain ⟨b72, o73, rfl⟩ := hv4
      obtain ⟨v5, vs5, rfl, hv5, ht5⟩ := TySL_cons ht4
      obtain ⟨a74, n75, c76, rfl⟩ := hv5
      obtain ⟨v6, vs6, rfl, hv6, ht6⟩ := TySL_cons ht5
      obtain ⟨x77, rfl⟩ := hv6
      obtain ⟨v7, vs7, rfl, hv7, ht7⟩ := TySL_cons ht6
      obtain ⟨b78, o79, rfl⟩ := hv7
      obtain ⟨v8, vs8, rfl, hv8, ht8⟩ := TySL_cons ht7
      obtain ⟨x80, rfl⟩ := hv8
      obtain ⟨v9, vs9, rfl, hv9, ht9⟩ := TySL_cons ht8
      obtain ⟨x81, rfl⟩ := hv9
      obtain rfl := TySL_nil ht9
      exact (d_ref11_Cheapest.l1_den k x67 x68 x69 b70 o71 b72 o73 a74 n75 c76 x77 b78 o79 x80 x81 mk h G).trans hk
  refine LOK_cons (P := fun i x => LOK (ctx E1 146 d_ref11_Cheapest.hint (d_ref11_Cheapest.tbl) d_ref11_Cheapest.it (LPof (d_ref11_Cheapest.L)) (YOof (d_ref11_Cheapest.L))) (ctxY E1 146 d_ref11_Cheapest.hint (d_ref11_Cheapest.tbl)) Try.f58 (todoC d_ref11_Cheapest.body []) (i + 1 + 1) x) ?_ ?_
  · refine ⟨by kernel_rfl, fun vs mk h ht => ?_, fun k vs mk h r ht hk G => ?_⟩
    · obtain ⟨v0, vs0, rfl, hv0, ht0⟩ := TySL_cons ht
      obtain ⟨x98, rfl⟩ := hv0
      obtain ⟨v1, vs1, rfl, hv1, ht1⟩ := TySL_cons ht0
      obtain ⟨x99, rfl⟩ := hv1
      obtain ⟨v2, vs2, rfl, hv2, ht2⟩ := TySL_cons ht1
      obtain ⟨x100, rfl⟩ := hv2
      obtain ⟨v3, vs3, rfl, hv3, ht3⟩ := TySL_cons ht2
      obtain ⟨b101, o102, rfl⟩ := hv3
      obtain ⟨v4, vs4, rfl, hv4, ht4⟩ := TySL_cons ht3
      obtain ⟨b103, o104, rfl⟩ := hv4
      obtain ⟨v5, vs5, rfl, hv5, ht5⟩ := TySL_cons ht4
      obtain ⟨a105, n106, c107, rfl⟩ := hv5
      obtain ⟨v6, vs6, rfl, hv6, ht6⟩ := TySL_cons ht5
      obtain ⟨x108, rfl⟩ := hv6
      obtain ⟨v7, vs7, rfl, hv7, ht7⟩ := TySL_cons ht6
      obtain ⟨b109, o110, rfl⟩ := hv7
      obtain ⟨v8, vs8, rfl, hv8, ht8⟩ := TySL_cons ht7
      obtain ⟨x111, rfl⟩ := hv8
      obtain ⟨v9, vs9, rfl, hv9, ht9⟩ := TySL_cons ht8
      obtain ⟨x112, rfl⟩ := hv9
      obtain rfl := TySL_nil ht9
      rfl
    · obtain ⟨v0, vs0, rfl, hv0, ht0⟩ := TySL_cons ht
      obtain ⟨x98, rfl⟩ := hv0
      obtain ⟨v1, vs1, rfl, hv1, ht1⟩ := TySL_cons ht0
      obtain ⟨x99, rfl⟩ := hv1
      obtain ⟨v2, vs2, rfl, hv2, ht2⟩ := TySL_cons ht1
      obtain ⟨x100, rfl⟩ := hv2
      obtain ⟨v3, vs3, rfl, hv3, ht3⟩ := TySL_cons ht2
      obtain ⟨b101, o102, rfl⟩ := hv3
      obtain ⟨v4, vs4, rfl, hv4, ht4⟩ := TySL_cons ht3
      obtain ⟨b103, o104, rfl⟩ := hv4
      obtain ⟨v5, vs5, rfl, hv5, ht5⟩ := TySL_cons ht4
      obtain ⟨a105, n106, c107, rfl⟩ := hv5
      obtain ⟨v6, vs6, rfl, hv6, ht6⟩ := TySL_cons ht5
      obtain ⟨x108, rfl⟩ := hv6
      obtain ⟨v7, vs7, rfl, hv7, ht7⟩ := TySL_cons ht6
      obtain ⟨b109, o110, rfl⟩ := hv7
      obtain ⟨v8, vs8, rfl, hv8, ht8⟩ := TySL_cons ht7
      obtain ⟨x111, rfl⟩ := hv8
      obtain ⟨v9, vs9, rfl, hv9, ht9⟩ := TySL_cons ht8
      obtain ⟨x112, rfl⟩ := hv9
      obtain rfl := TySL_nil ht9
      exact (d_ref11_Cheapest.l2_den k x98 x99 x100 b101 o102 b103 o104 a105 n106 c107 x108 b109 o110 x111 x112 mk h G).trans hk
  exact LOK_nil
theorem d_ref11_Cheapest.snd {H : Pl → Prop} (hH : MonoH H) (k : Nat) : SndF E1 H 58 (d_ref11_Cheapest.v k) := by
  intro args h v h1 hk
  obtain ⟨ht, hk⟩ := castAL_ok hk
  obtain ⟨v0, vs0, rfl, hv0, ht0⟩ := TyAL_cons ht
  obtain ⟨cs1, rfl, hv0c⟩ := hv0
  obtain ⟨w4, cs3, rfl, hw5, hc6⟩ := TyCL_cons hv0c
  obtain ⟨x2, rfl⟩ := hw5
  obtain ⟨w11, cs10, rfl, hw12, hc13⟩ := TyCL_cons hc6
  obtain ⟨a7, n8, c9, rfl⟩ := hw12
  obtain rfl := TyCL_nil hc13
  obtain ⟨v1, vs1, rfl, hv1, ht1⟩ := TyAL_cons ht0
  obtain ⟨x14, rfl⟩ := hv1
  obtain ⟨v2, vs2, rfl, hv2, ht2⟩ := TyAL_cons ht1
  obtain ⟨x15, rfl⟩ := hv2
  obtain ⟨v3, vs3, rfl, hv3, ht3⟩ := TyAL_cons ht2
  obtain ⟨x16, rfl⟩ := hv3
  obtain rfl := TyAL_nil ht3
  refine fn_ok' (E := E1) (N := 146) (g := 58) (F := Try.f58) (hint := d_ref11_Cheapest.hint) (tbl := d_ref11_Cheapest.tbl) (tblY := d_ref11_Cheapest.tbl) (itK := d_ref11_Cheapest.it) (L := d_ref11_Cheapest.L) (body := d_ref11_Cheapest.body) (by kernel_rfl) (by kernel_rfl) (by kernel_rfl) hH ?_ ?_ ?_ d_ref11_Cheapest.L_ok k (by kernel_rfl) ((d_ref11_Cheapest.r_den k x2 a7 n8 c9 x14 x15 x16 h).trans hk)
  · intro k; exact addF_ok (d_ref11_Ways.snd hH k) (addF_ok (d_ref11_far.snd hH k) (addF_ok (d_ref11_Total.snd hH k) (noTbl_ok k)))
  · intro l' p' k; exact addF_ok (d_ref11_Ways.snd (hH.pay _ _) k) (addF_ok (d_ref11_far.snd (hH.pay _ _) k) (addF_ok (d_ref11_Total.snd (hH.pay _ _) k) (noTbl_ok k)))
  · intro k; exact noIt_ok k

/-! ### weirgate/weirgateref11.Value: function 70 -/
noncomputable def d_ref11_Value.body : Code := match Try.f70.body with | some b => b | none => .skip
noncomputable def d_ref11_Value.hint : Nat → Option (Nat × List Ck) := fun d => none
noncomputable def d_ref11_Value.tbl {R : Type} : TblTy R := noTbl
noncomputable def d_ref11_Value.it {R : Type} : ItTy R := noIt
noncomputable def d_ref11_Value.b0 (k : Nat) (L0 : Option Addr → Nat → Nat → Int → Nat → Nat → Int → Int → List Nat → Hp → Option (Value × Hp)) (a19 : Option Addr) (n20 : Nat) (c21 : Nat) (x22 : Int) (b23 : Nat) (o24 : Nat) (x25 : Int) (x26 : Int) (mk : List Nat) (h : Hp) : Option (Value × Hp) := (asS (rd h b23 (o24 + 1))).bind fun s27 => bc (decide (x26 < ((s27.n : Nat) : Int))) ((asS (rd h b23 (o24 + 1))).bind fun s28 => (ixA s28.a s28.n 4 x26).bind fun p29 => (asI .i64 (rd h p29.1 p29.2)).bind fun x30 => bc (x30 == x22) ((ixA a19 n20 1 x26).bind fun p31 => (asI .i64 (rd h p31.1 p31.2)).bind fun x32 => (asS (rd h b23 (o24 + 1))).bind fun s33 => (ixA s33.a s33.n 4 x26).bind fun p34 => (asI .i64 (rd h p34.1 (p34.2 + 1))).bind fun x35 => bc (x35 == x22) ((ixA a19 n20 1 x26).bind fun p36 => (asI .i64 (rd h p36.1 p36.2)).bind fun x37 => L0 a19 n20 c21 x22 b23 o24 (w64 ((w64 (x25 + x32)) - x37)) (w64 (x26 + 1)) mk h) (L0 a19 n20 c21 x22 b23 o24 (w64 (x25 + x32)) (w64 (x26 + 1)) mk h)) ((asS (rd h b23 (o24 + 1))).bind fun s38 => (ixA s38.a s38.n 4 x26).bind fun p39 => (asI .i64 (rd h p39.1 (p39.2 + 1))).bind fun x40 => bc (x40 == x22) ((ixA a19 n20 1 x26).bind fun p41 => (asI .i64 (rd h p41.1 p41.2)).bind fun x42 => L0 a19 n20 c21 x22 b23 o24 (w64 (x25 - x42)) (w64 (x26 + 1)) mk h) (L0 a19 n20 c21 x22 b23 o24 x25 (w64 (x26 + 1)) mk h))) ((takeM h mk).bind fun h43 => some (.int .i64 x25, h43))
noncomputable def d_ref11_Value.LL : Nat → (Option Addr → Nat → Nat → Int → Nat → Nat → Int → Int → List Nat → Hp → Option (Value × Hp))
  | 0 => fun _ _ _ _ _ _ _ _ _ _ => none
  | k + 1 => d_ref11_Value.b0 k (d_ref11_Value.LL k)
noncomputable def d_ref11_Value.l0 (k : Nat) : Option Addr → Nat → Nat → Int → Nat → Nat → Int → Int → List Nat → Hp → Option (Value × Hp) := (d_ref11_Value.LL k)
theorem d_ref11_Value.l0_succ (k : Nat) : d_ref11_Value.l0 (k + 1) = d_ref11_Value.b0 k (d_ref11_Value.l0 k) := rfl
noncomputable def d_ref11_Value.l0v (k : Nat) (vs : List Value) (mk : List Nat) (h : Hp) : Option (Value × Hp) := match vs with | [.slice a19 n20 c21, .int .i64 x22, .pointer (some ⟨b23, o24, none⟩), .int .i64 x25, .int .i64 x26] => d_ref11_Value.l0 k a19 n20 c21 x22 b23 o24 x25 x26 mk h | _ => none
noncomputable def d_ref11_Value.L : List LEnt := [.lp [(1, .cell .slc), (2, .cell (.int .i64)), (3, .cell .ptr), (7, .cell (.int .i64)), (8, .cell (.int .i64))] (d_ref11_Value.l0v)]
noncomputable def d_ref11_Value.r (k : Nat) (x2 : Int) (a7 : Option Addr) (n8 : Nat) (c9 : Nat) (a14 : Option Addr) (n15 : Nat) (c16 : Nat) (x17 : Int) (h : Hp) : Option (Value × Hp) := lt (h.new (.row 0 [.int .i64 x2, .slice a7 n8 c9])) fun h18 => d_ref11_Value.l0 k a14 n15 c16 x17 h.next 0 0 0 [] h18
noncomputable def d_ref11_Value.v (k : Nat) (args : List Value) (h : Hp) : Option (Value × Hp) := castAL [.agg [.int .i64, .slc], .cell .slc, .cell (.int .i64)] args fun vs => match vs with | [.agg ⟨[.int .i64 x2, .slice a7 n8 c9]⟩, .slice a14 n15 c16, .int .i64 x17] => d_ref11_Value.r k x2 a7 n8 c9 a14 n15 c16 x17 h | _ => none
theorem d_ref11_Value.l0_den (k : Nat) (a19 : Option Addr) (n20 : Nat) (c21 : Nat) (x22 : Int) (b23 : Nat) (o24 : Nat) (x25 : Int) (x26 : Int) (mk : List Nat) (h : Hp) (G : Tr Value) : loopF' ((ctx E1 45 d_ref11_Value.hint (d_ref11_Value.tbl) d_ref11_Value.it (LPof (d_ref11_Value.L)) (YOof (d_ref11_Value.L))) k) Try.f70 pairK 0 ⟨[(1, .slice a19 n20 c21), (2, .int .i64 x22), (3, .pointer (some ⟨b23, o24, none⟩)), (7, .int .i64 x25), (8, .int .i64 x26)], G, mk⟩ h = d_ref11_Value.l0 (k + 1) a19 n20 c21 x22 b23 o24 x25 x26 mk h := by kernel_rfl
theorem d_ref11_Value.r_den (k : Nat) (x2 : Int) (a7 : Option Addr) (n8 : Nat) (c9 : Nat) (a14 : Option Addr) (n15 : Nat) (c16 : Nat) (x17 : Int) (h : Hp) : denF ((ctx E1 45 d_ref11_Value.hint (d_ref11_Value.tbl) d_ref11_Value.it (LPof (d_ref11_Value.L)) (YOof (d_ref11_Value.L))) k) Try.f70 [.agg #[.int .i64 x2, .slice a7 n8 c9], .slice a14 n15 c16, .int .i64 x17] h pairK = d_ref11_Value.r k x2 a7 n8 c9 a14 n15 c16 x17 h := by kernel_rfl
theorem d_ref11_Value.L_ok : ∀ i x, (d_ref11_Value.L)[i]? = some x → LOK (ctx E1 45 d_ref11_Value.hint (d_ref11_Value.tbl) d_ref11_Value.it (LPof (d_ref11_Value.L)) (YOof (d_ref11_Value.L))) (ctxY E1 45 d_ref11_Value.hint (d_ref11_Value.tbl)) Try.f70 (todoC d_ref11_Value.body []) i x := by
  refine LOK_cons (P := fun i x => LOK (ctx E1 45 d_ref11_Value.hint (d_ref11_Value.tbl) d_ref11_Value.it (LPof (d_ref11_Value.L)) (YOof (d_ref11_Value.L))) (ctxY E1 45 d_ref11_Value.hint (d_ref11_Value.tbl)) Try.f70 (todoC d_ref11_Value.body []) (i) x) ?_ ?_
  · refine ⟨by kernel_rfl, fun vs mk h ht => ?_, fun k vs mk h r ht hk G => ?_⟩
    · obtain ⟨v0, vs0, rfl, hv0, ht0⟩ := TySL_cons ht
      obtain ⟨a19, n20, c21, rfl⟩ := hv0
      obtain ⟨v1, vs1, rfl, hv1, ht1⟩ := TySL_cons ht0
      obtain ⟨x22, rfl⟩ := hv1
      obtain ⟨v2, vs2, rfl, hv2, ht2⟩ := TySL_cons ht1
      obtain ⟨b23, o24, rfl⟩ := hv2
      obtain ⟨v3, vs3, rfl, hv3, ht3⟩ := TySL_cons ht2
      obtain ⟨x25, rfl⟩ := hv3
      obtain ⟨v4, vs4, rfl, hv4, ht4⟩ := TySL_cons ht3
      obtain ⟨x26, rfl⟩ := hv4
      obtain rfl := TySL_nil ht4
      rfl
    · obtain ⟨v0, vs0, rfl, hv0, ht0⟩ := TySL_cons ht
      obtain ⟨a19, n20, c21, rfl⟩ := hv0
      obtain ⟨v1, vs1, rfl, hv1, ht1⟩ := TySL_cons ht0
      obtain ⟨x22, rfl⟩ := hv1
      obtain ⟨v2, vs2, rfl, hv2, ht2⟩ := TySL_cons ht1
      obtain ⟨b23, o24, rfl⟩ := hv2
      obtain ⟨v3, vs3, rfl, hv3, ht3⟩ := TySL_cons ht2
      obtain ⟨x25, rfl⟩ := hv3
      obtain ⟨v4, vs4, rfl, hv4, ht4⟩ := TySL_cons ht3
      obtain ⟨x26, rfl⟩ := hv4
      obtain rfl := TySL_nil ht4
      exact (d_ref11_Value.l0_den k a19 n20 c21 x22 b23 o24 x25 x26 mk h G).trans hk
  exact LOK_nil
theorem d_ref11_Value.snd {H : Pl → Prop} (hH : MonoH H) (k : Nat) : SndF E1 H 70 (d_ref11_Value.v k) := by
  intro args h v h1 hk
  obtain ⟨ht, hk⟩ := castAL_ok hk
  obtain ⟨v0, vs0, rfl, hv0, ht0⟩ := TyAL_cons ht
  obtain ⟨cs1, rfl, hv0c⟩ := hv0
  obtain ⟨w4, cs3, rfl, hw5, hc6⟩ := TyCL_cons hv0c
  obtain ⟨x2, rfl⟩ := hw5
  obtain ⟨w11, cs10, rfl, hw12, hc13⟩ := TyCL_cons hc6
  obtain ⟨a7, n8, c9, rfl⟩ := hw12
  obtain rfl := TyCL_nil hc13
  obtain ⟨v1, vs1, rfl, hv1, ht1⟩ := TyAL_cons ht0
  obtain ⟨a14, n15, c16, rfl⟩ := hv1
  obtain ⟨v2, vs2, rfl, hv2, ht2⟩ := TyAL_cons ht1
  obtain ⟨x17, rfl⟩ := hv2
  obtain rfl := TyAL_nil ht2
  refine fn_ok' (E := E1) (N := 45) (g := 70) (F := Try.f70) (hint := d_ref11_Value.hint) (tbl := d_ref11_Value.tbl) (tblY := d_ref11_Value.tbl) (itK := d_ref11_Value.it) (L := d_ref11_Value.L) (body := d_ref11_Value.body) (by kernel_rfl) (by kernel_rfl) (by kernel_rfl) hH ?_ ?_ ?_ d_ref11_Value.L_ok k (by kernel_rfl) ((d_ref11_Value.r_den k x2 a7 n8 c9 a14 n15 c16 x17 h).trans hk)
  · intro k; exact noTbl_ok k
  · intro l' p' k; exact noTbl_ok k
  · intro k; exact noIt_ok k

/-! ### weirgate/weirgateref11.Flows: function 69 -/
noncomputable def d_ref11_Flows.body : Code := match Try.f69.body with | some b => b | none => .skip
noncomputable def d_ref11_Flows.hint : Nat → Option (Nat × List Ck) := fun d => none
noncomputable def d_ref11_Flows.tbl {R : Type} : TblTy R := addF 70 [.cell (.int .i64)] d_ref11_Value.v (noTbl)
noncomputable def d_ref11_Flows.it {R : Type} : ItTy R := noIt
noncomputable def d_ref11_Flows.b0 (k : Nat) (L0 : Int → Int → Option Addr → Nat → Nat → Nat → Nat → Int → List Nat → Hp → Option (Value × Hp)) (L1 : Int → Int → Option Addr → Nat → Nat → Nat → Nat → Int → List Nat → Hp → Option (Value × Hp)) (x21 : Int) (x22 : Int) (a23 : Option Addr) (n24 : Nat) (c25 : Nat) (b26 : Nat) (o27 : Nat) (x28 : Int) (mk : List Nat) (h : Hp) : Option (Value × Hp) := bc (decide (x28 < ((n24 : Nat) : Int))) ((ixA a23 n24 1 x28).bind fun p29 => (asI .i64 (rd h p29.1 p29.2)).bind fun x30 => ckB (Nat.ble (p29.1 + 1) h.next) (bc (!(decide (x30 < 0))) ((ixA a23 n24 1 x28).bind fun p31 => (asI .i64 (rd h p31.1 p31.2)).bind fun x32 => ckB (Nat.ble (p31.1 + 1) h.next) ((asS (rd h b26 (o27 + 1))).bind fun s33 => ckB (Nat.ble (b26 + 1) h.next) ((ixA s33.a s33.n 4 x28).bind fun p34 => (asI .i64 (rd h p34.1 (p34.2 + 2))).bind fun x35 => ckB (Nat.ble (p34.1 + 1) h.next) (bc (decide (x32 > x35)) ((takeM h mk).bind fun h36 => some (.bool false, h36)) (L0 x21 x22 a23 n24 c25 b26 o27 (w64 (x28 + 1)) mk h))))) ((takeM h mk).bind fun h37 => some (.bool false, h37)))) (L1 x21 x22 a23 n24 c25 b26 o27 0 mk h)
noncomputable def d_ref11_Flows.b1 (k : Nat) (L0 : Int → Int → Option Addr → Nat → Nat → Nat → Nat → Int → List Nat → Hp → Option (Value × Hp)) (L1 : Int → Int → Option Addr → Nat → Nat → Nat → Nat → Int → List Nat → Hp → Option (Value × Hp)) (x38 : Int) (x39 : Int) (a40 : Option Addr) (n41 : Nat) (c42 : Nat) (b43 : Nat) (o44 : Nat) (x45 : Int) (mk : List Nat) (h : Hp) : Option (Value × Hp) := (asI .i64 (rd h b43 o44)).bind fun x46 => bc (decide (x45 < x46)) (bc (!(x45 == x38)) (bc (!(x45 == x39)) ((asI .i64 (rd h b43 o44)).bind fun x47 => (asS (rd h b43 (o44 + 1))).bind fun s48 => (d_ref11_Value.r k x47 s48.a s48.n s48.c a40 n41 c42 x45 h).bind fun q49 => (asI .i64 (some q49.1)).bind fun x50 => bc (!(x50 == 0)) ((takeM q49.2 mk).bind fun h51 => some (.bool false, h51)) (L1 x38 x39 a40 n41 c42 b43 o44 (w64 (x45 + 1)) mk q49.2)) (L1 x38 x39 a40 n41 c42 b43 o44 (w64 (x45 + 1)) mk h)) (L1 x38 x39 a40 n41 c42 b43 o44 (w64 (x45 + 1)) mk h)) ((takeM h mk).bind fun h52 => some (.bool true, h52))
noncomputable def d_ref11_Flows.LL : Nat → (Int → Int → Option Addr → Nat → Nat → Nat → Nat → Int → List Nat → Hp → Option (Value × Hp)) × (Int → Int → Option Addr → Nat → Nat → Nat → Nat → Int → List Nat → Hp → Option (Value × Hp))
  | 0 => (fun _ _ _ _ _ _ _ _ _ _ => none, fun _ _ _ _ _ _ _ _ _ _ => none)
  | k + 1 => (d_ref11_Flows.b0 k (d_ref11_Flows.LL k).1 (d_ref11_Flows.LL k).2, d_ref11_Flows.b1 k (d_ref11_Flows.LL k).1 (d_ref11_Flows.LL k).2)
noncomputable def d_ref11_Flows.l0 (k : Nat) : Int → Int → Option Addr → Nat → Nat → Nat → Nat → Int → List Nat → Hp → Option (Value × Hp) := (d_ref11_Flows.LL k).1
noncomputable def d_ref11_Flows.l1 (k : Nat) : Int → Int → Option Addr → Nat → Nat → Nat → Nat → Int → List Nat → Hp → Option (Value × Hp) := (d_ref11_Flows.LL k).2
theorem d_ref11_Flows.l0_succ (k : Nat) : d_ref11_Flows.l0 (k + 1) = d_ref11_Flows.b0 k (d_ref11_Flows.l0 k) (d_ref11_Flows.l1 k) := rfl
theorem d_ref11_Flows.l1_succ (k : Nat) : d_ref11_Flows.l1 (k + 1) = d_ref11_Flows.b1 k (d_ref11_Flows.l0 k) (d_ref11_Flows.l1 k) := rfl
noncomputable def d_ref11_Flows.l0v (k : Nat) (vs : List Value) (mk : List Nat) (h : Hp) : Option (Value × Hp) := match vs with | [.int .i64 x21, .int .i64 x22, .slice a23 n24 c25, .pointer (some ⟨b26, o27, none⟩), .int .i64 x28] => d_ref11_Flows.l0 k x21 x22 a23 n24 c25 b26 o27 x28 mk h | _ => none
noncomputable def d_ref11_Flows.l1v (k : Nat) (vs : List Value) (mk : List Nat) (h : Hp) : Option (Value × Hp) := match vs with | [.int .i64 x38, .int .i64 x39, .slice a40 n41 c42, .pointer (some ⟨b43, o44, none⟩), .int .i64 x45] => d_ref11_Flows.l1 k x38 x39 a40 n41 c42 b43 o44 x45 mk h | _ => none
noncomputable def d_ref11_Flows.L : List LEnt := [.lp [(1, .cell (.int .i64)), (2, .cell (.int .i64)), (3, .cell .slc), (4, .cell .ptr), (9, .cell (.int .i64))] (d_ref11_Flows.l0v), .lp [(1, .cell (.int .i64)), (2, .cell (.int .i64)), (3, .cell .slc), (4, .cell .ptr), (10, .cell (.int .i64))] (d_ref11_Flows.l1v)]
noncomputable def d_ref11_Flows.r (k : Nat) (x2 : Int) (a7 : Option Addr) (n8 : Nat) (c9 : Nat) (x14 : Int) (x15 : Int) (a16 : Option Addr) (n17 : Nat) (c18 : Nat) (h : Hp) : Option (Value × Hp) := lt (h.new (.row 0 [.int .i64 x2, .slice a7 n8 c9])) fun h19 => (asS (rd h19 h.next (0 + 1))).bind fun s20 => bc (!(((n17 : Nat) : Int) == ((s20.n : Nat) : Int))) (some (.bool false, h19)) (d_ref11_Flows.l0 k x14 x15 a16 n17 c18 h.next 0 0 [] h19)
noncomputable def d_ref11_Flows.v (k : Nat) (args : List Value) (h : Hp) : Option (Value × Hp) := castAL [.agg [.int .i64, .slc], .cell (.int .i64), .cell (.int .i64), .cell .slc] args fun vs => match vs with | [.agg ⟨[.int .i64 x2, .slice a7 n8 c9]⟩, .int .i64 x14, .int .i64 x15, .slice a16 n17 c18] => d_ref11_Flows.r k x2 a7 n8 c9 x14 x15 a16 n17 c18 h | _ => none
theorem d_ref11_Flows.l0_den (k : Nat) (x21 : Int) (x22 : Int) (a23 : Option Addr) (n24 : Nat) (c25 : Nat) (b26 : Nat) (o27 : Nat) (x28 : Int) (mk : List Nat) (h : Hp) (G : Tr Value) : loopF' ((ctx E1 62 d_ref11_Flows.hint (d_ref11_Flows.tbl) d_ref11_Flows.it (LPof (d_ref11_Flows.L)) (YOof (d_ref11_Flows.L))) k) Try.f69 pairK 0 ⟨[(1, .int .i64 x21), (2, .int .i64 x22), (3, .slice a23 n24 c25), (4, .pointer (some ⟨b26, o27, none⟩)), (9, .int .i64 x28)], G, mk⟩ h = d_ref11_Flows.l0 (k + 1) x21 x22 a23 n24 c25 b26 o27 x28 mk h := by kernel_rfl
theorem d_ref11_Flows.l1_den (k : Nat) (x38 : Int) (x39 : Int) (a40 : Option Addr) (n41 : Nat) (c42 : Nat) (b43 : Nat) (o44 : Nat) (x45 : Int) (mk : List Nat) (h : Hp) (G : Tr Value) : loopF' ((ctx E1 62 d_ref11_Flows.hint (d_ref11_Flows.tbl) d_ref11_Flows.it (LPof (d_ref11_Flows.L)) (YOof (d_ref11_Flows.L))) k) Try.f69 pairK 1 ⟨[(1, .int .i64 x38), (2, .int .i64 x39), (3, .slice a40 n41 c42), (4, .pointer (some ⟨b43, o44, none⟩)), (10, .int .i64 x45)], G, mk⟩ h = d_ref11_Flows.l1 (k + 1) x38 x39 a40 n41 c42 b43 o44 x45 mk h := by kernel_rfl
theorem d_ref11_Flows.r_den (k : Nat) (x2 : Int) (a7 : Option Addr) (n8 : Nat) (c9 : Nat) (x14 : Int) (x15 : Int) (a16 : Option Addr) (n17 : Nat) (c18 : Nat) (h : Hp) : denF ((ctx E1 62 d_ref11_Flows.hint (d_ref11_Flows.tbl) d_ref11_Flows.it (LPof (d_ref11_Flows.L)) (YOof (d_ref11_Flows.L))) k) Try.f69 [.agg #[.int .i64 x2, .slice a7 n8 c9], .int .i64 x14, .int .i64 x15, .slice a16 n17 c18] h pairK = d_ref11_Flows.r k x2 a7 n8 c9 x14 x15 a16 n17 c18 h := by kernel_rfl
theorem d_ref11_Flows.L_ok : ∀ i x, (d_ref11_Flows.L)[i]? = some x → LOK (ctx E1 62 d_ref11_Flows.hint (d_ref11_Flows.tbl) d_ref11_Flows.it (LPof (d_ref11_Flows.L)) (YOof (d_ref11_Flows.L))) (ctxY E1 62 d_ref11_Flows.hint (d_ref11_Flows.tbl)) Try.f69 (todoC d_ref11_Flows.body []) i x := by
  refine LOK_cons (P := fun i x => LOK (ctx E1 62 d_ref11_Flows.hint (d_ref11_Flows.tbl) d_ref11_Flows.it (LPof (d_ref11_Flows.L)) (YOof (d_ref11_Flows.L))) (ctxY E1 62 d_ref11_Flows.hint (d_ref11_Flows.tbl)) Try.f69 (todoC d_ref11_Flows.body []) (i) x) ?_ ?_
  · refine ⟨by kernel_rfl, fun vs mk h ht => ?_, fun k vs mk h r ht hk G => ?_⟩
    · obtain ⟨v0, vs0, rfl, hv0, ht0⟩ := TySL_cons ht
      obtain ⟨x21, rfl⟩ := hv0
      obtain ⟨v1, vs1, rfl, hv1, ht1⟩ := TySL_cons ht0
      obtain ⟨x22, rfl⟩ := hv1
      obtain ⟨v2, vs2, rfl, hv2, ht2⟩ := TySL_cons ht1
      obtain ⟨a23, n24, c25, rfl⟩ := hv2
      obtain ⟨v3, vs3, rfl, hv3, ht3⟩ := TySL_cons ht2
      obtain ⟨b26, o27, rfl⟩ := hv3
      obtain ⟨v4, vs4, rfl, hv4, ht4⟩ := TySL_cons ht3
      obtain ⟨x28, rfl⟩ := hv4
      obtain rfl := TySL_nil ht4
      rfl
    · obtain ⟨v0, vs0, rfl, hv0, ht0⟩ := TySL_cons ht
      obtain ⟨x21, rfl⟩ := hv0
      obtain ⟨v1, vs1, rfl, hv1, ht1⟩ := TySL_cons ht0
      obtain ⟨x22, rfl⟩ := hv1
      obtain ⟨v2, vs2, rfl, hv2, ht2⟩ := TySL_cons ht1
      obtain ⟨a23, n24, c25, rfl⟩ := hv2
      obtain ⟨v3, vs3, rfl, hv3, ht3⟩ := TySL_cons ht2
      obtain ⟨b26, o27, rfl⟩ := hv3
      obtain ⟨v4, vs4, rfl, hv4, ht4⟩ := TySL_cons ht3
      obtain ⟨x28, rfl⟩ := hv4
      obtain rfl := TySL_nil ht4
      exact (d_ref11_Flows.l0_den k x21 x22 a23 n24 c25 b26 o27 x28 mk h G).trans hk
  refine LOK_cons (P := fun i x => LOK (ctx E1 62 d_ref11_Flows.hint (d_ref11_Flows.tbl) d_ref11_Flows.it (LPof (d_ref11_Flows.L)) (YOof (d_ref11_Flows.L))) (ctxY E1 62 d_ref11_Flows.hint (d_ref11_Flows.tbl)) Try.f69 (todoC d_ref11_Flows.body []) (i + 1) x) ?_ ?_
  · refine ⟨by kernel_rfl, fun vs mk h ht => ?_, fun k vs mk h r ht hk G => ?_⟩
    · obtain ⟨v0, vs0, rfl, hv0, ht0⟩ := TySL_cons ht
      obtain ⟨x38, rfl⟩ := hv0
      obtain ⟨v1, vs1, rfl, hv1, ht1⟩ := TySL_cons ht0
      obtain ⟨x39, rfl⟩ := hv1
      obtain ⟨v2, vs2, rfl, hv2, ht2⟩ := TySL_cons ht1
      obtain ⟨a40, n41, c42, rfl⟩ := hv2
      obtain ⟨v3, vs3, rfl, hv3, ht3⟩ := TySL_cons ht2
      obtain ⟨b43, o44, rfl⟩ := hv3
      obtain ⟨v4, vs4, rfl, hv4, ht4⟩ := TySL_cons ht3
      obtain ⟨x45, rfl⟩ := hv4
      obtain rfl := TySL_nil ht4
      rfl
    · obtain ⟨v0, vs0, rfl, hv0, ht0⟩ := TySL_cons ht
      obtain ⟨x38, rfl⟩ := hv0
      obtain ⟨v1, vs1, rfl, hv1, ht1⟩ := TySL_cons ht0
      obtain ⟨x39, rfl⟩ := hv1
      obtain ⟨v2, vs2, rfl, hv2, ht2⟩ := TySL_cons ht1
      obtain ⟨a40, n41, c42, rfl⟩ := hv2
      obtain ⟨v3, vs3, rfl, hv3, ht3⟩ := TySL_cons ht2
      obtain ⟨b43, o44, rfl⟩ := hv3
      obtain ⟨v4, vs4, rfl, hv4, ht4⟩ := TySL_cons ht3
      obtain ⟨x45, rfl⟩ := hv4
      obtain rfl := TySL_nil ht4
      exact (d_ref11_Flows.l1_den k x38 x39 a40 n41 c42 b43 o44 x45 mk h G).trans hk
  exact LOK_nil
theorem d_ref11_Flows.snd {H : Pl → Prop} (hH : MonoH H) (k : Nat) : SndF E1 H 69 (d_ref11_Flows.v k) := by
  intro args h v h1 hk
  obtain ⟨ht, hk⟩ := castAL_ok hk
  obtain ⟨v0, vs0, rfl, hv0, ht0⟩ := TyAL_cons ht
  obtain ⟨cs1, rfl, hv0c⟩ := hv0
  obtain ⟨w4, cs3, rfl, hw5, hc6⟩ := TyCL_cons hv0c
  obtain ⟨x2, rfl⟩ := hw5
  obtain ⟨w11, cs10, rfl, hw12, hc13⟩ := TyCL_cons hc6
  obtain ⟨a7, n8, c9, rfl⟩ := hw12
  obtain rfl := TyCL_nil hc13
  obtain ⟨v1, vs1, rfl, hv1, ht1⟩ := TyAL_cons ht0
  obtain ⟨x14, rfl⟩ := hv1
  obtain ⟨v2, vs2, rfl, hv2, ht2⟩ := TyAL_cons ht1
  obtain ⟨x15, rfl⟩ := hv2
  obtain ⟨v3, vs3, rfl, hv3, ht3⟩ := TyAL_cons ht2
  obtain ⟨a16, n17, c18, rfl⟩ := hv3
  obtain rfl := TyAL_nil ht3
  refine fn_ok' (E := E1) (N := 62) (g := 69) (F := Try.f69) (hint := d_ref11_Flows.hint) (tbl := d_ref11_Flows.tbl) (tblY := d_ref11_Flows.tbl) (itK := d_ref11_Flows.it) (L := d_ref11_Flows.L) (body := d_ref11_Flows.body) (by kernel_rfl) (by kernel_rfl) (by kernel_rfl) hH ?_ ?_ ?_ d_ref11_Flows.L_ok k (by kernel_rfl) ((d_ref11_Flows.r_den k x2 a7 n8 c9 x14 x15 a16 n17 c18 h).trans hk)
  · intro k; exact addF_ok (d_ref11_Value.snd hH k) (noTbl_ok k)
  · intro l' p' k; exact addF_ok (d_ref11_Value.snd (hH.pay _ _) k) (noTbl_ok k)
  · intro k; exact noIt_ok k

/-! ### weirgate/weirgateref11.Priced: function 118 -/
noncomputable def d_ref11_Priced.body : Code := match Try.f118.body with | some b => b | none => .skip
noncomputable def d_ref11_Priced.hint : Nat → Option (Nat × List Ck) := fun d => none
noncomputable def d_ref11_Priced.tbl {R : Type} : TblTy R := noTbl
noncomputable def d_ref11_Priced.it {R : Type} : ItTy R := noIt
noncomputable def d_ref11_Priced.b0 (k : Nat) (L0 : Nat → Nat → Nat → Nat → Int → List Nat → Hp → Option (Value × Hp)) (L1 : Nat → Nat → Nat → Nat → Int → List Nat → Hp → Option (Value × Hp)) (b54 : Nat) (o55 : Nat) (b56 : Nat) (o57 : Nat) (x58 : Int) (mk : List Nat) (h : Hp) : Option (Value × Hp) := (asI .i64 (rd h b54 o55)).bind fun x59 => bc (decide (x58 < x59)) ((asS (rd h b56 (o57 + 3))).bind fun s60 => (ixA s60.a s60.n 1 x58).bind fun p61 => (asI .i64 (rd h p61.1 p61.2)).bind fun x62 => bc (!(decide (x62 < 0))) ((asS (rd h b56 (o57 + 3))).bind fun s63 => (ixA s63.a s63.n 1 x58).bind fun p64 => (asI .i64 (rd h p64.1 p64.2)).bind fun x65 => bc (decide (x65 > 1073741824)) ((takeM h mk).bind fun h66 => some (.bool false, h66)) (L0 b54 o55 b56 o57 (w64 (x58 + 1)) mk h)) ((takeM h mk).bind fun h67 => some (.bool false, h67))) (L1 b54 o55 b56 o57 0 mk h)
noncomputable def d_ref11_Priced.b1 (k : Nat) (L0 : Nat → Nat → Nat → Nat → Int → List Nat → Hp → Option (Value × Hp)) (L1 : Nat → Nat → Nat → Nat → Int → List Nat → Hp → Option (Value × Hp)) (b68 : Nat) (o69 : Nat) (b70 : Nat) (o71 : Nat) (x72 : Int) (mk : List Nat) (h : Hp) : Option (Value × Hp) := (asS (rd h b68 (o69 + 1))).bind fun s73 => bc (decide (x72 < ((s73.n : Nat) : Int))) ((asS (rd h b68 (o69 + 1))).bind fun s74 => (ixA s74.a s74.n 4 x72).bind fun p75 => (asI .i64 (rd h p75.1 p75.2)).bind fun x76 => (asI .i64 (rd h p75.1 (p75.2 + 1))).bind fun x77 => (asI .i64 (rd h p75.1 (p75.2 + 2))).bind fun x78 => (asI .i64 (rd h p75.1 (p75.2 + 3))).bind fun x79 => lt (h.new (.row 0 [.int .i64 0, .int .i64 0, .int .i64 0, .int .i64 0])) fun h80 => (wr h80 h.next 0 [.int .i64 x76, .int .i64 x77, .int .i64 x78, .int .i64 x79]).bind fun h81 => (asI .i64 (rd h81 h.next (0 + 3))).bind fun x82 => ckB (Nat.ble (h.next + 1) h81.next) ((asS (rd h81 b70 (o71 + 3))).bind fun s83 => ckB (Nat.ble (b70 + 1) h81.next) ((asI .i64 (rd h81 h.next 0)).bind fun x84 => ckB (Nat.ble (h.next + 1) h81.next) ((ixA s83.a s83.n 1 x84).bind fun p85 => (asI .i64 (rd h81 p85.1 p85.2)).bind fun x86 => ckB (Nat.ble (p85.1 + 1) h81.next) ((asS (rd h81 b70 (o71 + 3))).bind fun s87 => ckB (Nat.ble (b70 + 1) h81.next) ((asI .i64 (rd h81 h.next (0 + 1))).bind fun x88 => ckB (Nat.ble (h.next + 1) h81.next) ((ixA s87.a s87.n 1 x88).bind fun p89 => (asI .i64 (rd h81 p89.1 p89.2)).bind fun x90 => ckB (Nat.ble (p89.1 + 1) h81.next) (bc (decide ((w64 ((w64 (x82 + x86)) - x90)) < 0)) ((asS (rd h81 b70 (o71 + 2))).bind fun s91 => ckB (Nat.ble (b70 + 1) h81.next) ((ixA s91.a s91.n 1 x72).bind fun p92 => (asI .i64 (rd h81 p92.1 p92.2)).bind fun x93 => ckB (Nat.ble (p92.1 + 1) h81.next) ((asI .i64 (rd h81 h.next (0 + 2))).bind fun x94 => ckB (Nat.ble (h.next + 1) h81.next) (bc (!(decide (x93 < x94))) (bc (decide ((w64 ((w64 (x82 + x86)) - x90)) > 0)) ((asS (rd h81 b70 (o71 + 2))).bind fun s95 => ckB (Nat.ble (b70 + 1) h81.next) ((ixA s95.a s95.n 1 x72).bind fun p96 => (asI .i64 (rd h81 p96.1 p96.2)).bind fun x97 => ckB (Nat.ble (p96.1 + 1) h81.next) (bc (decide (x97 > 0)) ((takeM h81 mk).bind fun h98 => some (.bool false, h98)) (L1 b68 o69 b70 o71 (w64 (x72 + 1)) mk h81)))) (L1 b68 o69 b70 o71 (w64 (x72 + 1)) mk h81)) ((takeM h81 mk).bind fun h99 => some (.bool false, h99)))))) (bc (decide ((w64 ((w64 (x82 + x86)) - x90)) > 0)) ((asS (rd h81 b70 (o71 + 2))).bind fun s100 => ckB (Nat.ble (b70 + 1) h81.next) ((ixA s100.a s100.n 1 x72).bind fun p101 => (asI .i64 (rd h81 p101.1 p101.2)).bind fun x102 => ckB (Nat.ble (p101.1 + 1) h81.next) (bc (decide (x102 > 0)) ((takeM h81 mk).bind fun h103 => some (.bool false, h103)) (L1 b68 o69 b70 o71 (w64 (x72 + 1)) mk h81)))) (L1 b68 o69 b70 o71 (w64 (x72 + 1)) mk h81)))))))))) ((takeM h mk).bind fun h104 => some (.bool true, h104))
noncomputable def d_ref11_Priced.LL : Nat → (Nat → Nat → Nat → Nat → Int → List Nat → Hp → Option (Value × Hp)) × (Nat → Nat → Nat → Nat → Int → List Nat → Hp → Option (Value × Hp))
  | 0 => (fun _ _ _ _ _ _ _ => none, fun _ _ _ _ _ _ _ => none)
  | k + 1 => (d_ref11_Priced.b0 k (d_ref11_Priced.LL k).1 (d_ref11_Priced.LL k).2, d_ref11_Priced.b1 k (d_ref11_Priced.LL k).1 (d_ref11_Priced.LL k).2)
noncomputable def d_ref11_Priced.l0 (k : Nat) : Nat → Nat → Nat → Nat → Int → List Nat → Hp → Option (Value × Hp) := (d_ref11_Priced.LL k).1
noncomputable def d_ref11_Priced.l1 (k : Nat) : Nat → Nat → Nat → Nat → Int → List Nat → Hp → Option (Value × Hp) := (d_ref11_Priced.LL k).2
theorem d_ref11_Priced.l0_succ (k : Nat) : d_ref11_Priced.l0 (k + 1) = d_ref11_Priced.b0 k (d_ref11_Priced.l0 k) (d_ref11_Priced.l1 k) := rfl
theorem d_ref11_Priced.l1_succ (k : Nat) : d_ref11_Priced.l1 (k + 1) = d_ref11_Priced.b1 k (d_ref11_Priced.l0 k) (d_ref11_Priced.l1 k) := rfl
noncomputable def d_ref11_Priced.l0v (k : Nat) (vs : List Value) (mk : List Nat) (h : Hp) : Option (Value × Hp) := match vs with | [.pointer (some ⟨b54, o55, none⟩), .pointer (some ⟨b56, o57, none⟩), .int .i64 x58] => d_ref11_Priced.l0 k b54 o55 b56 o57 x58 mk h | _ => none
noncomputable def d_ref11_Priced.l1v (k : Nat) (vs : List Value) (mk : List Nat) (h : Hp) : Option (Value × Hp) := match vs with | [.pointer (some ⟨b68, o69, none⟩), .pointer (some ⟨b70, o71, none⟩), .int .i64 x72] => d_ref11_Priced.l1 k b68 o69 b70 o71 x72 mk h | _ => none
noncomputable def d_ref11_Priced.L : List LEnt := [.lp [(3, .cell .ptr), (5, .cell .ptr), (7, .cell (.int .i64))] (d_ref11_Priced.l0v), .lp [(3, .cell .ptr), (5, .cell .ptr), (8, .cell (.int .i64))] (d_ref11_Priced.l1v)]
noncomputable def d_ref11_Priced.r (k : Nat) (x2 : Int) (a7 : Option Addr) (n8 : Nat) (c9 : Nat) (x14 : Int) (x16 : Int) (x21 : Int) (a26 : Option Addr) (n27 : Nat) (c28 : Nat) (a33 : Option Addr) (n34 : Nat) (c35 : Nat) (a40 : Option Addr) (n41 : Nat) (c42 : Nat) (h : Hp) : Option (Value × Hp) := lt (h.new (.row 0 [.int .i64 x2, .slice a7 n8 c9])) fun h47 => lt (h47.new (.row 0 [.int .i64 x16, .int .i64 x21, .slice a26 n27 c28, .slice a33 n34 c35, .slice a40 n41 c42])) fun h48 => (asS (rd h48 h47.next (0 + 3))).bind fun s49 => (asI .i64 (rd h48 h.next 0)).bind fun x50 => bc (!(!(((s49.n : Nat) : Int) == x50))) ((asS (rd h48 h47.next (0 + 3))).bind fun s51 => (ixA s51.a s51.n 1 x14).bind fun p52 => (asI .i64 (rd h48 p52.1 p52.2)).bind fun x53 => bc (!(x53 == 0)) (some (.bool false, h48)) (d_ref11_Priced.l0 k h.next 0 h47.next 0 0 [] h48)) (some (.bool false, h48))
noncomputable def d_ref11_Priced.v (k : Nat) (args : List Value) (h : Hp) : Option (Value × Hp) := castAL [.agg [.int .i64, .slc], .cell (.int .i64), .agg [.int .i64, .int .i64, .slc, .slc, .slc]] args fun vs => match vs with | [.agg ⟨[.int .i64 x2, .slice a7 n8 c9]⟩, .int .i64 x14, .agg ⟨[.int .i64 x16, .int .i64 x21, .slice a26 n27 c28, .slice a33 n34 c35, .slice a40 n41 c42]⟩] => d_ref11_Priced.r k x2 a7 n8 c9 x14 x16 x21 a26 n27 c28 a33 n34 c35 a40 n41 c42 h | _ => none
theorem d_ref11_Priced.l0_den (k : Nat) (b54 : Nat) (o55 : Nat) (b56 : Nat) (o57 : Nat) (x58 : Int) (mk : List Nat) (h : Hp) (G : Tr Value) : loopF' ((ctx E1 97 d_ref11_Priced.hint (d_ref11_Priced.tbl) d_ref11_Priced.it (LPof (d_ref11_Priced.L)) (YOof (d_ref11_Priced.L))) k) Try.f118 pairK 0 ⟨[(3, .pointer (some ⟨b54, o55, none⟩)), (5, .pointer (some ⟨b56, o57, none⟩)), (7, .int .i64 x58)], G, mk⟩ h = d_ref11_Priced.l0 (k + 1) b54 o55 b56 o57 x58 mk h := by kernel_rfl
theorem d_ref11_Priced.l1_den (k : Nat) (b68 : Nat) (o69 : Nat) (b70 : Nat) (o71 : Nat) (x72 : Int) (mk : List Nat) (h : Hp) (G : Tr Value) : loopF' ((ctx E1 97 d_ref11_Priced.hint (d_ref11_Priced.tbl) d_ref11_Priced.it (LPof (d_ref11_Priced.L)) (YOof (d_ref11_Priced.L))) k) Try.f118 pairK 1 ⟨[(3, .pointer (some ⟨b68, o69, none⟩)), (5, .pointer (some ⟨b70, o71, none⟩)), (8, .int .i64 x72)], G, mk⟩ h = d_ref11_Priced.l1 (k + 1) b68 o69 b70 o71 x72 mk h := by kernel_rfl
theorem d_ref11_Priced.r_den (k : Nat) (x2 : Int) (a7 : Option Addr) (n8 : Nat) (c9 : Nat) (x14 : Int) (x16 : Int) (x21 : Int) (a26 : Option Addr) (n27 : Nat) (c28 : Nat) (a33 : Option Addr) (n34 : Nat) (c35 : Nat) (a40 : Option Addr) (n41 : Nat) (c42 : Nat) (h : Hp) : denF ((ctx E1 97 d_ref11_Priced.hint (d_ref11_Priced.tbl) d_ref11_Priced.it (LPof (d_ref11_Priced.L)) (YOof (d_ref11_Priced.L))) k) Try.f118 [.agg #[.int .i64 x2, .slice a7 n8 c9], .int .i64 x14, .agg #[.int .i64 x16, .int .i64 x21, .slice a26 n27 c28, .slice a33 n34 c35, .slice a40 n41 c42]] h pairK = d_ref11_Priced.r k x2 a7 n8 c9 x14 x16 x21 a26 n27 c28 a33 n34 c35 a40 n41 c42 h := by kernel_rfl
theorem d_ref11_Priced.L_ok : ∀ i x, (d_ref11_Priced.L)[i]? = some x → LOK (ctx E1 97 d_ref11_Priced.hint (d_ref11_Priced.tbl) d_ref11_Priced.it (LPof (d_ref11_Priced.L)) (YOof (d_ref11_Priced.L))) (ctxY E1 97 d_ref11_Priced.hint (d_ref11_Priced.tbl)) Try.f118 (todoC d_ref11_Priced.body []) i x := by
  refine LOK_cons (P := fun i x => LOK (ctx E1 97 d_ref11_Priced.hint (d_ref11_Priced.tbl) d_ref11_Priced.it (LPof (d_ref11_Priced.L)) (YOof (d_ref11_Priced.L))) (ctxY E1 97 d_ref11_Priced.hint (d_ref11_Priced.tbl)) Try.f118 (todoC d_ref11_Priced.body []) (i) x) ?_ ?_
  · refine ⟨by kernel_rfl, fun vs mk h ht => ?_, fun k vs mk h r ht hk G => ?_⟩
    · obtain ⟨v0, vs0, rfl, hv0, ht0⟩ := TySL_cons ht
      obtain ⟨b54, o55, rfl⟩ := hv0
      obtain ⟨v1, vs1, rfl, hv1, ht1⟩ := TySL_cons ht0
      obtain ⟨b56, o57, rfl⟩ := hv1
      obtain ⟨v2, vs2, rfl, hv2, ht2⟩ := TySL_cons ht1
      obtain ⟨x58, rfl⟩ := hv2
      obtain rfl := TySL_nil ht2
      rfl
    · obtain ⟨v0, vs0, rfl, hv0, ht0⟩ := TySL_cons ht
      obtain ⟨b54, o55, rfl⟩ := hv0
      obtain ⟨v1, vs1, rfl, hv1, ht1⟩ := TySL_cons ht0
      obtain ⟨b56, o57, rfl⟩ := hv1
      obtain ⟨v2, vs2, rfl, hv2, ht2⟩ := TySL_cons ht1
      obtain ⟨x58, rfl⟩ := hv2
      obtain rfl := TySL_nil ht2
      exact (d_ref11_Priced.l0_den k b54 o55 b56 o57 x58 mk h G).trans hk
  refine LOK_cons (P := fun i x => LOK (ctx E1 97 d_ref11_Priced.hint (d_ref11_Priced.tbl) d_ref11_Priced.it (LPof (d_ref11_Priced.L)) (YOof (d_ref11_Priced.L))) (ctxY E1 97 d_ref11_Priced.hint (d_ref11_Priced.tbl)) Try.f118 (todoC d_ref11_Priced.body []) (i + 1) x) ?_ ?_
  · refine ⟨by kernel_rfl, fun vs mk h ht => ?_, fun k vs mk h r ht hk G => ?_⟩
    · obtain ⟨v0, vs0, rfl, hv0, ht0⟩ := TySL_cons ht
      obtain ⟨b68, o69, rfl⟩ := hv0
      obtain ⟨v1, vs1, rfl, hv1, ht1⟩ := TySL_cons ht0
      obtain ⟨b70, o71, rfl⟩ := hv1
      obtain ⟨v2, vs2, rfl, hv2, ht2⟩ := TySL_cons ht1
      obtain ⟨x72, rfl⟩ := hv2
      obtain rfl := TySL_nil ht2
      rfl
    · obtain ⟨v0, vs0, rfl, hv0, ht0⟩ := TySL_cons ht
      obtain ⟨b68, o69, rfl⟩ := hv0
      obtain ⟨v1, vs1, rfl, hv1, ht1⟩ := TySL_cons ht0
      obtain ⟨b70, o71, rfl⟩ := hv1
      obtain ⟨v2, vs2, rfl, hv2, ht2⟩ := TySL_cons ht1
      obtain ⟨x72, rfl⟩ := hv2
      obtain rfl := TySL_nil ht2
      exact (d_ref11_Priced.l1_den k b68 o69 b70 o71 x72 mk h G).trans hk
  exact LOK_nil
theorem d_ref11_Priced.snd {H : Pl → Prop} (hH : MonoH H) (k : Nat) : SndF E1 H 118 (d_ref11_Priced.v k) := by
  intro args h v h1 hk
  obtain ⟨ht, hk⟩ := castAL_ok hk
  obtain ⟨v0, vs0, rfl, hv0, ht0⟩ := TyAL_cons ht
  obtain ⟨cs1, rfl, hv0c⟩ := hv0
  obtain ⟨w4, cs3, rfl, hw5, hc6⟩ := TyCL_cons hv0c
  obtain ⟨x2, rfl⟩ := hw5
  obtain ⟨w11, cs10, rfl, hw12, hc13⟩ := TyCL_cons hc6
  obtain ⟨a7, n8, c9, rfl⟩ := hw12
  obtain rfl := TyCL_nil hc13
  obtain ⟨v1, vs1, rfl, hv1, ht1⟩ := TyAL_cons ht0
  obtain ⟨x14, rfl⟩ := hv1
  obtain ⟨v2, vs2, rfl, hv2, ht2⟩ := TyAL_cons ht1
  obtain ⟨cs15, rfl, hv2c⟩ := hv2
  obtain ⟨w18, cs17, rfl, hw19, hc20⟩ := TyCL_cons hv2c
  obtain ⟨x16, rfl⟩ := hw19
  obtain ⟨w23, cs22, rfl, hw24, hc25⟩ := TyCL_cons hc20
  obtain ⟨x21, rfl⟩ := hw24
  obtain ⟨w30, cs29, rfl, hw31, hc32⟩ := TyCL_cons hc25
  obtain ⟨a26, n27, c28, rfl⟩ := hw31
  obtain ⟨w37, cs36, rfl, hw38, hc39⟩ := TyCL_cons hc32
  obtain ⟨a33, n34, c35, rfl⟩ := hw38
  obtain ⟨w44, cs43, rfl, hw45, hc46⟩ := TyCL_cons hc39
  obtain ⟨a40, n41, c42, rfl⟩ := hw45
  obtain rfl := TyCL_nil hc46
  obtain rfl := TyAL_nil ht2
  refine fn_ok' (E := E1) (N := 97) (g := 118) (F := Try.f118) (hint := d_ref11_Priced.hint) (tbl := d_ref11_Priced.tbl) (tblY := d_ref11_Priced.tbl) (itK := d_ref11_Priced.it) (L := d_ref11_Priced.L) (body := d_ref11_Priced.body) (by kernel_rfl) (by kernel_rfl) (by kernel_rfl) hH ?_ ?_ ?_ d_ref11_Priced.L_ok k (by kernel_rfl) ((d_ref11_Priced.r_den k x2 a7 n8 c9 x14 x16 x21 a26 n27 c28 a33 n34 c35 a40 n41 c42 h).trans hk)
  · intro k; exact noTbl_ok k
  · intro l' p' k; exact noTbl_ok k
  · intro k; exact noIt_ok k

/-! ### weirgate/weirgateref11.has: function 147 -/
noncomputable def d_ref11_has.body : Code := match Try.f147.body with | some b => b | none => .skip
noncomputable def d_ref11_has.hint : Nat → Option (Nat × List Ck) := fun d => none
noncomputable def d_ref11_has.tbl {R : Type} : TblTy R := noTbl
noncomputable def d_ref11_has.it {R : Type} : ItTy R := noIt
noncomputable def d_ref11_has.b0 (k : Nat) (L0 : Option Addr → Nat → Nat → Int → Int → List Nat → Hp → Option (Value × Hp)) (a5 : Option Addr) (n6 : Nat) (c7 : Nat) (x8 : Int) (x9 : Int) (mk : List Nat) (h : Hp) : Option (Value × Hp) := bc (decide (x9 < ((n6 : Nat) : Int))) ((ixA a5 n6 1 x9).bind fun p10 => (asI .i64 (rd h p10.1 p10.2)).bind fun x11 => bc (x11 == x8) ((takeM h mk).bind fun h12 => some (.bool true, h12)) (L0 a5 n6 c7 x8 (w64 (x9 + 1)) mk h)) ((takeM h mk).bind fun h13 => some (.bool false, h13))
noncomputable def d_ref11_has.LL : Nat → (Option Addr → Nat → Nat → Int → Int → List Nat → Hp → Option (Value × Hp))
  | 0 => fun _ _ _ _ _ _ _ => none
  | k + 1 => d_ref11_has.b0 k (d_ref11_has.LL k)
noncomputable def d_ref11_has.l0 (k : Nat) : Option Addr → Nat → Nat → Int → Int → List Nat → Hp → Option (Value × Hp) := (d_ref11_has.LL k)
theorem d_ref11_has.l0_succ (k : Nat) : d_ref11_has.l0 (k + 1) = d_ref11_has.b0 k (d_ref11_has.l0 k) := rfl
noncomputable def d_ref11_has.l0v (k : Nat) (vs : List Value) (mk : List Nat) (h : Hp) : Option (Value × Hp) := match vs with | [.slice a5 n6 c7, .int .i64 x8, .int .i64 x9] => d_ref11_has.l0 k a5 n6 c7 x8 x9 mk h | _ => none
noncomputable def d_ref11_has.L : List LEnt := [.lp [(0, .cell .slc), (1, .cell (.int .i64)), (5, .cell (.int .i64))] (d_ref11_has.l0v)]
noncomputable def d_ref11_has.r (k : Nat) (a1 : Option Addr) (n2 : Nat) (c3 : Nat) (x4 : Int) (h : Hp) : Option (Value × Hp) := d_ref11_has.l0 k a1 n2 c3 x4 0 [] h
noncomputable def d_ref11_has.v (k : Nat) (args : List Value) (h : Hp) : Option (Value × Hp) := castAL [.cell .slc, .cell (.int .i64)] args fun vs => match vs with | [.slice a1 n2 c3, .int .i64 x4] => d_ref11_has.r k a1 n2 c3 x4 h | _ => none
theorem d_ref11_has.l0_den (k : Nat) (a5 : Option Addr) (n6 : Nat) (c7 : Nat) (x8 : Int) (x9 : Int) (mk : List Nat) (h : Hp) (G : Tr Value) : loopF' ((ctx E1 18 d_ref11_has.hint (d_ref11_has.tbl) d_ref11_has.it (LPof (d_ref11_has.L)) (YOof (d_ref11_has.L))) k) Try.f147 pairK 0 ⟨[(0, .slice a5 n6 c7), (1, .int .i64 x8), (5, .int .i64 x9)], G, mk⟩ h = d_ref11_has.l0 (k + 1) a5 n6 c7 x8 x9 mk h := by kernel_rfl
theorem d_ref11_has.r_den (k : Nat) (a1 : Option Addr) (n2 : Nat) (c3 : Nat) (x4 : Int) (h : Hp) : denF ((ctx E1 18 d_ref11_has.hint (d_ref11_has.tbl) d_ref11_has.it (LPof (d_ref11_has.L)) (YOof (d_ref11_has.L))) k) Try.f147 [.slice a1 n2 c3, .int .i64 x4] h pairK = d_ref11_has.r k a1 n2 c3 x4 h := by kernel_rfl
theorem d_ref11_has.L_ok : ∀ i x, (d_ref11_has.L)[i]? = some x → LOK (ctx E1 18 d_ref11_has.hint (d_ref11_has.tbl) d_ref11_has.it (LPof (d_ref11_has.L)) (YOof (d_ref11_has.L))) (ctxY E1 18 d_ref11_has.hint (d_ref11_has.tbl)) Try.f147 (todoC d_ref11_has.body []) i x := by
  refine LOK_cons (P := fun i x => LOK (ctx E1 18 d_ref11_has.hint (d_ref11_has.tbl) d_ref11_has.it (LPof (d_ref11_has.L)) (YOof (d_ref11_has.L))) (ctxY E1 18 d_ref11_has.hint (d_ref11_has.tbl)) Try.f147 (todoC d_ref11_has.body []) (i) x) ?_ ?_
  · refine ⟨by kernel_rfl, fun vs mk h ht => ?_, fun k vs mk h r ht hk G => ?_⟩
    · obtain ⟨v0, vs0, rfl, hv0, ht0⟩ := TySL_cons ht
      obtain ⟨a5, n6, c7, rfl⟩ := hv0
      obtain ⟨v1, vs1, rfl, hv1, ht1⟩ := TySL_cons ht0
      obtain ⟨x8, rfl⟩ := hv1
      obtain ⟨v2, vs2, rfl, hv2, ht2⟩ := TySL_cons ht1
      obtain ⟨x9, rfl⟩ := hv2
      obtain rfl := TySL_nil ht2
      rfl
    · obtain ⟨v0, vs0, rfl, hv0, ht0⟩ := TySL_cons ht
      obtain ⟨a5, n6, c7, rfl⟩ := hv0
      obtain ⟨v1, vs1, rfl, hv1, ht1⟩ := TySL_cons ht0
      obtain ⟨x8, rfl⟩ := hv1
      obtain ⟨v2, vs2, rfl, hv2, ht2⟩ := TySL_cons ht1
      obtain ⟨x9, rfl⟩ := hv2
      obtain rfl := TySL_nil ht2
      exact (d_ref11_has.l0_den k a5 n6 c7 x8 x9 mk h G).trans hk
  exact LOK_nil
theorem d_ref11_has.snd {H : Pl → Prop} (hH : MonoH H) (k : Nat) : SndF E1 H 147 (d_ref11_has.v k) := by
  intro args h v h1 hk
  obtain ⟨ht, hk⟩ := castAL_ok hk
  obtain ⟨v0, vs0, rfl, hv0, ht0⟩ := TyAL_cons ht
  obtain ⟨a1, n2, c3, rfl⟩ := hv0
  obtain ⟨v1, vs1, rfl, hv1, ht1⟩ := TyAL_cons ht0
  obtain ⟨x4, rfl⟩ := hv1
  obtain rfl := TyAL_nil ht1
  refine fn_ok' (E := E1) (N := 18) (g := 147) (F := Try.f147) (hint := d_ref11_has.hint) (tbl := d_ref11_has.tbl) (tblY := d_ref11_has.tbl) (itK := d_ref11_has.it) (L := d_ref11_has.L) (body := d_ref11_has.body) (by kernel_rfl) (by kernel_rfl) (by kernel_rfl) hH ?_ ?_ ?_ d_ref11_has.L_ok k (by kernel_rfl) ((d_ref11_has.r_den k a1 n2 c3 x4 h).trans hk)
  · intro k; exact noTbl_ok k
  · intro l' p' k; exact noTbl_ok k
  · intro k; exact noIt_ok k
end Go.Proofs.Ytgikimegikelkaa.Dn
