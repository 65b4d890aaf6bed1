/- Functions of the program, told over a heap, with their proofs against the machine of lists and tries (printed by dprint.py). -/
import Derived.Test.YtgikimegikelkaaAbE
import Derived.Test.YtgikimegikelkaaAbDen8
import Derived.Test.YtgikimegikelkaaDn6
namespace Go.Proofs.Ytgikimegikelkaa.Dn
open Go Go.Proofs.Ytgikimegikelkaa.Ab Go.Proofs.Ytgikimegikelkaa.AbT Go.Proofs
set_option linter.unusedVariables false
set_option linter.unusedSimpArgs false
set_option maxRecDepth 100000
/-! ### weirgate/weirgateref11.Cuts: function 119 -/
noncomputable def d_ref11_Cuts.body : Code := match Try.f119.body with | some b => b | none => .skip
noncomputable def d_ref11_Cuts.hint : Nat → Option (Nat × List Ck) := fun d => none
noncomputable def d_ref11_Cuts.tbl {R : Type} : TblTy R := addF 109 [.cell .bool] d_ref11_Node.v (addF 147 [.cell .bool] d_ref11_has.v (noTbl))
noncomputable def d_ref11_Cuts.it {R : Type} : ItTy R := noIt
noncomputable def d_ref11_Cuts.b0 (k : Nat) (L0 : Int → Int → Nat → Nat → Nat → Nat → Int → List Nat → Hp → Option (Value × Hp)) (L1 : Nat → Nat → Nat → Nat → Int → List Nat → Hp → Option (Value × Hp)) (x50 : Int) (x51 : Int) (b52 : Nat) (o53 : Nat) (b54 : Nat) (o55 : Nat) (x56 : Int) (mk : List Nat) (h : Hp) : Option (Value × Hp) := (asS (rd h b54 (o55 + 4))).bind fun s57 => bc (decide (x56 < ((s57.n : Nat) : Int))) ((asI .i64 (rd h b52 o53)).bind fun x58 => (asS (rd h b52 (o53 + 1))).bind fun s59 => ckB (Nat.ble (b52 + 1) h.next) ((asS (rd h b54 (o55 + 4))).bind fun s60 => ckB (Nat.ble (b54 + 1) h.next) ((ixA s60.a s60.n 1 x56).bind fun p61 => (asI .i64 (rd h p61.1 p61.2)).bind fun x62 => ckB (Nat.ble (p61.1 + 1) h.next) ((d_ref11_Node.r k x58 s59.a s59.n s59.c x62 h).bind fun q63 => (asB (some q63.1)).bind fun x64 => bc (!(!x64)) (bc (decide (x56 > 0)) ((asS (rd q63.2 b54 (o55 + 4))).bind fun s65 => ckB (Nat.ble (b54 + 1) h.next) ((ixA s65.a s65.n 1 x56).bind fun p66 => (asI .i64 (rd q63.2 p66.1 p66.2)).bind fun x67 => ckB (Nat.ble (p66.1 + 1) h.next) ((asS (rd q63.2 b54 (o55 + 4))).bind fun s68 => ckB (Nat.ble (b54 + 1) h.next) ((ixA s68.a s68.n 1 (w64 (x56 - 1))).bind fun p69 => (asI .i64 (rd q63.2 p69.1 p69.2)).bind fun x70 => ckB (Nat.ble (p69.1 + 1) h.next) (bc (decide (x67 ≤ x70)) ((takeM q63.2 mk).bind fun h71 => some (.bool false, h71)) (L0 x50 x51 b52 o53 b54 o55 (w64 (x56 + 1)) mk q63.2)))))) (L0 x50 x51 b52 o53 b54 o55 (w64 (x56 + 1)) mk q63.2)) ((takeM q63.2 mk).bind fun h72 => some (.bool false, h72)))))) ((asS (rd h b54 (o55 + 4))).bind fun s73 => (d_ref11_has.r k s73.a s73.n s73.c x50 h).bind fun q74 => (asB (some q74.1)).bind fun x75 => bc (!(!x75)) ((asS (rd q74.2 b54 (o55 + 4))).bind fun s76 => (d_ref11_has.r k s76.a s76.n s76.c x51 q74.2).bind fun q77 => (asB (some q77.1)).bind fun x78 => bc x78 ((takeM q77.2 mk).bind fun h79 => some (.bool false, h79)) (L1 b52 o53 b54 o55 0 mk q77.2)) ((takeM q74.2 mk).bind fun h80 => some (.bool false, h80)))
noncomputable def d_ref11_Cuts.b1 (k : Nat) (L0 : Int → Int → Nat → Nat → Nat → Nat → Int → List Nat → Hp → Option (Value × Hp)) (L1 : Nat → Nat → Nat → Nat → Int → List Nat → Hp → Option (Value × Hp)) (b81 : Nat) (o82 : Nat) (b83 : Nat) (o84 : Nat) (x85 : Int) (mk : List Nat) (h : Hp) : Option (Value × Hp) := (asS (rd h b81 (o82 + 1))).bind fun s86 => bc (decide (x85 < ((s86.n : Nat) : Int))) ((asS (rd h b81 (o82 + 1))).bind fun s87 => (ixA s87.a s87.n 4 x85).bind fun p88 => (asI .i64 (rd h p88.1 p88.2)).bind fun x89 => (asI .i64 (rd h p88.1 (p88.2 + 1))).bind fun x90 => (asI .i64 (rd h p88.1 (p88.2 + 2))).bind fun x91 => (asI .i64 (rd h p88.1 (p88.2 + 3))).bind fun x92 => lt (h.new (.row 0 [.int .i64 0, .int .i64 0, .int .i64 0, .int .i64 0])) fun h93 => (wr h93 h.next 0 [.int .i64 x89, .int .i64 x90, .int .i64 x91, .int .i64 x92]).bind fun h94 => (asS (rd h94 b83 (o84 + 4))).bind fun s95 => (asI .i64 (rd h94 h.next 0)).bind fun x96 => (d_ref11_has.r k s95.a s95.n s95.c x96 h94).bind fun q97 => (asB (some q97.1)).bind fun x98 => (asS (rd q97.2 b83 (o84 + 4))).bind fun s99 => (asI .i64 (rd q97.2 h.next (0 + 1))).bind fun x100 => (d_ref11_has.r k s99.a s99.n s99.c x100 q97.2).bind fun q101 => (asB (some q101.1)).bind fun x102 => bc x98 (bc (!x102) ((asS (rd q101.2 b83 (o84 + 2))).bind fun s103 => ckB (Nat.ble (b83 + 1) q101.2.next) ((ixA s103.a s103.n 1 x85).bind fun p104 => (asI .i64 (rd q101.2 p104.1 p104.2)).bind fun x105 => ckB (Nat.ble (p104.1 + 1) q101.2.next) ((asI .i64 (rd q101.2 h.next (0 + 2))).bind fun x106 => ckB (Nat.ble (h.next + 1) q101.2.next) (bc (!(!(x105 == x106))) (bc x102 (bc (!x98) ((asS (rd q101.2 b83 (o84 + 2))).bind fun s107 => ckB (Nat.ble (b83 + 1) q101.2.next) ((ixA s107.a s107.n 1 x85).bind fun p108 => (asI .i64 (rd q101.2 p108.1 p108.2)).bind fun x109 => ckB (Nat.ble (p108.1 + 1) q101.2.next) (bc (!(x109 == 0)) ((takeM q101.2 mk).bind fun h110 => some (.bool false, h110)) (L1 b81 o82 b83 o84 (w64 (x85 + 1)) mk q101.2)))) (L1 b81 o82 b83 o84 (w64 (x85 + 1)) mk q101.2)) (L1 b81 o82 b83 o84 (w64 (x85 + 1)) mk q101.2)) ((takeM q101.2 mk).bind fun h111 => some (.bool false, h111)))))) (bc x102 (bc (!x98) ((asS (rd q101.2 b83 (o84 + 2))).bind fun s112 => ckB (Nat.ble (b83 + 1) q101.2.next) ((ixA s112.a s112.n 1 x85).bind fun p113 => (asI .i64 (rd q101.2 p113.1 p113.2)).bind fun x114 => ckB (Nat.ble (p113.1 + 1) q101.2.next) (bc (!(x114 == 0)) ((takeM q101.2 mk).bind fun h115 => some (.bool false, h115)) (L1 b81 o82 b83 o84 (w64 (x85 + 1)) mk q101.2)))) (L1 b81 o82 b83 o84 (w64 (x85 + 1)) mk q101.2)) (L1 b81 o82 b83 o84 (w64 (x85 + 1)) mk q101.2))) (bc x102 (bc (!x98) ((asS (rd q101.2 b83 (o84 + 2))).bind fun s116 => ckB (Nat.ble (b83 + 1) q101.2.next) ((ixA s116.a s116.n 1 x85).bind fun p117 => (asI .i64 (rd q101.2 p117.1 p117.2)).bind fun x118 => ckB (Nat.ble (p117.1 + 1) q101.2.next) (bc (!(x118 == 0)) ((takeM q101.2 mk).bind fun h119 => some (.bool false, h119)) (L1 b81 o82 b83 o84 (w64 (x85 + 1)) mk q101.2)))) (L1 b81 o82 b83 o84 (w64 (x85 + 1)) mk q101.2)) (L1 b81 o82 b83 o84 (w64 (x85 + 1)) mk q101.2))) ((takeM h mk).bind fun h120 => some (.bool true, h120))
noncomputable def d_ref11_Cuts.LL : Nat → (Int → Int → Nat → Nat → Nat → Nat → Int → List Nat → Hp → Option (Value × Hp)) × (Nat → Nat → Nat → Nat → Int → List Nat → Hp → Option (Value × Hp))
  | 0 => (fun _ _ _ _ _ _ _ _ _ => none, fun _ _ _ _ _ _ _ => none)
  | k + 1 => (d_ref11_Cuts.b0 k (d_ref11_Cuts.LL k).1 (d_ref11_Cuts.LL k).2, d_ref11_Cuts.b1 k (d_ref11_Cuts.LL k).1 (d_ref11_Cuts.LL k).2)
noncomputable def d_ref11_Cuts.l0 (k : Nat) : Int → Int → Nat → Nat → Nat → Nat → Int → List Nat → Hp → Option (Value × Hp) := (d_ref11_Cuts.LL k).1
noncomputable def d_ref11_Cuts.l1 (k : Nat) : Nat → Nat → Nat → Nat → Int → List Nat → Hp → Option (Value × Hp) := (d_ref11_Cuts.LL k).2
theorem d_ref11_Cuts.l0_succ (k : Nat) : d_ref11_Cuts.l0 (k + 1) = d_ref11_Cuts.b0 k (d_ref11_Cuts.l0 k) (d_ref11_Cuts.l1 k) := rfl
theorem d_ref11_Cuts.l1_succ (k : Nat) : d_ref11_Cuts.l1 (k + 1) = d_ref11_Cuts.b1 k (d_ref11_Cuts.l0 k) (d_ref11_Cuts.l1 k) := rfl
noncomputable def d_ref11_Cuts.l0v (k : Nat) (vs : List Value) (mk : List Nat) (h : Hp) : Option (Value × Hp) := match vs with | [.int .i64 x50, .int .i64 x51, .pointer (some ⟨b52, o53, none⟩), .pointer (some ⟨b54, o55, none⟩), .int .i64 x56] => d_ref11_Cuts.l0 k x50 x51 b52 o53 b54 o55 x56 mk h | _ => none
noncomputable def d_ref11_Cuts.l1v (k : Nat) (vs : List Value) (mk : List Nat) (h : Hp) : Option (Value × Hp) := match vs with | [.pointer (some ⟨b81, o82, none⟩), .pointer (some ⟨b83, o84, none⟩), .int .i64 x85] => d_ref11_Cuts.l1 k b81 o82 b83 o84 x85 mk h | _ => none
noncomputable def d_ref11_Cuts.L : List LEnt := [.lp [(1, .cell (.int .i64)), (2, .cell (.int .i64)), (4, .cell .ptr), (7, .cell .ptr), (9, .cell (.int .i64))] (d_ref11_Cuts.l0v), .lp [(4, .cell .ptr), (7, .cell .ptr), (10, .cell (.int .i64))] (d_ref11_Cuts.l1v)]
noncomputable def d_ref11_Cuts.r (k : Nat) (x2 : Int) (a7 : Option Addr) (n8 : Nat) (c9 : Nat) (x14 : Int) (x15 : Int) (x17 : Int) (x22 : Int) (a27 : Option Addr) (n28 : Nat) (c29 : Nat) (a34 : Option Addr) (n35 : Nat) (c36 : Nat) (a41 : Option Addr) (n42 : Nat) (c43 : Nat) (h : Hp) : Option (Value × Hp) := lt (h.new (.row 0 [.int .i64 x2, .slice a7 n8 c9])) fun h48 => lt (h48.new (.row 0 [.int .i64 x17, .int .i64 x22, .slice a27 n28 c29, .slice a34 n35 c36, .slice a41 n42 c43])) fun h49 => d_ref11_Cuts.l0 k x14 x15 h.next 0 h48.next 0 0 [] h49
noncomputable def d_ref11_Cuts.v (k : Nat) (args : List Value) (h : Hp) : Option (Value × Hp) := castAL [.agg [.int .i64, .slc], .cell (.int .i64), .cell (.int .i64), .agg [.int .i64, .int .i64, .slc, .slc, .slc]] args fun vs => match vs with | [.agg ⟨[.int .i64 x2, .slice a7 n8 c9]⟩, .int .i64 x14, .int .i64 x15, .agg ⟨[.int .i64 x17, .int .i64 x22, .slice a27 n28 c29, .slice a34 n35 c36, .slice a41 n42 c43]⟩] => d_ref11_Cuts.r k x2 a7 n8 c9 x14 x15 x17 x22 a27 n28 c29 a34 n35 c36 a41 n42 c43 h | _ => none
theorem d_ref11_Cuts.l0_den (k : Nat) (x50 : Int) (x51 : Int) (b52 : Nat) (o53 : Nat) (b54 : Nat) (o55 : Nat) (x56 : Int) (mk : List Nat) (h : Hp) (G : Tr Value) : loopF' ((ctx E1 110 d_ref11_Cuts.hint (d_ref11_Cuts.tbl) d_ref11_Cuts.it (LPof (d_ref11_Cuts.L)) (YOof (d_ref11_Cuts.L))) k) Try.f119 pairK 0 ⟨[(1, .int .i64 x50), (2, .int .i64 x51), (4, .pointer (some ⟨b52, o53, none⟩)), (7, .pointer (some ⟨b54, o55, none⟩)), (9, .int .i64 x56)], G, mk⟩ h = d_ref11_Cuts.l0 (k + 1) x50 x51 b52 o53 b54 o55 x56 mk h := by kernel_rfl
theorem d_ref11_Cuts.l1_den (k : Nat) (b81 : Nat) (o82 : Nat) (b83 : Nat) (o84 : Nat) (x85 : Int) (mk : List Nat) (h : Hp) (G : Tr Value) : loopF' ((ctx E1 110 d_ref11_Cuts.hint (d_ref11_Cuts.tbl) d_ref11_Cuts.it (LPof (d_ref11_Cuts.L)) (YOof (d_ref11_Cuts.L))) k) Try.f119 pairK 1 ⟨[(4, .pointer (some ⟨b81, o82, none⟩)), (7, .pointer (some ⟨b83, o84, none⟩)), (10, .int .i64 x85)], G, mk⟩ h = d_ref11_Cuts.l1 (k + 1) b81 o82 b83 o84 x85 mk h := by kernel_rfl
theorem d_ref11_Cuts.r_den (k : Nat) (x2 : Int) (a7 : Option Addr) (n8 : Nat) (c9 : Nat) (x14 : Int) (x15 : Int) (x17 : Int) (x22 : Int) (a27 : Option Addr) (n28 : Nat) (c29 : Nat) (a34 : Option Addr) (n35 : Nat) (c36 : Nat) (a41 : Option Addr) (n42 : Nat) (c43 : Nat) (h : Hp) : denF ((ctx E1 110 d_ref11_Cuts.hint (d_ref11_Cuts.tbl) d_ref11_Cuts.it (LPof (d_ref11_Cuts.L)) (YOof (d_ref11_Cuts.L))) k) Try.f119 [.agg #[.int .i64 x2, .slice a7 n8 c9], .int .i64 x14, .int .i64 x15, .agg #[.int .i64 x17, .int .i64 x22, .slice a27 n28 c29, .slice a34 n35 c36, .slice a41 n42 c43]] h pairK = d_ref11_Cuts.r k x2 a7 n8 c9 x14 x15 x17 x22 a27 n28 c29 a34 n35 c36 a41 n42 c43 h := by kernel_rfl
theorem d_ref11_Cuts.L_ok : ∀ i x, (d_ref11_Cuts.L)[i]? = some x → LOK (ctx E1 110 d_ref11_Cuts.hint (d_ref11_Cuts.tbl) d_ref11_Cuts.it (LPof (d_ref11_Cuts.L)) (YOof (d_ref11_Cuts.L))) (ctxY E1 110 d_ref11_Cuts.hint (d_ref11_Cuts.tbl)) Try.f119 (todoC d_ref11_Cuts.body []) i x := by
  refine LOK_cons (P := fun i x => LOK (ctx E1 110 d_ref11_Cuts.hint (d_ref11_Cuts.tbl) d_ref11_Cuts.it (LPof (d_ref11_Cuts.L)) (YOof (d_ref11_Cuts.L))) (ctxY E1 110 d_ref11_Cuts.hint (d_ref11_Cuts.tbl)) Try.f119 (todoC d_ref11_Cuts.body []) (i) x) ?_ ?_
  · refine ⟨by kernel_rfl, fun vs mk h ht => ?_, fun k vs mk h r ht hk G => ?_⟩
    · obtain ⟨v0, vs0, rfl, hv0, ht0⟩ := TySL_cons ht
      obtain ⟨x50, rfl⟩ := hv0
      obtain ⟨v1, vs1, rfl, hv1, ht1⟩ := TySL_cons ht0
      obtain ⟨x51, rfl⟩ := hv1
      obtain ⟨v2, vs2, rfl, hv2, ht2⟩ := TySL_cons ht1
      obtain ⟨b52, o53, rfl⟩ := hv2
      obtain ⟨v3, vs3, rfl, hv3, ht3⟩ := TySL_cons ht2
      obtain ⟨b54, o55, rfl⟩ := hv3
      obtain ⟨v4, vs4, rfl, hv4, ht4⟩ := TySL_cons ht3
      obtain ⟨x56, rfl⟩ := hv4
      obtain rfl := TySL_nil ht4
      rfl
    · obtain ⟨v0, vs0, rfl, hv0, ht0⟩ := TySL_cons ht
      obtain ⟨x50, rfl⟩ := hv0
      obtain ⟨v1, vs1, rfl, hv1, ht1⟩ := TySL_cons ht0
      obtain ⟨x51, rfl⟩ := hv1
      obtain ⟨v2, vs2, rfl, hv2, ht2⟩ := TySL_cons ht1
      obtain ⟨b52, o53, rfl⟩ := hv2
      obtain ⟨v3, vs3, rfl, hv3, ht3⟩ := TySL_cons ht2
      obtain ⟨b54, o55, rfl⟩ := hv3
      obtain ⟨v4, vs4, rfl, hv4, ht4⟩ := TySL_cons ht3
      obtain ⟨x56, rfl⟩ := hv4
      obtain rfl := TySL_nil ht4
      exact (d_ref11_Cuts.l0_den k x50 x51 b52 o53 b54 o55 x56 mk h G).trans hk
  refine LOK_cons (P := fun i x => LOK (ctx E1 110 d_ref11_Cuts.hint (d_ref11_Cuts.tbl) d_ref11_Cuts.it (LPof (d_ref11_Cuts.L)) (YOof (d_ref11_Cuts.L))) (ctxY E1 110 d_ref11_Cuts.hint (d_ref11_Cuts.tbl)) Try.f119 (todoC d_ref11_Cuts.body []) (i + 1) x) ?_ ?_
  · refine ⟨by kernel_rfl, fun vs mk h ht => ?_, fun k vs mk h r ht hk G => ?_⟩
    · obtain ⟨v0, vs0, rfl, hv0, ht0⟩ := TySL_cons ht
      obtain ⟨b81, o82, rfl⟩ := hv0
      obtain ⟨v1, vs1, rfl, hv1, ht1⟩ := TySL_cons ht0
      obtain ⟨b83, o84, rfl⟩ := hv1
      obtain ⟨v2, vs2, rfl, hv2, ht2⟩ := TySL_cons ht1
      obtain ⟨x85, rfl⟩ := hv2
      obtain rfl := TySL_nil ht2
      rfl
    · obtain ⟨v0, vs0, rfl, hv0, ht0⟩ := TySL_cons ht
      obtain ⟨b81, o82, rfl⟩ := hv0
      obtain ⟨v1, vs1, rfl, hv1, ht1⟩ := TySL_cons ht0
      obtain ⟨b83, o84, rfl⟩ := hv1
      obtain ⟨v2, vs2, rfl, hv2, ht2⟩ := TySL_cons ht1
      obtain ⟨x85, rfl⟩ := hv2
      obtain rfl := TySL_nil ht2
      exact (d_ref11_Cuts.l1_den k b81 o82 b83 o84 x85 mk h G).trans hk
  exact LOK_nil
theorem d_ref11_Cuts.snd {H : Pl → Prop} (hH : MonoH H) (k : Nat) : SndF E1 H 119 (d_ref11_Cuts.v k) := by
  intro args h v h1 hk
  obtain ⟨ht, hk⟩ := castAL_ok hk
  obtain ⟨v0, vs0, rfl, hv0, ht0⟩ := TyAL_cons ht
  obtain ⟨cs1, rfl, hv0c⟩ := hv0
  obtain ⟨w4, cs3, rfl, hw5, hc6⟩ := TyCL_cons hv0c
  obtain ⟨x2, rfl⟩ := hw5
  obtain ⟨w11, cs10, rfl, hw12, hc13⟩ := TyCL_cons hc6
  obtain ⟨a7, n8, c9, rfl⟩ := hw12
  obtain rfl := TyCL_nil hc13
  obtain ⟨v1, vs1, rfl, hv1, ht1⟩ := TyAL_cons ht0
  obtain ⟨x14, rfl⟩ := hv1
  obtain ⟨v2, vs2, rfl, hv2, ht2⟩ := TyAL_cons ht1
  obtain ⟨x15, rfl⟩ := hv2
  obtain ⟨v3, vs3, rfl, hv3, ht3⟩ := TyAL_cons ht2
  obtain ⟨cs16, rfl, hv3c⟩ := hv3
  obtain ⟨w19, cs18, rfl, hw20, hc21⟩ := TyCL_cons hv3c
  obtain ⟨x17, rfl⟩ := hw20
  obtain ⟨w24, cs23, rfl, hw25, hc26⟩ := TyCL_cons hc21
  obtain ⟨x22, rfl⟩ := hw25
  obtain ⟨w31, cs30, rfl, hw32, hc33⟩ := TyCL_cons hc26
  obtain ⟨a27, n28, c29, rfl⟩ := hw32
  obtain ⟨w38, cs37, rfl, hw39, hc40⟩ := TyCL_cons hc33
  obtain ⟨a34, n35, c36, rfl⟩ := hw39
  obtain ⟨w45, cs44, rfl, hw46, hc47⟩ := TyCL_cons hc40
  obtain ⟨a41, n42, c43, rfl⟩ := hw46
  obtain rfl := TyCL_nil hc47
  obtain rfl := TyAL_nil ht3
  refine fn_ok' (E := E1) (N := 110) (g := 119) (F := Try.f119) (hint := d_ref11_Cuts.hint) (tbl := d_ref11_Cuts.tbl) (tblY := d_ref11_Cuts.tbl) (itK := d_ref11_Cuts.it) (L := d_ref11_Cuts.L) (body := d_ref11_Cuts.body) (by kernel_rfl) (by kernel_rfl) (by kernel_rfl) hH ?_ ?_ ?_ d_ref11_Cuts.L_ok k (by kernel_rfl) ((d_ref11_Cuts.r_den k x2 a7 n8 c9 x14 x15 x17 x22 a27 n28 c29 a34 n35 c36 a41 n42 c43 h).trans hk)
  · intro k; exact addF_ok (d_ref11_Node.snd hH k) (addF_ok (d_ref11_has.snd hH k) (noTbl_ok k))
  · intro l' p' k; exact addF_ok (d_ref11_Node.snd (hH.pay _ _) k) (addF_ok (d_ref11_has.snd (hH.pay _ _) k) (noTbl_ok k))
  · intro k; exact noIt_ok k

/-! ### weirgate/weirgateref11.Accept: function 59 -/
noncomputable def d_ref11_Accept.body : Code := match Try.f59.body with | some b => b | none => .skip
noncomputable def d_ref11_Accept.hint : Nat → Option (Nat × List Ck) := fun d => none
noncomputable def d_ref11_Accept.tbl {R : Type} : TblTy R := addF 69 [.cell .bool] d_ref11_Flows.v (addF 70 [.cell (.int .i64)] d_ref11_Value.v (addF 71 [.cell (.int .i64)] d_ref11_Total.v (addF 118 [.cell .bool] d_ref11_Priced.v (addF 119 [.cell .bool] d_ref11_Cuts.v (noTbl)))))
noncomputable def d_ref11_Accept.it {R : Type} : ItTy R := noIt
noncomputable def d_ref11_Accept.L : List LEnt := []
noncomputable def d_ref11_Accept.r (k : Nat) (x2 : Int) (a7 : Option Addr) (n8 : Nat) (c9 : Nat) (x14 : Int) (x15 : Int) (x16 : Int) (x18 : Int) (x23 : Int) (a28 : Option Addr) (n29 : Nat) (c30 : Nat) (a35 : Option Addr) (n36 : Nat) (c37 : Nat) (a42 : Option Addr) (n43 : Nat) (c44 : Nat) (h : Hp) : Option (Value × Hp) := lt (h.new (.row 0 [.int .i64 x2, .slice a7 n8 c9])) fun h49 => lt (h49.new (.row 0 [.int .i64 x18, .int .i64 x23, .slice a28 n29 c30, .slice a35 n36 c37, .slice a42 n43 c44])) fun h50 => (asI .i64 (rd h50 h.next 0)).bind fun x51 => (asS (rd h50 h.next (0 + 1))).bind fun s52 => (asS (rd h50 h49.next (0 + 2))).bind fun s53 => (d_ref11_Flows.r k x51 s52.a s52.n s52.c x14 x15 s53.a s53.n s53.c h50).bind fun q54 => (asB (some q54.1)).bind fun x55 => bc (!(!x55)) ((asI .i64 (rd q54.2 h49.next 0)).bind fun x56 => ckB (Nat.ble (h49.next + 1) q54.2.next) (bc (!(decide (x56 < 0))) ((asI .i64 (rd q54.2 h49.next 0)).bind fun x57 => ckB (Nat.ble (h49.next + 1) q54.2.next) (bc (!(decide (x57 > x16))) ((asI .i64 (rd q54.2 h.next 0)).bind fun x58 => (asS (rd q54.2 h.next (0 + 1))).bind fun s59 => ckB (Nat.ble (h.next + 1) q54.2.next) ((asS (rd q54.2 h49.next (0 + 2))).bind fun s60 => ckB (Nat.ble (h49.next + 1) q54.2.next) ((d_ref11_Value.r k x58 s59.a s59.n s59.c s60.a s60.n s60.c x14 q54.2).bind fun q61 => (asI .i64 (some q61.1)).bind fun x62 => (asI .i64 (rd q61.2 h49.next 0)).bind fun x63 => ckB (Nat.ble (h49.next + 1) q54.2.next) (ckE (q54.2.g h49.next) (q61.2.g h49.next) (bc (!(!(x62 == x63))) ((asI .i64 (rd q61.2 h.next 0)).bind fun x64 => (asS (rd q61.2 h.next (0 + 1))).bind fun s65 => ckB (Nat.ble (h.next + 1) q54.2.next) ((asS (rd q61.2 h49.next (0 + 2))).bind fun s66 => ckB (Nat.ble (h49.next + 1) q54.2.next) ((d_ref11_Total.r k x64 s65.a s65.n s65.c s66.a s66.n s66.c q61.2).bind fun q67 => (asI .i64 (some q67.1)).bind fun x68 => (asI .i64 (rd q67.2 h49.next (0 + 1))).bind fun x69 => ckB (Nat.ble (h49.next + 1) q54.2.next) (ckE (q61.2.g h49.next) (q67.2.g h49.next) (bc (!(!(x68 == x69))) ((asI .i64 (rd q67.2 h.next 0)).bind fun x70 => (asS (rd q67.2 h.next (0 + 1))).bind fun s71 => ckB (Nat.ble (h.next + 1) q54.2.next) ((asI .i64 (rd q67.2 h49.next 0)).bind fun x72 => (asI .i64 (rd q67.2 h49.next (0 + 1))).bind fun x73 => (asS (rd q67.2 h49.next (0 + 2))).bind fun s74 => (asS (rd q67.2 h49.next (0 + 3))).bind fun s75 => (asS (rd q67.2 h49.next (0 + 4))).bind fun s76 => ckB (Nat.ble (h49.next + 1) q54.2.next) ((d_ref11_Priced.r k x70 s71.a s71.n s71.c x14 x72 x73 s74.a s74.n s74.c s75.a s75.n s75.c s76.a s76.n s76.c q67.2).bind fun q77 => (asB (some q77.1)).bind fun x78 => bc (!x78) (some (.int .i64 110, q77.2)) ((asI .i64 (rd q77.2 h49.next 0)).bind fun x79 => bc (x79 == x16) ((asS (rd q77.2 h49.next (0 + 4))).bind fun s80 => bc (decide (((s80.n : Nat) : Int) > 0)) (some (.int .i64 110, q77.2)) (some (.int .i64 0, q77.2))) ((asI .i64 (rd q77.2 h.next 0)).bind fun x81 => (asS (rd q77.2 h.next (0 + 1))).bind fun s82 => (asI .i64 (rd q77.2 h49.next 0)).bind fun x83 => (asI .i64 (rd q77.2 h49.next (0 + 1))).bind fun x84 => (asS (rd q77.2 h49.next (0 + 2))).bind fun s85 => (asS (rd q77.2 h49.next (0 + 3))).bind fun s86 => (asS (rd q77.2 h49.next (0 + 4))).bind fun s87 => (d_ref11_Cuts.r k x81 s82.a s82.n s82.c x14 x15 x83 x84 s85.a s85.n s85.c s86.a s86.n s86.c s87.a s87.n s87.c q77.2).bind fun q88 => (asB (some q88.1)).bind fun x89 => bc (!x89) (some (.int .i64 110, q88.2)) (some (.int .i64 0, q88.2))))))) (some (.int .i64 110, q67.2))))))) (some (.int .i64 110, q61.2))))))) (some (.int .i64 110, q54.2)))) (some (.int .i64 110, q54.2)))) (some (.int .i64 110, q54.2))
noncomputable def d_ref11_Accept.v (k : Nat) (args : List Value) (h : Hp) : Option (Value × Hp) := castAL [.agg [.int .i64, .slc], .cell (.int .i64), .cell (.int .i64), .cell (.int .i64), .agg [.int .i64, .int .i64, .slc, .slc, .slc]] args fun vs => match vs with | [.agg ⟨[.int .i64 x2, .slice a7 n8 c9]⟩, .int .i64 x14, .int .i64 x15, .int .i64 x16, .agg ⟨[.int .i64 x18, .int .i64 x23, .slice a28 n29 c30, .slice a35 n36 c37, .slice a42 n43 c44]⟩] => d_ref11_Accept.r k x2 a7 n8 c9 x14 x15 x16 x18 x23 a28 n29 c30 a35 n36 c37 a42 n43 c44 h | _ => none
theorem d_ref11_Accept.r_den (k : Nat) (x2 : Int) (a7 : Option Addr) (n8 : Nat) (c9 : Nat) (x14 : Int) (x15 : Int) (x16 : Int) (x18 : Int) (x23 : Int) (a28 : Option Addr) (n29 : Nat) (c30 : Nat) (a35 : Option Addr) (n36 : Nat) (c37 : Nat) (a42 : Option Addr) (n43 : Nat) (c44 : Nat) (h : Hp) : denF ((ctx E1 73 d_ref11_Accept.hint (d_ref11_Accept.tbl) d_ref11_Accept.it (LPof (d_ref11_Accept.L)) (YOof (d_ref11_Accept.L))) k) Try.f59 [.agg #[.int .i64 x2, .slice a7 n8 c9], .int .i64 x14, .int .i64 x15, .int .i64 x16, .agg #[.int .i64 x18, .int .i64 x23, .slice a28 n29 c30, .slice a35 n36 c37, .slice a42 n43 c44]] h pairK = d_ref11_Accept.r k x2 a7 n8 c9 x14 x15 x16 x18 x23 a28 n29 c30 a35 n36 c37 a42 n43 c44 h := by kernel_rfl
theorem d_ref11_Accept.L_ok : ∀ i x, (d_ref11_Accept.L)[i]? = some x → LOK (ctx E1 73 d_ref11_Accept.hint (d_ref11_Accept.tbl) d_ref11_Accept.it (LPof (d_ref11_Accept.L)) (YOof (d_ref11_Accept.L))) (ctxY E1 73 d_ref11_Accept.hint (d_ref11_Accept.tbl)) Try.f59 (todoC d_ref11_Accept.body []) i x := by
  exact LOK_nil
theorem d_ref11_Accept.snd {H : Pl → Prop} (hH : MonoH H) (k : Nat) : SndF E1 H 59 (d_ref11_Accept.v k) := by
  intro args h v h1 hk
  obtain ⟨ht, hk⟩ := castAL_ok hk
  obtain ⟨v0, vs0, rfl, hv0, ht0⟩ := TyAL_cons ht
  obtain ⟨cs1, rfl, hv0c⟩ := hv0
  obtain ⟨w4, cs3, rfl, hw5, hc6⟩ := TyCL_cons hv0c
  obtain ⟨x2, rfl⟩ := hw5
  obtain ⟨w11, cs10, rfl, hw12, hc13⟩ := TyCL_cons hc6
  obtain ⟨a7, n8, c9, rfl⟩ := hw12
  obtain rfl := TyCL_nil hc13
  obtain ⟨v1, vs1, rfl, hv1, ht1⟩ := TyAL_cons ht0
  obtain ⟨x14, rfl⟩ := hv1
  obtain ⟨v2, vs2, rfl, hv2, ht2⟩ := TyAL_cons ht1
  obtain ⟨x15, rfl⟩ := hv2
  obtain ⟨v3, vs3, rfl, hv3, ht3⟩ := TyAL_cons ht2
  obtain ⟨x16, rfl⟩ := hv3
  obtain ⟨v4, vs4, rfl, hv4, ht4⟩ := TyAL_cons ht3
  obtain ⟨cs17, rfl, hv4c⟩ := hv4
  obtain ⟨w20, cs19, rfl, hw21, hc22⟩ := TyCL_cons hv4c
  obtain ⟨x18, rfl⟩ := hw21
  obtain ⟨w25, cs24, rfl, hw26, hc27⟩ := TyCL_cons hc22
  obtain ⟨x23, rfl⟩ := hw26
  obtain ⟨w32, cs31, rfl, hw33, hc34⟩ := TyCL_cons hc27
  obtain ⟨a28, n29, c30, rfl⟩ := hw33
  obtain ⟨w39, cs38, rfl, hw40, hc41⟩ := TyCL_cons hc34
  obtain ⟨a35, n36, c37, rfl⟩ := hw40
  obtain ⟨w46, cs45, rfl, hw47, hc48⟩ := TyCL_cons hc41
  obtain ⟨a42, n43, c44, rfl⟩ := hw47
  obtain rfl := TyCL_nil hc48
  obtain rfl := TyAL_nil ht4
  refine fn_ok' (E := E1) (N := 73) (g := 59) (F := Try.f59) (hint := d_ref11_Accept.hint) (tbl := d_ref11_Accept.tbl) (tblY := d_ref11_Accept.tbl) (itK := d_ref11_Accept.it) (L := d_ref11_Accept.L) (body := d_ref11_Accept.body) (by kernel_rfl) (by kernel_rfl) (by kernel_rfl) hH ?_ ?_ ?_ d_ref11_Accept.L_ok k (by kernel_rfl) ((d_ref11_Accept.r_den k x2 a7 n8 c9 x14 x15 x16 x18 x23 a28 n29 c30 a35 n36 c37 a42 n43 c44 h).trans hk)
  · intro k; exact addF_ok (d_ref11_Flows.snd hH k) (addF_ok (d_ref11_Value.snd hH k) (addF_ok (d_ref11_Total.snd hH k) (addF_ok (d_ref11_Priced.snd hH k) (addF_ok (d_ref11_Cuts.snd hH k) (noTbl_ok k)))))
  · intro l' p' k; exact addF_ok (d_ref11_Flows.snd (hH.pay _ _) k) (addF_ok (d_ref11_Value.snd (hH.pay _ _) k) (addF_ok (d_ref11_Total.snd (hH.pay _ _) k) (addF_ok (d_ref11_Priced.snd (hH.pay _ _) k) (addF_ok (d_ref11_Cuts.snd (hH.pay _ _) k) (noTbl_ok k)))))
  · intro k; exact noIt_ok k

/-! ### weirgate/weirgatelaw11.CostSendsCheapest: function 11 -/
noncomputable def d_law11_CostSendsCheapest.body : Code := match Try.f11.body with | some b => b | none => .skip
noncomputable def d_law11_CostSendsCheapest.hint : Nat → Option (Nat × List Ck) := fun d => none
noncomputable def d_law11_CostSendsCheapest.tbl {R : Type} : TblTy R := addF 57 [.cell .bool] d_ref11_Few.v (addF 55 [.cell .bool] d_ref11_Task.v (addF 56 [.agg [.int .i64, .int .i64, .slc, .slc, .slc], .cell (.int .i64)] d_cost_Send.v (addF 58 [.agg [.int .i64, .int .i64, .slc, .slc, .slc]] d_ref11_Cheapest.v (addF 59 [.cell (.int .i64)] d_ref11_Accept.v (addF 60 [.cell (.int .i64)] d_cost_Accept.v (addO 52 (noTbl)))))))
noncomputable def d_law11_CostSendsCheapest.it {R : Type} : ItTy R := noIt
noncomputable def d_law11_CostSendsCheapest.L : List LEnt := []
noncomputable def d_law11_CostSendsCheapest.r (k : Nat) (x2 : Int) (a7 : Option Addr) (n8 : Nat) (c9 : Nat) (x14 : Int) (x15 : Int) (x16 : Int) (h : Hp) : Option (Value × Hp) := lt (h.new (.row 0 [.int .i64 x2, .slice a7 n8 c9])) fun h17 => (asI .i64 (rd h17 h.next 0)).bind fun x18 => (asS (rd h17 h.next (0 + 1))).bind fun s19 => (d_ref11_Few.r k x18 s19.a s19.n s19.c 1073741824 h17).bind fun q20 => (asB (some q20.1)).bind fun x21 => bc (!(!x21)) ((asI .i64 (rd q20.2 h.next 0)).bind fun x22 => (asS (rd q20.2 h.next (0 + 1))).bind fun s23 => (d_ref11_Task.r k x22 s23.a s23.n s23.c x14 x15 x16 q20.2).bind fun q24 => (asB (some q24.1)).bind fun x25 => bc (!x25) (some (.bool true, q24.2)) ((asI .i64 (rd q24.2 h.next 0)).bind fun x26 => (asS (rd q24.2 h.next (0 + 1))).bind fun s27 => (d_cost_Send.r k x26 s27.a s27.n s27.c x14 x15 x16 q24.2).bind fun q28 => (asTup 2 q28.1).bind fun cs29 => (asA 5 (nth cs29 0)).bind fun cs30 => (asI .i64 (nth cs30 0)).bind fun x31 => (asI .i64 (nth cs30 1)).bind fun x32 => (asS0 (nth cs30 2)).bind fun s33 => (asS0 (nth cs30 3)).bind fun s34 => (asS0 (nth cs30 4)).bind fun s35 => (asI .i64 (nth cs29 1)).bind fun x36 => lt (q28.2.new (.row 0 [.int .i64 0, .int .i64 0, .slice none 0 0, .slice none 0 0, .slice none 0 0])) fun h37 => (wr h37 q28.2.next 0 [.int .i64 x31, .int .i64 x32, .slice s33.a s33.n s33.c, .slice s34.a s34.n s34.c, .slice s35.a s35.n s35.c]).bind fun h38 => (asI .i64 (rd h38 h.next 0)).bind fun x39 => (asS (rd h38 h.next (0 + 1))).bind fun s40 => (d_ref11_Cheapest.r k x39 s40.a s40.n s40.c x14 x15 x16 h38).bind fun q41 => (asA 5 (some q41.1)).bind fun cs42 => (asI .i64 (nth cs42 0)).bind fun x43 => (asI .i64 (nth cs42 1)).bind fun x44 => (asS0 (nth cs42 2)).bind fun s45 => (asS0 (nth cs42 3)).bind fun s46 => (asS0 (nth cs42 4)).bind fun s47 => lt (q41.2.new (.row 0 [.int .i64 0, .int .i64 0, .slice none 0 0, .slice none 0 0, .slice none 0 0])) fun h48 => (wr h48 q41.2.next 0 [.int .i64 x43, .int .i64 x44, .slice s45.a s45.n s45.c, .slice s46.a s46.n s46.c, .slice s47.a s47.n s47.c]).bind fun h49 => bc (x36 == 0) ((asI .i64 (rd h49 q28.2.next 0)).bind fun x50 => (asI .i64 (rd h49 q41.2.next 0)).bind fun x51 => bc (x50 == x51) ((asI .i64 (rd h49 q28.2.next (0 + 1))).bind fun x52 => (asI .i64 (rd h49 q41.2.next (0 + 1))).bind fun x53 => bc (x52 == x53) ((asI .i64 (rd h49 h.next 0)).bind fun x54 => (asS (rd h49 h.next (0 + 1))).bind fun s55 => (asI .i64 (rd h49 q28.2.next 0)).bind fun x56 => (asI .i64 (rd h49 q28.2.next (0 + 1))).bind fun x57 => (asS (rd h49 q28.2.next (0 + 2))).bind fun s58 => (asS (rd h49 q28.2.next (0 + 3))).bind fun s59 => (asS (rd h49 q28.2.next (0 + 4))).bind fun s60 => (d_ref11_Accept.r k x54 s55.a s55.n s55.c x14 x15 x16 x56 x57 s58.a s58.n s58.c s59.a s59.n s59.c s60.a s60.n s60.c h49).bind fun q61 => (asI .i64 (some q61.1)).bind fun x62 => bc (x62 == 0) ((asI .i64 (rd q61.2 h.next 0)).bind fun x63 => (asS (rd q61.2 h.next (0 + 1))).bind fun s64 => (asI .i64 (rd q61.2 q28.2.next 0)).bind fun x65 => (asI .i64 (rd q61.2 q28.2.next (0 + 1))).bind fun x66 => (asS (rd q61.2 q28.2.next (0 + 2))).bind fun s67 => (asS (rd q61.2 q28.2.next (0 + 3))).bind fun s68 => (asS (rd q61.2 q28.2.next (0 + 4))).bind fun s69 => (d_cost_Accept.r k x63 s64.a s64.n s64.c x14 x15 x16 x65 x66 s67.a s67.n s67.c s68.a s68.n s68.c s69.a s69.n s69.c q61.2).bind fun q70 => (asI .i64 (some q70.1)).bind fun x71 => some (.bool (x71 == 0), q70.2)) (some (.bool false, q61.2))) (some (.bool false, h49))) (some (.bool false, h49))) (some (.bool false, h49)))) (some (.bool true, q20.2))
noncomputable def d_law11_CostSendsCheapest.v (k : Nat) (args : List Value) (h : Hp) : Option (Value × Hp) := castAL [.agg [.int .i64, .slc], .cell (.int .i64), .cell (.int .i64), .cell (.int .i64)] args fun vs => match vs with | [.agg ⟨[.int .i64 x2, .slice a7 n8 c9]⟩, .int .i64 x14, .int .i64 x15, .int .i64 x16] => d_law11_CostSendsCheapest.r k x2 a7 n8 c9 x14 x15 x16 h | _ => none
theorem d_law11_CostSendsCheapest.r_den (k : Nat) (x2 : Int) (a7 : Option Addr) (n8 : Nat) (c9 : Nat) (x14 : Int) (x15 : Int) (x16 : Int) (h : Hp) : denF ((ctx E1 76 d_law11_CostSendsCheapest.hint (d_law11_CostSendsCheapest.tbl) d_law11_CostSendsCheapest.it (LPof (d_law11_CostSendsCheapest.L)) (YOof (d_law11_CostSendsCheapest.L))) k) Try.f11 [.agg #[.int .i64 x2, .slice a7 n8 c9], .int .i64 x14, .int .i64 x15, .int .i64 x16] h pairK = d_law11_CostSendsCheapest.r k x2 a7 n8 c9 x14 x15 x16 h := by kernel_rfl
theorem d_law11_CostSendsCheapest.L_ok : ∀ i x, (d_law11_CostSendsCheapest.L)[i]? = some x → LOK (ctx E1 76 d_law11_CostSendsCheapest.hint (d_law11_CostSendsCheapest.tbl) d_law11_CostSendsCheapest.it (LPof (d_law11_CostSendsCheapest.L)) (YOof (d_law11_CostSendsCheapest.L))) (ctxY E1 76 d_law11_CostSendsCheapest.hint (d_law11_CostSendsCheapest.tbl)) Try.f11 (todoC d_law11_CostSendsCheapest.body []) i x := by
  exact LOK_nil
theorem d_law11_CostSendsCheapest.snd {H : Pl → Prop} (hH : MonoH H) (k : Nat) : SndF E1 H 11 (d_law11_CostSendsCheapest.v k) := by
  intro args h v h1 hk
  obtain ⟨ht, hk⟩ := castAL_ok hk
  obtain ⟨v0, vs0, rfl, hv0, ht0⟩ := TyAL_cons ht
  obtain ⟨cs1, rfl, hv0c⟩ := hv0
  obtain ⟨w4, cs3, rfl, hw5, hc6⟩ := TyCL_cons hv0c
  obtain ⟨x2, rfl⟩ := hw5
  obtain ⟨w11, cs10, rfl, hw12, hc13⟩ := TyCL_cons hc6
  obtain ⟨a7, n8, c9, rfl⟩ := hw12
  obtain rfl := TyCL_nil hc13
  obtain ⟨v1, vs1, rfl, hv1, ht1⟩ := TyAL_cons ht0
  obtain ⟨x14, rfl⟩ := hv1
  obtain ⟨v2, vs2, rfl, hv2, ht2⟩ := TyAL_cons ht1
  obtain ⟨x15, rfl⟩ := hv2
  obtain ⟨v3, vs3, rfl, hv3, ht3⟩ := TyAL_cons ht2
  obtain ⟨x16, rfl⟩ := hv3
  obtain rfl := TyAL_nil ht3
  refine fn_ok' (E := E1) (N := 76) (g := 11) (F := Try.f11) (hint := d_law11_CostSendsCheapest.hint) (tbl := d_law11_CostSendsCheapest.tbl) (tblY := d_law11_CostSendsCheapest.tbl) (itK := d_law11_CostSendsCheapest.it) (L := d_law11_CostSendsCheapest.L) (body := d_law11_CostSendsCheapest.body) (by kernel_rfl) (by kernel_rfl) (by kernel_rfl) hH ?_ ?_ ?_ d_law11_CostSendsCheapest.L_ok k (by kernel_rfl) ((d_law11_CostSendsCheapest.r_den k x2 a7 n8 c9 x14 x15 x16 h).trans hk)
  · intro k; exact addF_ok (d_ref11_Few.snd hH k) (addF_ok (d_ref11_Task.snd hH k) (addF_ok (d_cost_Send.snd hH k) (addF_ok (d_ref11_Cheapest.snd hH k) (addF_ok (d_ref11_Accept.snd hH k) (addF_ok (d_cost_Accept.snd hH k) (addO_ok (by kernel_rfl) (noTbl_ok k)))))))
  · intro l' p' k; exact addF_ok (d_ref11_Few.snd (hH.pay _ _) k) (addF_ok (d_ref11_Task.snd (hH.pay _ _) k) (addF_ok (d_cost_Send.snd (hH.pay _ _) k) (addF_ok (d_ref11_Cheapest.snd (hH.pay _ _) k) (addF_ok (d_ref11_Accept.snd (hH.pay _ _) k) (addF_ok (d_cost_Accept.snd (hH.pay _ _) k) (addO_ok (by kernel_rfl) (noTbl_ok k)))))))
  · intro k; exact noIt_ok k

/-! ### weirgate/weirgatelaw11.CostAcceptsAsSpecified: function 13 -/
noncomputable def d_law11_CostAcceptsAsSpecified.body : Code := match Try.f13.body with | some b => b | none => .skip
noncomputable def d_law11_CostAcceptsAsSpecified.hint : Nat → Option (Nat × List Ck) := fun d => none
noncomputable def d_law11_CostAcceptsAsSpecified.tbl {R : Type} : TblTy R := addF 57 [.cell .bool] d_ref11_Few.v (addF 55 [.cell .bool] d_ref11_Task.v (addF 60 [.cell (.int .i64)] d_cost_Accept.v (addF 59 [.cell (.int .i64)] d_ref11_Accept.v (addO 52 (noTbl)))))
noncomputable def d_law11_CostAcceptsAsSpecified.it {R : Type} : ItTy R := noIt
noncomputable def d_law11_CostAcceptsAsSpecified.L : List LEnt := []
noncomputable def d_law11_CostAcceptsAsSpecified.r (k : Nat) (x2 : Int) (a7 : Option Addr) (n8 : Nat) (c9 : Nat) (x14 : Int) (x15 : Int) (x16 : Int) (x18 : Int) (x23 : Int) (a28 : Option Addr) (n29 : Nat) (c30 : Nat) (a35 : Option Addr) (n36 : Nat) (c37 : Nat) (a42 : Option Addr) (n43 : Nat) (c44 : Nat) (h : Hp) : Option (Value × Hp) := lt (h.new (.row 0 [.int .i64 x2, .slice a7 n8 c9])) fun h49 => lt (h49.new (.row 0 [.int .i64 x18, .int .i64 x23, .slice a28 n29 c30, .slice a35 n36 c37, .slice a42 n43 c44])) fun h50 => (asI .i64 (rd h50 h.next 0)).bind fun x51 => (asS (rd h50 h.next (0 + 1))).bind fun s52 => (d_ref11_Few.r k x51 s52.a s52.n s52.c 1073741824 h50).bind fun q53 => (asB (some q53.1)).bind fun x54 => bc (!(!x54)) ((asI .i64 (rd q53.2 h.next 0)).bind fun x55 => (asS (rd q53.2 h.next (0 + 1))).bind fun s56 => (d_ref11_Task.r k x55 s56.a s56.n s56.c x14 x15 x16 q53.2).bind fun q57 => (asB (some q57.1)).bind fun x58 => bc (!(!x58)) ((asS (rd q57.2 h49.next (0 + 2))).bind fun s59 => bc (!(decide (((s59.n : Nat) : Int) > 40))) ((asS (rd q57.2 h49.next (0 + 3))).bind fun s60 => bc (!(decide (((s60.n : Nat) : Int) > 40))) ((asS (rd q57.2 h49.next (0 + 4))).bind fun s61 => bc (decide (((s61.n : Nat) : Int) > 40)) (some (.bool true, q57.2)) ((asI .i64 (rd q57.2 h.next 0)).bind fun x62 => (asS (rd q57.2 h.next (0 + 1))).bind fun s63 => ckB (Nat.ble (h.next + 1) q57.2.next) ((asI .i64 (rd q57.2 h49.next 0)).bind fun x64 => (asI .i64 (rd q57.2 h49.next (0 + 1))).bind fun x65 => (asS (rd q57.2 h49.next (0 + 2))).bind fun s66 => (asS (rd q57.2 h49.next (0 + 3))).bind fun s67 => (asS (rd q57.2 h49.next (0 + 4))).bind fun s68 => ckB (Nat.ble (h49.next + 1) q57.2.next) ((d_cost_Accept.r k x62 s63.a s63.n s63.c x14 x15 x16 x64 x65 s66.a s66.n s66.c s67.a s67.n s67.c s68.a s68.n s68.c q57.2).bind fun q69 => (asI .i64 (some q69.1)).bind fun x70 => (asI .i64 (rd q69.2 h.next 0)).bind fun x71 => (asS (rd q69.2 h.next (0 + 1))).bind fun s72 => ckB (Nat.ble (h.next + 1) q57.2.next) (ckE (q57.2.g h.next) (q69.2.g h.next) ((asI .i64 (rd q69.2 h49.next 0)).bind fun x73 => (asI .i64 (rd q69.2 h49.next (0 + 1))).bind fun x74 => (asS (rd q69.2 h49.next (0 + 2))).bind fun s75 => (asS (rd q69.2 h49.next (0 + 3))).bind fun s76 => (asS (rd q69.2 h49.next (0 + 4))).bind fun s77 => ckB (Nat.ble (h49.next + 1) q57.2.next) (ckE (q57.2.g h49.next) (q69.2.g h49.next) ((d_ref11_Accept.r k x71 s72.a s72.n s72.c x14 x15 x16 x73 x74 s75.a s75.n s75.c s76.a s76.n s76.c s77.a s77.n s77.c q69.2).bind fun q78 => (asI .i64 (some q78.1)).bind fun x79 => some (.bool (x70 == x79), q78.2))))))))) (some (.bool true, q57.2))) (some (.bool true, q57.2))) (some (.bool true, q57.2))) (some (.bool true, q53.2))
noncomputable def d_law11_CostAcceptsAsSpecified.v (k : Nat) (args : List Value) (h : Hp) : Option (Value × Hp) := castAL [.agg [.int .i64, .slc], .cell (.int .i64), .cell (.int .i64), .cell (.int .i64), .agg [.int .i64, .int .i64, .slc, .slc, .slc]] args fun vs => match vs with | [.agg ⟨[.int .i64 x2, .slice a7 n8 c9]⟩, .int .i64 x14, .int .i64 x15, .int .i64 x16, .agg ⟨[.int .i64 x18, .int .i64 x23, .slice a28 n29 c30, .slice a35 n36 c37, .slice a42 n43 c44]⟩] => d_law11_CostAcceptsAsSpecified.r k x2 a7 n8 c9 x14 x15 x16 x18 x23 a28 n29 c30 a35 n36 c37 a42 n43 c44 h | _ => none
theorem d_law11_CostAcceptsAsSpecified.r_den (k : Nat) (x2 : Int) (a7 : Option Addr) (n8 : Nat) (c9 : Nat) (x14 : Int) (x15 : Int) (x16 : Int) (x18 : Int) (x23 : Int) (a28 : Option Addr) (n29 : Nat) (c30 : Nat) (a35 : Option Addr) (n36 : Nat) (c37 : Nat) (a42 : Option Addr) (n43 : Nat) (c44 : Nat) (h : Hp) : denF ((ctx E1 59 d_law11_CostAcceptsAsSpecified.hint (d_law11_CostAcceptsAsSpecified.tbl) d_law11_CostAcceptsAsSpecified.it (LPof (d_law11_CostAcceptsAsSpecified.L)) (YOof (d_law11_CostAcceptsAsSpecified.L))) k) Try.f13 [.agg #[.int .i64 x2, .slice a7 n8 c9], .int .i64 x14, .int .i64 x15, .int .i64 x16, .agg #[.int .i64 x18, .int .i64 x23, .slice a28 n29 c30, .slice a35 n36 c37, .slice a42 n43 c44]] h pairK = d_law11_CostAcceptsAsSpecified.r k x2 a7 n8 c9 x14 x15 x16 x18 x23 a28 n29 c30 a35 n36 c37 a42 n43 c44 h := by kernel_rfl
theorem d_law11_CostAcceptsAsSpecified.L_ok : ∀ i x, (d_law11_CostAcceptsAsSpecified.L)[i]? = some x → LOK (ctx E1 59 d_law11_CostAcceptsAsSpecified.hint (d_law11_CostAcceptsAsSpecified.tbl) d_law11_CostAcceptsAsSpecified.it (LPof (d_law11_CostAcceptsAsSpecified.L)) (YOof (d_law11_CostAcceptsAsSpecified.L))) (ctxY E1 59 d_law11_CostAcceptsAsSpecified.hint (d_law11_CostAcceptsAsSpecified.tbl)) Try.f13 (todoC d_law11_CostAcceptsAsSpecified.body []) i x := by
  exact LOK_nil
theorem d_law11_CostAcceptsAsSpecified.snd {H : Pl → Prop} (hH : MonoH H) (k : Nat) : SndF E1 H 13 (d_law11_CostAcceptsAsSpecified.v k) := by
  intro args h v h1 hk
  obtain ⟨ht, hk⟩ := castAL_ok hk
  obtain ⟨v0, vs0, rfl, hv0, ht0⟩ := TyAL_cons ht
  obtain ⟨cs1, rfl, hv0c⟩ := hv0
  obtain ⟨w4, cs3, rfl, hw5, hc6⟩ := TyCL_cons hv0c
  obtain ⟨x2, rfl⟩ := hw5
  obtain ⟨w11, cs10, rfl, hw12, hc13⟩ := TyCL_cons hc6
  obtain ⟨a7, n8, c9, rfl⟩ := hw12
  obtain rfl := TyCL_nil hc13
  obtain ⟨v1, vs1, rfl, hv1, ht1⟩ := TyAL_cons ht0
  obtain ⟨x14, rfl⟩ := hv1
  obtain ⟨v2, vs2, rfl, hv2, ht2⟩ := TyAL_cons ht1
  obtain ⟨x15, rfl⟩ := hv2
  obtain ⟨v3, vs3, rfl, hv3, ht3⟩ := TyAL_cons ht2
  obtain ⟨x16, rfl⟩ := hv3
  obtain ⟨v4, vs4, rfl, hv4, ht4⟩ := TyAL_cons ht3
  obtain ⟨cs17, rfl, hv4c⟩ := hv4
  obtain ⟨w20, cs19, rfl, hw21, hc22⟩ := TyCL_cons hv4c
  obtain ⟨x18, rfl⟩ := hw21
  obtain ⟨w25, cs24, rfl, hw26, hc27⟩ := TyCL_cons hc22
  obtain ⟨x23, rfl⟩ := hw26
  obtain ⟨w32, cs31, rfl, hw33, hc34⟩ := TyCL_cons hc27
  obtain ⟨a28, n29, c30, rfl⟩ := hw33
  obtain ⟨w39, cs38, rfl, hw40, hc41⟩ := TyCL_cons hc34
  obtain ⟨a35, n36, c37, rfl⟩ := hw40
  obtain ⟨w46, cs45, rfl, hw47, hc48⟩ := TyCL_cons hc41
  obtain ⟨a42, n43, c44, rfl⟩ := hw47
  obtain rfl := TyCL_nil hc48
  obtain rfl := TyAL_nil ht4
  refine fn_ok' (E := E1) (N := 59) (g := 13) (F := Try.f13) (hint := d_law11_CostAcceptsAsSpecified.hint) (tbl := d_law11_CostAcceptsAsSpecified.tbl) (tblY := d_law11_CostAcceptsAsSpecified.tbl) (itK := d_law11_CostAcceptsAsSpecified.it) (L := d_law11_CostAcceptsAsSpecified.L) (body := d_law11_CostAcceptsAsSpecified.body) (by kernel_rfl) (by kernel_rfl) (by kernel_rfl) hH ?_ ?_ ?_ d_law11_CostAcceptsAsSpecified.L_ok k (by kernel_rfl) ((d_law11_CostAcceptsAsSpecified.r_den k x2 a7 n8 c9 x14 x15 x16 x18 x23 a28 n29 c30 a35 n36 c37 a42 n43 c44 h).trans hk)
  · intro k; exact addF_ok (d_ref11_Few.snd hH k) (addF_ok (d_ref11_Task.snd hH k) (addF_ok (d_cost_Accept.snd hH k) (addF_ok (d_ref11_Accept.snd hH k) (addO_ok (by kernel_rfl) (noTbl_ok k)))))
  · intro l' p' k; exact addF_ok (d_ref11_Few.snd (hH.pay _ _) k) (addF_ok (d_ref11_Task.snd (hH.pay _ _) k) (addF_ok (d_cost_Accept.snd (hH.pay _ _) k) (addF_ok (d_ref11_Accept.snd (hH.pay _ _) k) (addO_ok (by kernel_rfl) (noTbl_ok k)))))
  · intro k; exact noIt_ok k

/-! ### weirgate/weirgateref11.Next: function 68 -/
noncomputable def d_ref11_Next.body : Code := match Try.f68.body with | some b => b | none => .skip
noncomputable def d_ref11_Next.hint : Nat → Option (Nat × List Ck) := fun d => none
noncomputable def d_ref11_Next.tbl {R : Type} : TblTy R := addF 116 [.agg [.slc, .slc]] d_ref11_Ways.v (addF 117 [.cell (.int .i64)] d_ref11_far.v (noTbl))
noncomputable def d_ref11_Next.it {R : Type} : ItTy R := noIt
noncomputable def d_ref11_Next.L : List LEnt := []
noncomputable def d_ref11_Next.r (k : Nat) (x2 : Int) (a7 : Option Addr) (n8 : Nat) (c9 : Nat) (x14 : Int) (x15 : Int) (a16 : Option Addr) (n17 : Nat) (c18 : Nat) (h : Hp) : Option (Value × Hp) := lt (h.new (.row 0 [.int .i64 x2, .slice a7 n8 c9])) fun h19 => lt (h19.new (.row 0 [.int .i64 0, .bool false])) fun h20 => (asI .i64 (rd h20 h.next 0)).bind fun x21 => (asS (rd h20 h.next (0 + 1))).bind fun s22 => (d_ref11_Ways.r k x21 s22.a s22.n s22.c x14 a16 n17 c18 h20).bind fun q23 => (asA 2 (some q23.1)).bind fun cs24 => (asS0 (nth cs24 0)).bind fun s25 => (asS0 (nth cs24 1)).bind fun s26 => lt (q23.2.new (.row 0 [.slice none 0 0, .slice none 0 0])) fun h27 => (wr h27 q23.2.next 0 [.slice s25.a s25.n s25.c, .slice s26.a s26.n s26.c]).bind fun h28 => (asS (rd h28 q23.2.next 0)).bind fun s29 => ckB (Nat.ble (q23.2.next + 1) h28.next) ((ixA s29.a s29.n 1 x15).bind fun p30 => (asI .i64 (rd h28 p30.1 p30.2)).bind fun x31 => ckB (Nat.ble (p30.1 + 1) h28.next) ((d_ref11_far.r k  h28).bind fun q32 => (asI .i64 (some q32.1)).bind fun x33 => ckE (q32.2.g p30.1) (h28.g p30.1) (ckE (q32.2.g q23.2.next) (h28.g q23.2.next) (bc (x31 == x33) ((wr q32.2 h19.next 0 [.int .i64 0, .bool false]).bind fun h34 => (asI .i64 (rd h34 h19.next 0)).bind fun x35 => (asB (rd h34 h19.next (0 + 1))).bind fun x36 => some (.agg #[.int .i64 x35, .bool x36], h34)) ((asS (rd q32.2 q23.2.next 0)).bind fun s37 => (ixA s37.a s37.n 1 x15).bind fun p38 => (asI .i64 (rd q32.2 p38.1 p38.2)).bind fun x39 => (wr q32.2 h19.next 0 [.int .i64 x39, .bool true]).bind fun h40 => (asI .i64 (rd h40 h19.next 0)).bind fun x41 => (asB (rd h40 h19.next (0 + 1))).bind fun x42 => some (.agg #[.int .i64 x41, .bool x42], h40))))))
noncomputable def d_ref11_Next.v (k : Nat) (args : List Value) (h : Hp) : Option (Value × Hp) := castAL [.agg [.int .i64, .slc], .cell (.int .i64), .cell (.int .i64), .cell .slc] args fun vs => match vs with | [.agg ⟨[.int .i64 x2, .slice a7 n8 c9]⟩, .int .i64 x14, .int .i64 x15, .slice a16 n17 c18] => d_ref11_Next.r k x2 a7 n8 c9 x14 x15 a16 n17 c18 h | _ => none
theorem d_ref11_Next.r_den (k : Nat) (x2 : Int) (a7 : Option Addr) (n8 : Nat) (c9 : Nat) (x14 : Int) (x15 : Int) (a16 : Option Addr) (n17 : Nat) (c18 : Nat) (h : Hp) : denF ((ctx E1 28 d_ref11_Next.hint (d_ref11_Next.tbl) d_ref11_Next.it (LPof (d_ref11_Next.L)) (YOof (d_ref11_Next.L))) k) Try.f68 [.agg #[.int .i64 x2, .slice a7 n8 c9], .int .i64 x14, .int .i64 x15, .slice a16 n17 c18] h pairK = d_ref11_Next.r k x2 a7 n8 c9 x14 x15 a16 n17 c18 h := by kernel_rfl
theorem d_ref11_Next.L_ok : ∀ i x, (d_ref11_Next.L)[i]? = some x → LOK (ctx E1 28 d_ref11_Next.hint (d_ref11_Next.tbl) d_ref11_Next.it (LPof (d_ref11_Next.L)) (YOof (d_ref11_Next.L))) (ctxY E1 28 d_ref11_Next.hint (d_ref11_Next.tbl)) Try.f68 (todoC d_ref11_Next.body []) i x := by
  exact LOK_nil
theorem d_ref11_Next.snd {H : Pl → Prop} (hH : MonoH H) (k : Nat) : SndF E1 H 68 (d_ref11_Next.v k) := by
  intro args h v h1 hk
  obtain ⟨ht, hk⟩ := castAL_ok hk
  obtain ⟨v0, vs0, rfl, hv0, ht0⟩ := TyAL_cons ht
  obtain ⟨cs1, rfl, hv0c⟩ := hv0
  obtain ⟨w4, cs3, rfl, hw5, hc6⟩ := TyCL_cons hv0c
  obtain ⟨x2, rfl⟩ := hw5
  obtain ⟨w11, cs10, rfl, hw12, hc13⟩ := TyCL_cons hc6
  obtain ⟨a7, n8, c9, rfl⟩ := hw12
  obtain rfl := TyCL_nil hc13
  obtain ⟨v1, vs1, rfl, hv1, ht1⟩ := TyAL_cons ht0
  obtain ⟨x14, rfl⟩ := hv1
  obtain ⟨v2, vs2, rfl, hv2, ht2⟩ := TyAL_cons ht1
  obtain ⟨x15, rfl⟩ := hv2
  obtain ⟨v3, vs3, rfl, hv3, ht3⟩ := TyAL_cons ht2
  obtain ⟨a16, n17, c18, rfl⟩ := hv3
  obtain rfl := TyAL_nil ht3
  refine fn_ok' (E := E1) (N := 28) (g := 68) (F := Try.f68) (hint := d_ref11_Next.hint) (tbl := d_ref11_Next.tbl) (tblY := d_ref11_Next.tbl) (itK := d_ref11_Next.it) (L := d_ref11_Next.L) (body := d_ref11_Next.body) (by kernel_rfl) (by kernel_rfl) (by kernel_rfl) hH ?_ ?_ ?_ d_ref11_Next.L_ok k (by kernel_rfl) ((d_ref11_Next.r_den k x2 a7 n8 c9 x14 x15 a16 n17 c18 h).trans hk)
  · intro k; exact addF_ok (d_ref11_Ways.snd hH k) (addF_ok (d_ref11_far.snd hH k) (noTbl_ok k))
  · intro l' p' k; exact addF_ok (d_ref11_Ways.snd (hH.pay _ _) k) (addF_ok (d_ref11_far.snd (hH.pay _ _) k) (noTbl_ok k))
  · intro k; exact noIt_ok k

/-! ### weirgate/weirgatelaw11.CostNextIsDifference: function 14 -/
noncomputable def d_law11_CostNextIsDifference.body : Code := match Try.f14.body with | some b => b | none => .skip
noncomputable def d_law11_CostNextIsDifference.hint : Nat → Option (Nat × List Ck) := fun d => none
noncomputable def d_law11_CostNextIsDifference.tbl {R : Type} : TblTy R := addF 57 [.cell .bool] d_ref11_Few.v (addF 55 [.cell .bool] d_ref11_Task.v (addF 56 [.agg [.int .i64, .int .i64, .slc, .slc, .slc], .cell (.int .i64)] d_cost_Send.v (addF 67 [.cell (.int .i64), .cell .bool] d_cost_Next.v (addF 68 [.agg [.int .i64, .bool]] d_ref11_Next.v (addO 52 (noTbl))))))
noncomputable def d_law11_CostNextIsDifference.it {R : Type} : ItTy R := noIt
noncomputable def d_law11_CostNextIsDifference.L : List LEnt := []
noncomputable def d_law11_CostNextIsDifference.r (k : Nat) (x2 : Int) (a7 : Option Addr) (n8 : Nat) (c9 : Nat) (x14 : Int) (x15 : Int) (x16 : Int) (h : Hp) : Option (Value × Hp) := lt (h.new (.row 0 [.int .i64 x2, .slice a7 n8 c9])) fun h17 => (asI .i64 (rd h17 h.next 0)).bind fun x18 => (asS (rd h17 h.next (0 + 1))).bind fun s19 => (d_ref11_Few.r k x18 s19.a s19.n s19.c 1073741824 h17).bind fun q20 => (asB (some q20.1)).bind fun x21 => bc (!(!x21)) (bc (!(decide (x16 ≥ 1099511627776))) ((asI .i64 (rd q20.2 h.next 0)).bind fun x22 => (asS (rd q20.2 h.next (0 + 1))).bind fun s23 => (d_ref11_Task.r k x22 s23.a s23.n s23.c x14 x15 x16 q20.2).bind fun q24 => (asB (some q24.1)).bind fun x25 => bc (!x25) (some (.bool true, q24.2)) ((asI .i64 (rd q24.2 h.next 0)).bind fun x26 => (asS (rd q24.2 h.next (0 + 1))).bind fun s27 => (d_cost_Send.r k x26 s27.a s27.n s27.c x14 x15 x16 q24.2).bind fun q28 => (asTup 2 q28.1).bind fun cs29 => (asA 5 (nth cs29 0)).bind fun cs30 => (asI .i64 (nth cs30 0)).bind fun x31 => (asI .i64 (nth cs30 1)).bind fun x32 => (asS0 (nth cs30 2)).bind fun s33 => (asS0 (nth cs30 3)).bind fun s34 => (asS0 (nth cs30 4)).bind fun s35 => (asI .i64 (nth cs29 1)).bind fun x36 => lt (q28.2.new (.row 0 [.int .i64 0, .int .i64 0, .slice none 0 0, .slice none 0 0, .slice none 0 0])) fun h37 => (wr h37 q28.2.next 0 [.int .i64 x31, .int .i64 x32, .slice s33.a s33.n s33.c, .slice s34.a s34.n s34.c, .slice s35.a s35.n s35.c]).bind fun h38 => (asI .i64 (rd h38 h.next 0)).bind fun x39 => (asS (rd h38 h.next (0 + 1))).bind fun s40 => (d_cost_Send.r k x39 s40.a s40.n s40.c x14 x15 (w64 (x16 + 1)) h38).bind fun q41 => (asTup 2 q41.1).bind fun cs42 => (asA 5 (nth cs42 0)).bind fun cs43 => (asI .i64 (nth cs43 0)).bind fun x44 => (asI .i64 (nth cs43 1)).bind fun x45 => (asS0 (nth cs43 2)).bind fun s46 => (asS0 (nth cs43 3)).bind fun s47 => (asS0 (nth cs43 4)).bind fun s48 => (asI .i64 (nth cs42 1)).bind fun x49 => lt (q41.2.new (.row 0 [.int .i64 0, .int .i64 0, .slice none 0 0, .slice none 0 0, .slice none 0 0])) fun h50 => (wr h50 q41.2.next 0 [.int .i64 x44, .int .i64 x45, .slice s46.a s46.n s46.c, .slice s47.a s47.n s47.c, .slice s48.a s48.n s48.c]).bind fun h51 => bc (!(!(x36 == 0))) (bc (!(!(x49 == 0))) ((asS (rd h51 q28.2.next (0 + 2))).bind fun s52 => (asS (rd h51 h.next (0 + 1))).bind fun s53 => bc (!(((s52.n : Nat) : Int) == ((s53.n : Nat) : Int))) (some (.bool false, h51)) ((asI .i64 (rd h51 h.next 0)).bind fun x54 => (asS (rd h51 h.next (0 + 1))).bind fun s55 => (asI .i64 (rd h51 q28.2.next 0)).bind fun x56 => (asI .i64 (rd h51 q28.2.next (0 + 1))).bind fun x57 => (asS (rd h51 q28.2.next (0 + 2))).bind fun s58 => (asS (rd h51 q28.2.next (0 + 3))).bind fun s59 => (asS (rd h51 q28.2.next (0 + 4))).bind fun s60 => (d_cost_Next.r k x54 s55.a s55.n s55.c x14 x15 x56 x57 s58.a s58.n s58.c s59.a s59.n s59.c s60.a s60.n s60.c h51).bind fun q61 => (asTup 2 q61.1).bind fun cs62 => (asI .i64 (nth cs62 0)).bind fun x63 => (asB (nth cs62 1)).bind fun x64 => (asI .i64 (rd q61.2 h.next 0)).bind fun x65 => (asS (rd q61.2 h.next (0 + 1))).bind fun s66 => (asS (rd q61.2 q28.2.next (0 + 2))).bind fun s67 => (d_ref11_Next.r k x65 s66.a s66.n s66.c x14 x15 s67.a s67.n s67.c q61.2).bind fun q68 => (asA 2 (some q68.1)).bind fun cs69 => (asI .i64 (nth cs69 0)).bind fun x70 => (asB (nth cs69 1)).bind fun x71 => lt (q68.2.new (.row 0 [.int .i64 0, .bool false])) fun h72 => (wr h72 q68.2.next 0 [.int .i64 x70, .bool x71]).bind fun h73 => (asI .i64 (rd h73 q68.2.next 0)).bind fun x74 => bc (!(!(x63 == x74))) ((asB (rd h73 q68.2.next (0 + 1))).bind fun x75 => bc (!(!(x64 == x75))) ((asI .i64 (rd h73 q41.2.next 0)).bind fun x76 => bc (x76 == (w64 (x16 + 1))) ((asI .i64 (rd h73 q28.2.next 0)).bind fun x77 => bc (!(x64 == (x77 == x16))) (some (.bool false, h73)) (bc (!x64) ((asI .i64 (rd h73 q41.2.next 0)).bind fun x78 => (asI .i64 (rd h73 q28.2.next 0)).bind fun x79 => bc (x78 == x79) ((asI .i64 (rd h73 q41.2.next (0 + 1))).bind fun x80 => (asI .i64 (rd h73 q28.2.next (0 + 1))).bind fun x81 => some (.bool (x80 == x81), h73)) (some (.bool false, h73))) ((asI .i64 (rd h73 h.next 0)).bind fun x82 => (asS (rd h73 h.next (0 + 1))).bind fun s83 => (asI .i64 (rd h73 q41.2.next 0)).bind fun x84 => (asI .i64 (rd h73 q41.2.next (0 + 1))).bind fun x85 => (asS (rd h73 q41.2.next (0 + 2))).bind fun s86 => (asS (rd h73 q41.2.next (0 + 3))).bind fun s87 => (asS (rd h73 q41.2.next (0 + 4))).bind fun s88 => (d_cost_Next.r k x82 s83.a s83.n s83.c x14 x15 x84 x85 s86.a s86.n s86.c s87.a s87.n s87.c s88.a s88.n s88.c h73).bind fun q89 => (asTup 2 q89.1).bind fun cs90 => (asI .i64 (nth cs90 0)).bind fun x91 => (asB (nth cs90 1)).bind fun x92 => (asI .i64 (rd q89.2 q41.2.next (0 + 1))).bind fun x93 => (asI .i64 (rd q89.2 q28.2.next (0 + 1))).bind fun x94 => bc ((w64 (x93 - x94)) == x63) (bc (!(!x92)) (some (.bool (decide (x91 ≥ x63)), q89.2)) (some (.bool true, q89.2))) (some (.bool false, q89.2))))) (bc (!(x64 == false)) (some (.bool false, h73)) (bc (!x64) ((asI .i64 (rd h73 q41.2.next 0)).bind fun x95 => (asI .i64 (rd h73 q28.2.next 0)).bind fun x96 => bc (x95 == x96) ((asI .i64 (rd h73 q41.2.next (0 + 1))).bind fun x97 => (asI .i64 (rd h73 q28.2.next (0 + 1))).bind fun x98 => some (.bool (x97 == x98), h73)) (some (.bool false, h73))) ((asI .i64 (rd h73 h.next 0)).bind fun x99 => (asS (rd h73 h.next (0 + 1))).bind fun s100 => (asI .i64 (rd h73 q41.2.next 0)).bind fun x101 => (asI .i64 (rd h73 q41.2.next (0 + 1))).bind fun x102 => (asS (rd h73 q41.2.next (0 + 2))).bind fun s103 => (asS (rd h73 q41.2.next (0 + 3))).bind fun s104 => (asS (rd h73 q41.2.next (0 + 4))).bind fun s105 => (d_cost_Next.r k x99 s100.a s100.n s100.c x14 x15 x101 x102 s103.a s103.n s103.c s104.a s104.n s104.c s105.a s105.n s105.c h73).bind fun q106 => (asTup 2 q106.1).bind fun cs107 => (asI .i64 (nth cs107 0)).bind fun x108 => (asB (nth cs107 1)).bind fun x109 => (asI .i64 (rd q106.2 q41.2.next (0 + 1))).bind fun x110 => (asI .i64 (rd q106.2 q28.2.next (0 + 1))).bind fun x111 => bc ((w64 (x110 - x111)) == x63) (bc (!(!x109)) (some (.bool (decide (x108 ≥ x63)), q106.2)) (some (.bool true, q106.2))) (some (.bool false, q106.2)))))) (some (.bool false, h73))) (some (.bool false, h73)))) (some (.bool false, h51))) (some (.bool false, h51)))) (some (.bool true, q20.2))) (some (.bool true, q20.2))
noncomputable def d_law11_CostNextIsDifference.v (k : Nat) (args : List Value) (h : Hp) : Option (Value × Hp) := castAL [.agg [.int .i64, .slc], .cell (.int .i64), .cell (.int .i64), .cell (.int .i64)] args fun vs => match vs with | [.agg ⟨[.int .i64 x2, .slice a7 n8 c9]⟩, .int .i64 x14, .int .i64 x15, .int .i64 x16] => d_law11_CostNextIsDifference.r k x2 a7 n8 c9 x14 x15 x16 h | _ => none
theorem d_law11_CostNextIsDifference.r_den (k : Nat) (x2 : Int) (a7 : Option Addr) (n8 : Nat) (c9 : Nat) (x14 : Int) (x15 : Int) (x16 : Int) (h : Hp) : denF ((ctx E1 151 d_law11_CostNextIsDifference.hint (d_law11_CostNextIsDifference.tbl) d_law11_CostNextIsDifference.it (LPof (d_law11_CostNextIsDifference.L)) (YOof (d_law11_CostNextIsDifference.L))) k) Try.f14 [.agg #[.int .i64 x2, .slice a7 n8 c9], .int .i64 x14, .int .i64 x15, .int .i64 x16] h pairK = d_law11_CostNextIsDifference.r k x2 a7 n8 c9 x14 x15 x16 h := by kernel_rfl
theorem d_law11_CostNextIsDifference.L_ok : ∀ i x, (d_law11_CostNextIsDifference.L)[i]? = some x → LOK (ctx E1 151 d_law11_CostNextIsDifference.hint (d_law11_CostNextIsDifference.tbl) d_law11_CostNextIsDifference.it (LPof (d_law11_CostNextIsDifference.L)) (YOof (d_law11_CostNextIsDifference.L))) (ctxY E1 151 d_law11_CostNextIsDifference.hint (d_law11_CostNextIsDifference.tbl)) Try.f14 (todoC d_law11_CostNextIsDifference.body []) i x := by
  exact LOK_nil
theorem d_law11_CostNextIsDifference.snd {H : Pl → Prop} (hH : MonoH H) (k : Nat) : SndF E1 H 14 (d_law11_CostNextIsDifference.v k) := by
  intro args h v h1 hk
  obtain ⟨ht, hk⟩ := castAL_ok hk
  obtain ⟨v0, vs0, rfl, hv0, ht0⟩ := TyAL_cons ht
  obtain ⟨cs1, rfl, hv0c⟩ := hv0
  obtain ⟨w4, cs3, rfl, hw5, hc6⟩ := TyCL_cons hv0c
  obtain ⟨x2, rfl⟩ := hw5
  obtain ⟨w11, cs10, rfl, hw12, hc13⟩ := TyCL_cons hc6
  obtain ⟨a7, n8, c9, rfl⟩ := hw12
  obtain rfl := TyCL_nil hc13
  obtain ⟨v1, vs1, rfl, hv1, ht1⟩ := TyAL_cons ht0
  obtain ⟨x14, rfl⟩ := hv1
  obtain ⟨v2, vs2, rfl, hv2, ht2⟩ := TyAL_cons ht1
  obtain ⟨x15, rfl⟩ := hv2
  obtain ⟨v3, vs3, rfl, hv3, ht3⟩ := TyAL_cons ht2
  obtain ⟨x16, rfl⟩ := hv3
  obtain rfl := TyAL_nil ht3
  refine fn_ok' (E := E1) (N := 151) (g := 14) (F := Try.f14) (hint := d_law11_CostNextIsDifference.hint) (tbl := d_law11_CostNextIsDifference.tbl) (tblY := d_law11_CostNextIsDifference.tbl) (itK := d_law11_CostNextIsDifference.it) (L := d_law11_CostNextIsDifference.L) (body := d_law11_CostNextIsDifference.body) (by kernel_rfl) (by kernel_rfl) (by kernel_rfl) hH ?_ ?_ ?_ d_law11_CostNextIsDifference.L_ok k (by kernel_rfl) ((d_law11_CostNextIsDifference.r_den k x2 a7 n8 c9 x14 x15 x16 h).trans hk)
  · intro k; exact addF_ok (d_ref11_Few.snd hH k) (addF_ok (d_ref11_Task.snd hH k) (addF_ok (d_cost_Send.snd hH k) (addF_ok (d_cost_Next.snd hH k) (addF_ok (d_ref11_Next.snd hH k) (addO_ok (by kernel_rfl) (noTbl_ok k))))))
  · intro l' p' k; exact addF_ok (d_ref11_Few.snd (hH.pay _ _) k) (addF_ok (d_ref11_Task.snd (hH.pay _ _) k) (addF_ok (d_cost_Send.snd (hH.pay _ _) k) (addF_ok (d_cost_Next.snd (hH.pay _ _) k) (addF_ok (d_ref11_Next.snd (hH.pay _ _) k) (addO_ok (by kernel_rfl) (noTbl_ok k))))))
  · intro k; exact noIt_ok k
end Go.Proofs.Ytgikimegikelkaa.Dn
