/- Functions of the program, told over a heap, with their proofs against the machine of lists and tries (printed by dprint.py). -/
import Derived.Test.YtgikimegikelkaaAbE
import Derived.Test.YtgikimegikelkaaAbDen8
import Derived.Test.YtgikimegikelkaaDn7
namespace Go.Proofs.Ytgikimegikelkaa.Dn
open Go Go.Proofs.Ytgikimegikelkaa.Ab Go.Proofs.Ytgikimegikelkaa.AbT Go.Proofs
set_option linter.unusedVariables false
set_option linter.unusedSimpArgs false
set_option maxRecDepth 100000
/-! ### weirgate/weirgatelaw11.CostProofsBound: function 15 -/
noncomputable def d_law11_CostProofsBound.body : Code := match Try.f15.body with | some b => b | none => .skip
noncomputable def d_law11_CostProofsBound.hint : Nat → Option (Nat × List Ck) := fun d => none
noncomputable def d_law11_CostProofsBound.tbl {R : Type} : TblTy R := addF 57 [.cell .bool] d_ref11_Few.v (addF 55 [.cell .bool] d_ref11_Task.v (addF 69 [.cell .bool] d_ref11_Flows.v (addF 60 [.cell (.int .i64)] d_cost_Accept.v (addF 70 [.cell (.int .i64)] d_ref11_Value.v (addF 71 [.cell (.int .i64)] d_ref11_Total.v (addO 52 (noTbl)))))))
noncomputable def d_law11_CostProofsBound.it {R : Type} : ItTy R := noIt
noncomputable def d_law11_CostProofsBound.L : List LEnt := []
noncomputable def d_law11_CostProofsBound.r (k : Nat) (x2 : Int) (a7 : Option Addr) (n8 : Nat) (c9 : Nat) (x14 : Int) (x15 : Int) (x16 : Int) (x18 : Int) (x23 : Int) (a28 : Option Addr) (n29 : Nat) (c30 : Nat) (a35 : Option Addr) (n36 : Nat) (c37 : Nat) (a42 : Option Addr) (n43 : Nat) (c44 : Nat) (a49 : Option Addr) (n50 : Nat) (c51 : Nat) (h : Hp) : Option (Value × Hp) := lt (h.new (.row 0 [.int .i64 x2, .slice a7 n8 c9])) fun h52 => lt (h52.new (.row 0 [.int .i64 x18, .int .i64 x23, .slice a28 n29 c30, .slice a35 n36 c37, .slice a42 n43 c44])) fun h53 => (asI .i64 (rd h53 h.next 0)).bind fun x54 => (asS (rd h53 h.next (0 + 1))).bind fun s55 => (d_ref11_Few.r k x54 s55.a s55.n s55.c 1073741824 h53).bind fun q56 => (asB (some q56.1)).bind fun x57 => bc (!(!x57)) ((asI .i64 (rd q56.2 h.next 0)).bind fun x58 => (asS (rd q56.2 h.next (0 + 1))).bind fun s59 => (d_ref11_Task.r k x58 s59.a s59.n s59.c x14 x15 x16 q56.2).bind fun q60 => (asB (some q60.1)).bind fun x61 => bc (!(!x61)) ((asI .i64 (rd q60.2 h.next 0)).bind fun x62 => (asS (rd q60.2 h.next (0 + 1))).bind fun s63 => (d_ref11_Flows.r k x62 s63.a s63.n s63.c x14 x15 a49 n50 c51 q60.2).bind fun q64 => (asB (some q64.1)).bind fun x65 => bc (!x65) (some (.bool true, q64.2)) ((asI .i64 (rd q64.2 h.next 0)).bind fun x66 => (asS (rd q64.2 h.next (0 + 1))).bind fun s67 => (asI .i64 (rd q64.2 h52.next 0)).bind fun x68 => (asI .i64 (rd q64.2 h52.next (0 + 1))).bind fun x69 => (asS (rd q64.2 h52.next (0 + 2))).bind fun s70 => (asS (rd q64.2 h52.next (0 + 3))).bind fun s71 => (asS (rd q64.2 h52.next (0 + 4))).bind fun s72 => (d_cost_Accept.r k x66 s67.a s67.n s67.c x14 x15 x16 x68 x69 s70.a s70.n s70.c s71.a s71.n s71.c s72.a s72.n s72.c q64.2).bind fun q73 => (asI .i64 (some q73.1)).bind fun x74 => bc (!(x74 == 0)) (some (.bool true, q73.2)) ((asI .i64 (rd q73.2 h.next 0)).bind fun x75 => (asS (rd q73.2 h.next (0 + 1))).bind fun s76 => (d_ref11_Value.r k x75 s76.a s76.n s76.c a49 n50 c51 x14 q73.2).bind fun q77 => (asI .i64 (some q77.1)).bind fun x78 => (asI .i64 (rd q77.2 h52.next 0)).bind fun x79 => ckB (Nat.ble (h52.next + 1) q77.2.next) (bc (x78 == x79) ((asI .i64 (rd q77.2 h.next 0)).bind fun x80 => (asS (rd q77.2 h.next (0 + 1))).bind fun s81 => ckB (Nat.ble (h.next + 1) q77.2.next) ((d_ref11_Total.r k x80 s81.a s81.n s81.c a49 n50 c51 q77.2).bind fun q82 => (asI .i64 (some q82.1)).bind fun x83 => (asI .i64 (rd q82.2 h52.next (0 + 1))).bind fun x84 => ckB (Nat.ble (h52.next + 1) q77.2.next) (ckE (q77.2.g h52.next) (q82.2.g h52.next) (bc (decide (x83 < x84)) (some (.bool false, q82.2)) ((asI .i64 (rd q82.2 h52.next 0)).bind fun x85 => bc (!(x85 == x16)) ((asI .i64 (rd q82.2 h52.next 0)).bind fun x86 => some (.bool (decide (x78 ≤ x86)), q82.2)) (some (.bool true, q82.2))))))) ((asI .i64 (rd q77.2 h52.next 0)).bind fun x87 => bc (!(x87 == x16)) ((asI .i64 (rd q77.2 h52.next 0)).bind fun x88 => some (.bool (decide (x78 ≤ x88)), q77.2)) (some (.bool true, q77.2))))))) (some (.bool true, q60.2))) (some (.bool true, q56.2))
noncomputable def d_law11_CostProofsBound.v (k : Nat) (args : List Value) (h : Hp) : Option (Value × Hp) := castAL [.agg [.int .i64, .slc], .cell (.int .i64), .cell (.int .i64), .cell (.int .i64), .agg [.int .i64, .int .i64, .slc, .slc, .slc], .cell .slc] args fun vs => match vs with | [.agg ⟨[.int .i64 x2, .slice a7 n8 c9]⟩, .int .i64 x14, .int .i64 x15, .int .i64 x16, .agg ⟨[.int .i64 x18, .int .i64 x23, .slice a28 n29 c30, .slice a35 n36 c37, .slice a42 n43 c44]⟩, .slice a49 n50 c51] => d_law11_CostProofsBound.r k x2 a7 n8 c9 x14 x15 x16 x18 x23 a28 n29 c30 a35 n36 c37 a42 n43 c44 a49 n50 c51 h | _ => none
theorem d_law11_CostProofsBound.r_den (k : Nat) (x2 : Int) (a7 : Option Addr) (n8 : Nat) (c9 : Nat) (x14 : Int) (x15 : Int) (x16 : Int) (x18 : Int) (x23 : Int) (a28 : Option Addr) (n29 : Nat) (c30 : Nat) (a35 : Option Addr) (n36 : Nat) (c37 : Nat) (a42 : Option Addr) (n43 : Nat) (c44 : Nat) (a49 : Option Addr) (n50 : Nat) (c51 : Nat) (h : Hp) : denF ((ctx E1 73 d_law11_CostProofsBound.hint (d_law11_CostProofsBound.tbl) d_law11_CostProofsBound.it (LPof (d_law11_CostProofsBound.L)) (YOof (d_law11_CostProofsBound.L))) k) Try.f15 [.agg #[.int .i64 x2, .slice a7 n8 c9], .int .i64 x14, .int .i64 x15, .int .i64 x16, .agg #[.int .i64 x18, .int .i64 x23, .slice a28 n29 c30, .slice a35 n36 c37, .slice a42 n43 c44], .slice a49 n50 c51] h pairK = d_law11_CostProofsBound.r k x2 a7 n8 c9 x14 x15 x16 x18 x23 a28 n29 c30 a35 n36 c37 a42 n43 c44 a49 n50 c51 h := by kernel_rfl
theorem d_law11_CostProofsBound.L_ok : ∀ i x, (d_law11_CostProofsBound.L)[i]? = some x → LOK (ctx E1 73 d_law11_CostProofsBound.hint (d_law11_CostProofsBound.tbl) d_law11_CostProofsBound.it (LPof (d_law11_CostProofsBound.L)) (YOof (d_law11_CostProofsBound.L))) (ctxY E1 73 d_law11_CostProofsBound.hint (d_law11_CostProofsBound.tbl)) Try.f15 (todoC d_law11_CostProofsBound.body []) i x := by
  exact LOK_nil
theorem d_law11_CostProofsBound.snd {H : Pl → Prop} (hH : MonoH H) (k : Nat) : SndF E1 H 15 (d_law11_CostProofsBound.v k) := by
  intro args h v h1 hk
  obtain ⟨ht, hk⟩ := castAL_ok hk
  obtain ⟨v0, vs0, rfl, hv0, ht0⟩ := TyAL_cons ht
  obtain ⟨cs1, rfl, hv0c⟩ := hv0
  obtain ⟨w4, cs3, rfl, hw5, hc6⟩ := TyCL_cons hv0c
  obtain ⟨x2, rfl⟩ := hw5
  obtain ⟨w11, cs10, rfl, hw12, hc13⟩ := TyCL_cons hc6
  obtain ⟨a7, n8, c9, rfl⟩ := hw12
  obtain rfl := TyCL_nil hc13
  obtain ⟨v1, vs1, rfl, hv1, ht1⟩ := TyAL_cons ht0
  obtain ⟨x14, rfl⟩ := hv1
  obtain ⟨v2, vs2, rfl, hv2, ht2⟩ := TyAL_cons ht1
  obtain ⟨x15, rfl⟩ := hv2
  obtain ⟨v3, vs3, rfl, hv3, ht3⟩ := TyAL_cons ht2
  obtain ⟨x16, rfl⟩ := hv3
  obtain ⟨v4, vs4, rfl, hv4, ht4⟩ := TyAL_cons ht3
  obtain ⟨cs17, rfl, hv4c⟩ := hv4
  obtain ⟨w20, cs19, rfl, hw21, hc22⟩ := TyCL_cons hv4c
  obtain ⟨x18, rfl⟩ := hw21
  obtain ⟨w25, cs24, rfl, hw26, hc27⟩ := TyCL_cons hc22
  obtain ⟨x23, rfl⟩ := hw26
  obtain ⟨w32, cs31, rfl, hw33, hc34⟩ := TyCL_cons hc27
  obtain ⟨a28, n29, c30, rfl⟩ := hw33
  obtain ⟨w39, cs38, rfl, hw40, hc41⟩ := TyCL_cons hc34
  obtain ⟨a35, n36, c37, rfl⟩ := hw40
  obtain ⟨w46, cs45, rfl, hw47, hc48⟩ := TyCL_cons hc41
  obtain ⟨a42, n43, c44, rfl⟩ := hw47
  obtain rfl := TyCL_nil hc48
  obtain ⟨v5, vs5, rfl, hv5, ht5⟩ := TyAL_cons ht4
  obtain ⟨a49, n50, c51, rfl⟩ := hv5
  obtain rfl := TyAL_nil ht5
  refine fn_ok' (E := E1) (N := 73) (g := 15) (F := Try.f15) (hint := d_law11_CostProofsBound.hint) (tbl := d_law11_CostProofsBound.tbl) (tblY := d_law11_CostProofsBound.tbl) (itK := d_law11_CostProofsBound.it) (L := d_law11_CostProofsBound.L) (body := d_law11_CostProofsBound.body) (by kernel_rfl) (by kernel_rfl) (by kernel_rfl) hH ?_ ?_ ?_ d_law11_CostProofsBound.L_ok k (by kernel_rfl) ((d_law11_CostProofsBound.r_den k x2 a7 n8 c9 x14 x15 x16 x18 x23 a28 n29 c30 a35 n36 c37 a42 n43 c44 a49 n50 c51 h).trans hk)
  · intro k; exact addF_ok (d_ref11_Few.snd hH k) (addF_ok (d_ref11_Task.snd hH k) (addF_ok (d_ref11_Flows.snd hH k) (addF_ok (d_cost_Accept.snd hH k) (addF_ok (d_ref11_Value.snd hH k) (addF_ok (d_ref11_Total.snd hH k) (addO_ok (by kernel_rfl) (noTbl_ok k)))))))
  · intro l' p' k; exact addF_ok (d_ref11_Few.snd (hH.pay _ _) k) (addF_ok (d_ref11_Task.snd (hH.pay _ _) k) (addF_ok (d_ref11_Flows.snd (hH.pay _ _) k) (addF_ok (d_cost_Accept.snd (hH.pay _ _) k) (addF_ok (d_ref11_Value.snd (hH.pay _ _) k) (addF_ok (d_ref11_Total.snd (hH.pay _ _) k) (addO_ok (by kernel_rfl) (noTbl_ok k)))))))
  · intro k; exact noIt_ok k

/-! ### weirgate/weirgatelaw11.CostFallsWithCapacity: function 16 -/
noncomputable def d_law11_CostFallsWithCapacity.body : Code := match Try.f16.body with | some b => b | none => .skip
noncomputable def d_law11_CostFallsWithCapacity.hint : Nat → Option (Nat × List Ck) := fun d => none
noncomputable def d_law11_CostFallsWithCapacity.tbl {R : Type} : TblTy R := addF 57 [.cell .bool] d_ref11_Few.v (addF 55 [.cell .bool] d_ref11_Task.v (addF 56 [.agg [.int .i64, .int .i64, .slc, .slc, .slc], .cell (.int .i64)] d_cost_Send.v (addO 52 (noTbl))))
noncomputable def d_law11_CostFallsWithCapacity.it {R : Type} : ItTy R := noIt
noncomputable def d_law11_CostFallsWithCapacity.L : List LEnt := []
noncomputable def d_law11_CostFallsWithCapacity.r (k : Nat) (x2 : Int) (a7 : Option Addr) (n8 : Nat) (c9 : Nat) (x14 : Int) (x15 : Int) (x16 : Int) (x17 : Int) (x18 : Int) (x19 : Int) (h : Hp) : Option (Value × Hp) := lt (h.new (.row 0 [.int .i64 x2, .slice a7 n8 c9])) fun h20 => (asI .i64 (rd h20 h.next 0)).bind fun x21 => (asS (rd h20 h.next (0 + 1))).bind fun s22 => (d_ref11_Few.r k x21 s22.a s22.n s22.c 1048576 h20).bind fun q23 => (asB (some q23.1)).bind fun x24 => bc (!(!x24)) ((asS (rd q23.2 h.next (0 + 1))).bind fun s25 => bc (!(((s25.n : Nat) : Int) == 0)) ((asI .i64 (rd q23.2 h.next 0)).bind fun x26 => (asS (rd q23.2 h.next (0 + 1))).bind fun s27 => (d_ref11_Task.r k x26 s27.a s27.n s27.c x14 x15 x16 q23.2).bind fun q28 => (asB (some q28.1)).bind fun x29 => bc (!x29) (some (.bool true, q28.2)) ((asI .i64 (rd q28.2 h.next 0)).bind fun x30 => ckB (Nat.ble (h.next + 1) q28.2.next) (lt q28.2.bump fun h31 => (asS (rd h31 h.next (0 + 1))).bind fun s32 => ckB (Nat.ble (h.next + 1) q28.2.next) (lt (h31.set q28.2.next (.row 4 [])) fun h33 => (appS h33 4 (some ⟨q28.2.next, 0, none⟩) 0 0 s32.a s32.n).bind fun q34 => ckE (q34.2.g h.next) (q28.2.g h.next) (lt q34.2.bump fun h35 => lt (h35.set q34.2.next (.row 0 [.int .i64 0, .slice none 0 0])) fun h36 => (wr h36 q34.2.next 0 [.int .i64 x30, .slice q34.1.a q34.1.n q34.1.c]).bind fun h37 => (asS (rd h37 q34.2.next (0 + 1))).bind fun s38 => ckB (!(((s38.n : Nat) : Int) == 0)) ((asS (rd h37 q34.2.next (0 + 1))).bind fun s39 => ckB (Nat.ble (q34.2.next + 1) h37.next) ((asS (rd h37 q34.2.next (0 + 1))).bind fun s40 => ckB (Nat.ble (q34.2.next + 1) h37.next) ((ixA s40.a s40.n 4 (Int.tmod (IntKind.wrap .i64 x17) ((s38.n : Nat) : Int))).bind fun p41 => (asI .i64 (rd h37 p41.1 (p41.2 + 2))).bind fun x42 => ckB (Nat.ble (p41.1 + 1) h37.next) ((ixA s39.a s39.n 4 (Int.tmod (IntKind.wrap .i64 x17) ((s38.n : Nat) : Int))).bind fun p43 => (wr h37 p43.1 (p43.2 + 2) [.int .i64 (w64 (x42 + (IntKind.wrap .i64 x18)))]).bind fun h44 => (asS (rd h44 q34.2.next (0 + 1))).bind fun s45 => ckB (Nat.ble (q34.2.next + 1) h44.next) ((asS (rd h44 q34.2.next (0 + 1))).bind fun s46 => ckB (Nat.ble (q34.2.next + 1) h44.next) ((ixA s46.a s46.n 4 (Int.tmod (IntKind.wrap .i64 x17) ((s38.n : Nat) : Int))).bind fun p47 => (asI .i64 (rd h44 p47.1 (p47.2 + 3))).bind fun x48 => ckB (Nat.ble (p47.1 + 1) h44.next) ((ixA s45.a s45.n 4 (Int.tmod (IntKind.wrap .i64 x17) ((s38.n : Nat) : Int))).bind fun p49 => (wr h44 p49.1 (p49.2 + 3) [.int .i64 (mxI (w64 (x48 - (IntKind.wrap .i64 x19))) 0)]).bind fun h50 => (asI .i64 (rd h50 h.next 0)).bind fun x51 => (asS (rd h50 h.next (0 + 1))).bind fun s52 => (d_cost_Send.r k x51 s52.a s52.n s52.c x14 x15 x16 h50).bind fun q53 => (asTup 2 q53.1).bind fun cs54 => (asA 5 (nth cs54 0)).bind fun cs55 => (asI .i64 (nth cs55 0)).bind fun x56 => (asI .i64 (nth cs55 1)).bind fun x57 => (asS0 (nth cs55 2)).bind fun s58 => (asS0 (nth cs55 3)).bind fun s59 => (asS0 (nth cs55 4)).bind fun s60 => (asI .i64 (nth cs54 1)).bind fun x61 => lt (q53.2.new (.row 0 [.int .i64 0, .int .i64 0, .slice none 0 0, .slice none 0 0, .slice none 0 0])) fun h62 => (wr h62 q53.2.next 0 [.int .i64 x56, .int .i64 x57, .slice s58.a s58.n s58.c, .slice s59.a s59.n s59.c, .slice s60.a s60.n s60.c]).bind fun h63 => (asI .i64 (rd h63 q34.2.next 0)).bind fun x64 => (asS (rd h63 q34.2.next (0 + 1))).bind fun s65 => (d_cost_Send.r k x64 s65.a s65.n s65.c x14 x15 x16 h63).bind fun q66 => (asTup 2 q66.1).bind fun cs67 => (asA 5 (nth cs67 0)).bind fun cs68 => (asI .i64 (nth cs68 0)).bind fun x69 => (asI .i64 (nth cs68 1)).bind fun x70 => (asS0 (nth cs68 2)).bind fun s71 => (asS0 (nth cs68 3)).bind fun s72 => (asS0 (nth cs68 4)).bind fun s73 => (asI .i64 (nth cs67 1)).bind fun x74 => lt (q66.2.new (.row 0 [.int .i64 0, .int .i64 0, .slice none 0 0, .slice none 0 0, .slice none 0 0])) fun h75 => (wr h75 q66.2.next 0 [.int .i64 x69, .int .i64 x70, .slice s71.a s71.n s71.c, .slice s72.a s72.n s72.c, .slice s73.a s73.n s73.c]).bind fun h76 => bc (!(!(x61 == 0))) (bc (!(!(x74 == 0))) ((asI .i64 (rd h76 q66.2.next 0)).bind fun x77 => (asI .i64 (rd h76 q53.2.next 0)).bind fun x78 => bc (decide (x77 < x78)) (some (.bool false, h76)) ((asI .i64 (rd h76 q34.2.next 0)).bind fun x79 => (asS (rd h76 q34.2.next (0 + 1))).bind fun s80 => (asI .i64 (rd h76 q53.2.next 0)).bind fun x81 => (d_cost_Send.r k x79 s80.a s80.n s80.c x14 x15 x81 h76).bind fun q82 => (asTup 2 q82.1).bind fun cs83 => (asA 5 (nth cs83 0)).bind fun cs84 => (asI .i64 (nth cs84 0)).bind fun x85 => (asI .i64 (nth cs84 1)).bind fun x86 => (asS0 (nth cs84 2)).bind fun s87 => (asS0 (nth cs84 3)).bind fun s88 => (asS0 (nth cs84 4)).bind fun s89 => (asI .i64 (nth cs83 1)).bind fun x90 => lt (q82.2.new (.row 0 [.int .i64 0, .int .i64 0, .slice none 0 0, .slice none 0 0, .slice none 0 0])) fun h91 => (wr h91 q82.2.next 0 [.int .i64 x85, .int .i64 x86, .slice s87.a s87.n s87.c, .slice s88.a s88.n s88.c, .slice s89.a s89.n s89.c]).bind fun h92 => bc (x90 == 0) ((asI .i64 (rd h92 q82.2.next 0)).bind fun x93 => (asI .i64 (rd h92 q53.2.next 0)).bind fun x94 => bc (x93 == x94) ((asI .i64 (rd h92 q82.2.next (0 + 1))).bind fun x95 => (asI .i64 (rd h92 q53.2.next (0 + 1))).bind fun x96 => some (.bool (decide (x95 ≤ x96)), h92)) (some (.bool false, h92))) (some (.bool false, h92)))) (some (.bool false, h76))) (some (.bool false, h76)))))))))))))) (some (.bool true, q23.2))) (some (.bool true, q23.2))
noncomputable def d_law11_CostFallsWithCapacity.v (k : Nat) (args : List Value) (h : Hp) : Option (Value × Hp) := castAL [.agg [.int .i64, .slc], .cell (.int .i64), .cell (.int .i64), .cell (.int .i64), .cell (.int .u8), .cell (.int .u16), .cell (.int .u16)] args fun vs => match vs with | [.agg ⟨[.int .i64 x2, .slice a7 n8 c9]⟩, .int .i64 x14, .int .i64 x15, .int .i64 x16, .int .u8 x17, .int .u16 x18, .int .u16 x19] => d_law11_CostFallsWithCapacity.r k x2 a7 n8 c9 x14 x15 x16 x17 x18 x19 h | _ => none
theorem d_law11_CostFallsWithCapacity.r_den (k : Nat) (x2 : Int) (a7 : Option Addr) (n8 : Nat) (c9 : Nat) (x14 : Int) (x15 : Int) (x16 : Int) (x17 : Int) (x18 : Int) (x19 : Int) (h : Hp) : denF ((ctx E1 142 d_law11_CostFallsWithCapacity.hint (d_law11_CostFallsWithCapacity.tbl) d_law11_CostFallsWithCapacity.it (LPof (d_law11_CostFallsWithCapacity.L)) (YOof (d_law11_CostFallsWithCapacity.L))) k) Try.f16 [.agg #[.int .i64 x2, .slice a7 n8 c9], .int .i64 x14, .int .i64 x15, .int .i64 x16, .int .u8 x17, .int .u16 x18, .int .u16 x19] h pairK = d_law11_CostFallsWithCapacity.r k x2 a7 n8 c9 x14 x15 x16 x17 x18 x19 h := by kernel_rfl
theorem d_law11_CostFallsWithCapacity.L_ok : ∀ i x, (d_law11_CostFallsWithCapacity.L)[i]? = some x → LOK (ctx E1 142 d_law11_CostFallsWithCapacity.hint (d_law11_CostFallsWithCapacity.tbl) d_law11_CostFallsWithCapacity.it (LPof (d_law11_CostFallsWithCapacity.L)) (YOof (d_law11_CostFallsWithCapacity.L))) (ctxY E1 142 d_law11_CostFallsWithCapacity.hint (d_law11_CostFallsWithCapacity.tbl)) Try.f16 (todoC d_law11_CostFallsWithCapacity.body []) i x := by
  exact LOK_nil
theorem d_law11_CostFallsWithCapacity.snd {H : Pl → Prop} (hH : MonoH H) (k : Nat) : SndF E1 H 16 (d_law11_CostFallsWithCapacity.v k) := by
  intro args h v h1 hk
  obtain ⟨ht, hk⟩ := castAL_ok hk
  obtain ⟨v0, vs0, rfl, hv0, ht0⟩ := TyAL_cons ht
  obtain ⟨cs1, rfl, hv0c⟩ := hv0
  obtain ⟨w4, cs3, rfl, hw5, hc6⟩ := TyCL_cons hv0c
  obtain ⟨x2, rfl⟩ := hw5
  obtain ⟨w11, cs10, rfl, hw12, hc13⟩ := TyCL_cons hc6
  obtain ⟨a7, n8, c9, rfl⟩ := hw12
  obtain rfl := TyCL_nil hc13
  obtain ⟨v1, vs1, rfl, hv1, ht1⟩ := TyAL_cons ht0
  obtain ⟨x14, rfl⟩ := hv1
  obtain ⟨v2, vs2, rfl, hv2, ht2⟩ := TyAL_cons ht1
  obtain ⟨x15, rfl⟩ := hv2
  obtain ⟨v3, vs3, rfl, hv3, ht3⟩ := TyAL_cons ht2
  obtain ⟨x16, rfl⟩ := hv3
  obtain ⟨v4, vs4, rfl, hv4, ht4⟩ := TyAL_cons ht3
  obtain ⟨x17, rfl⟩ := hv4
  obtain ⟨v5, vs5, rfl, hv5, ht5⟩ := TyAL_cons ht4
  obtain ⟨x18, rfl⟩ := hv5
  obtain ⟨v6, vs6, rfl, hv6, ht6⟩ := TyAL_cons ht5
  obtain ⟨x19, rfl⟩ := hv6
  obtain rfl := TyAL_nil ht6
  refine fn_ok' (E := E1) (N := 142) (g := 16) (F := Try.f16) (hint := d_law11_CostFallsWithCapacity.hint) (tbl := d_law11_CostFallsWithCapacity.tbl) (tblY := d_law11_CostFallsWithCapacity.tbl) (itK := d_law11_CostFallsWithCapacity.it) (L := d_law11_CostFallsWithCapacity.L) (body := d_law11_CostFallsWithCapacity.body) (by kernel_rfl) (by kernel_rfl) (by kernel_rfl) hH ?_ ?_ ?_ d_law11_CostFallsWithCapacity.L_ok k (by kernel_rfl) ((d_law11_CostFallsWithCapacity.r_den k x2 a7 n8 c9 x14 x15 x16 x17 x18 x19 h).trans hk)
  · intro k; exact addF_ok (d_ref11_Few.snd hH k) (addF_ok (d_ref11_Task.snd hH k) (addF_ok (d_cost_Send.snd hH k) (addO_ok (by kernel_rfl) (noTbl_ok k))))
  · intro l' p' k; exact addF_ok (d_ref11_Few.snd (hH.pay _ _) k) (addF_ok (d_ref11_Task.snd (hH.pay _ _) k) (addF_ok (d_cost_Send.snd (hH.pay _ _) k) (addO_ok (by kernel_rfl) (noTbl_ok k))))
  · intro k; exact noIt_ok k
end Go.Proofs.Ytgikimegikelkaa.Dn
