/- Functions of the program, told over a heap, with their proofs against the machine of lists and tries (printed by dprint.py). -/
import Derived.Test.YtgikimegikelkaaAbE
import Derived.Test.YtgikimegikelkaaAbDen8
import Derived.Test.YtgikimegikelkaaDn4
namespace Go.Proofs.Ytgikimegikelkaa.Dn
open Go Go.Proofs.Ytgikimegikelkaa.Ab Go.Proofs.Ytgikimegikelkaa.AbT Go.Proofs
set_option linter.unusedVariables false
set_option linter.unusedSimpArgs false
set_option maxRecDepth 100000
/-! ### weirgate/weirgateref11.Ways: function 116 -/
noncomputable def d_ref11_Ways.body : Code := match Try.f116.body with | some b => b | none => .skip
noncomputable def d_ref11_Ways.hint : Nat → Option (Nat × List Ck) := fun d => none
noncomputable def d_ref11_Ways.tbl {R : Type} : TblTy R := addF 117 [.cell (.int .i64)] d_ref11_far.v (noTbl)
noncomputable def d_ref11_Ways.it {R : Type} : ItTy R := noIt
noncomputable def d_ref11_Ways.b0 (k : Nat) (L0 : Int → Option Addr → Nat → Nat → Nat → Nat → Nat → Nat → Nat → Nat → Int → List Nat → Hp → Option (Value × Hp)) (L1 : Option Addr → Nat → Nat → Nat → Nat → Nat → Nat → Nat → Nat → Int → List Nat → Hp → Option (Value × Hp)) (L2 : Option Addr → Nat → Nat → Nat → Nat → Nat → Nat → Nat → Nat → Int → Bool → Int → List Nat → Hp → Option (Value × Hp)) (x22 : Int) (a23 : Option Addr) (n24 : Nat) (c25 : Nat) (b26 : Nat) (o27 : Nat) (b28 : Nat) (o29 : Nat) (b30 : Nat) (o31 : Nat) (x32 : Int) (mk : List Nat) (h : Hp) : Option (Value × Hp) := (asI .i64 (rd h b26 o27)).bind fun x33 => bc (decide (x32 < x33)) ((asS (rd h b30 o31)).bind fun s34 => ckB (Nat.ble (b30 + 1) h.next) ((d_ref11_far.r k  h).bind fun q35 => (asI .i64 (some q35.1)).bind fun x36 => ckE (q35.2.g b30) (h.g b30) (lt q35.2.bump fun h37 => lt (h37.set q35.2.next (.row 1 [.int .i64 x36])) fun h38 => (appS h38 1 s34.a s34.n s34.c (some ⟨q35.2.next, 0, none⟩) 1).bind fun q39 => (wr q39.2 b30 o31 [.slice q39.1.a q39.1.n q39.1.c]).bind fun h40 => (asS (rd h40 b30 (o31 + 1))).bind fun s41 => lt (h40.new (.row 1 [.int .i64 0])) fun h42 => (appS h42 1 s41.a s41.n s41.c (some ⟨h40.next, 0, none⟩) 1).bind fun q43 => (wr q43.2 b30 (o31 + 1) [.slice q43.1.a q43.1.n q43.1.c]).bind fun h44 => L0 x22 a23 n24 c25 b26 o27 b28 o29 b30 o31 (w64 (x32 + 1)) mk h44))) ((asS (rd h b30 o31)).bind fun s45 => (ixA s45.a s45.n 1 x22).bind fun p46 => (wr h p46.1 p46.2 [.int .i64 0]).bind fun h47 => L1 a23 n24 c25 b26 o27 b28 o29 b30 o31 0 mk h47)
noncomputable def d_ref11_Ways.b1 (k : Nat) (L0 : Int → Option Addr → Nat → Nat → Nat → Nat → Nat → Nat → Nat → Nat → Int → List Nat → Hp → Option (Value × Hp)) (L1 : Option Addr → Nat → Nat → Nat → Nat → Nat → Nat → Nat → Nat → Int → List Nat → Hp → Option (Value × Hp)) (L2 : Option Addr → Nat → Nat → Nat → Nat → Nat → Nat → Nat → Nat → Int → Bool → Int → List Nat → Hp → Option (Value × Hp)) (a48 : Option Addr) (n49 : Nat) (c50 : Nat) (b51 : Nat) (o52 : Nat) (b53 : Nat) (o54 : Nat) (b55 : Nat) (o56 : Nat) (x57 : Int) (mk : List Nat) (h : Hp) : Option (Value × Hp) := (asI .i64 (rd h b51 o52)).bind fun x58 => bc (decide (x57 ≤ x58)) (L2 a48 n49 c50 b51 o52 b53 o54 b55 o56 x57 false 0 mk h) ((asS (rd h b55 o56)).bind fun s59 => (asS (rd h b55 (o56 + 1))).bind fun s60 => (wr h b53 o54 [.slice s59.a s59.n s59.c, .slice s60.a s60.n s60.c]).bind fun h61 => (takeM h61 mk).bind fun h62 => (asS (rd h62 b53 o54)).bind fun s63 => (asS (rd h62 b53 (o54 + 1))).bind fun s64 => some (.agg #[.slice s63.a s63.n s63.c, .slice s64.a s64.n s64.c], h62))
noncomputable def d_ref11_Ways.b2 (k : Nat) (L0 : Int → Option Addr → Nat → Nat → Nat → Nat → Nat → Nat → Nat → Nat → Int → List Nat → Hp → Option (Value × Hp)) (L1 : Option Addr → Nat → Nat → Nat → Nat → Nat → Nat → Nat → Nat → Int → List Nat → Hp → Option (Value × Hp)) (L2 : Option Addr → Nat → Nat → Nat → Nat → Nat → Nat → Nat → Nat → Int → Bool → Int → List Nat → Hp → Option (Value × Hp)) (a65 : Option Addr) (n66 : Nat) (c67 : Nat) (b68 : Nat) (o69 : Nat) (b70 : Nat) (o71 : Nat) (b72 : Nat) (o73 : Nat) (x74 : Int) (x75 : Bool) (x76 : Int) (mk : List Nat) (h : Hp) : Option (Value × Hp) := (asS (rd h b68 (o69 + 1))).bind fun s77 => bc (decide (x76 < ((s77.n : Nat) : Int))) ((asS (rd h b68 (o69 + 1))).bind fun s78 => (ixA s78.a s78.n 4 x76).bind fun p79 => (asI .i64 (rd h p79.1 p79.2)).bind fun x80 => (asI .i64 (rd h p79.1 (p79.2 + 1))).bind fun x81 => (asI .i64 (rd h p79.1 (p79.2 + 2))).bind fun x82 => (asI .i64 (rd h p79.1 (p79.2 + 3))).bind fun x83 => lt (h.new (.row 0 [.int .i64 0, .int .i64 0, .int .i64 0, .int .i64 0])) fun h84 => (wr h84 h.next 0 [.int .i64 x80, .int .i64 x81, .int .i64 x82, .int .i64 x83]).bind fun h85 => (ixA a65 n66 1 x76).bind fun p86 => (asI .i64 (rd h85 p86.1 p86.2)).bind fun x87 => ckB (Nat.ble (p86.1 + 1) h85.next) ((asI .i64 (rd h85 h.next (0 + 2))).bind fun x88 => ckB (Nat.ble (h.next + 1) h85.next) (bc (decide (x87 < x88)) ((asS (rd h85 b72 o73)).bind fun s89 => ckB (Nat.ble (b72 + 1) h85.next) ((asI .i64 (rd h85 h.next 0)).bind fun x90 => ckB (Nat.ble (h.next + 1) h85.next) ((ixA s89.a s89.n 1 x90).bind fun p91 => (asI .i64 (rd h85 p91.1 p91.2)).bind fun x92 => ckB (Nat.ble (p91.1 + 1) h85.next) ((d_ref11_far.r k  h85).bind fun q93 => (asI .i64 (some q93.1)).bind fun x94 => ckE (q93.2.g p91.1) (h85.g p91.1) (ckE (q93.2.g h.next) (h85.g h.next) (ckE (q93.2.g b72) (h85.g b72) (bc (decide (x92 < x94)) ((asS (rd q93.2 b72 o73)).bind fun s95 => ckB (Nat.ble (b72 + 1) h85.next) ((asI .i64 (rd q93.2 h.next 0)).bind fun x96 => ckB (Nat.ble (h.next + 1) h85.next) ((ixA s95.a s95.n 1 x96).bind fun p97 => (asI .i64 (rd q93.2 p97.1 p97.2)).bind fun x98 => ckB (Nat.ble (p97.1 + 1) h85.next) ((asI .i64 (rd q93.2 h.next (0 + 3))).bind fun x99 => ckB (Nat.ble (h.next + 1) h85.next) ((asS (rd q93.2 b72 o73)).bind fun s100 => ckB (Nat.ble (b72 + 1) h85.next) ((asI .i64 (rd q93.2 h.next (0 + 1))).bind fun x101 => ckB (Nat.ble (h.next + 1) h85.next) ((ixA s100.a s100.n 1 x101).bind fun p102 => (asI .i64 (rd q93.2 p102.1 p102.2)).bind fun x103 => ckB (Nat.ble (p102.1 + 1) h85.next) (bc (decide ((w64 (x98 + x99)) < x103)) ((asS (rd q93.2 b72 o73)).bind fun s104 => ckB (Nat.ble (b72 + 1) q93.2.next) ((asI .i64 (rd q93.2 h.next (0 + 1))).bind fun x105 => ckB (Nat.ble (h.next + 1) q93.2.next) ((asS (rd q93.2 b72 o73)).bind fun s106 => ckB (Nat.ble (b72 + 1) q93.2.next) ((asI .i64 (rd q93.2 h.next 0)).bind fun x107 => ckB (Nat.ble (h.next + 1) q93.2.next) ((ixA s106.a s106.n 1 x107).bind fun p108 => (asI .i64 (rd q93.2 p108.1 p108.2)).bind fun x109 => ckB (Nat.ble (p108.1 + 1) q93.2.next) ((asI .i64 (rd q93.2 h.next (0 + 3))).bind fun x110 => ckB (Nat.ble (h.next + 1) q93.2.next) ((ixA s104.a s104.n 1 x105).bind fun p111 => (wr q93.2 p111.1 p111.2 [.int .i64 (w64 (x109 + x110))]).bind fun h112 => (asS (rd h112 b72 (o73 + 1))).bind fun s113 => (asI .i64 (rd h112 h.next (0 + 1))).bind fun x114 => (ixA s113.a s113.n 1 x114).bind fun p115 => (wr h112 p115.1 p115.2 [.int .i64 (w64 (x76 + 1))]).bind fun h116 => (ixA a65 n66 1 x76).bind fun p117 => (asI .i64 (rd h116 p117.1 p117.2)).bind fun x118 => ckB (Nat.ble (p117.1 + 1) h116.next) (bc (decide (x118 > 0)) ((asS (rd h116 b72 o73)).bind fun s119 => ckB (Nat.ble (b72 + 1) h116.next) ((asI .i64 (rd h116 h.next (0 + 1))).bind fun x120 => ckB (Nat.ble (h.next + 1) h116.next) ((ixA s119.a s119.n 1 x120).bind fun p121 => (asI .i64 (rd h116 p121.1 p121.2)).bind fun x122 => ckB (Nat.ble (p121.1 + 1) h116.next) ((d_ref11_far.r k  h116).bind fun q123 => (asI .i64 (some q123.1)).bind fun x124 => ckE (q123.2.g p121.1) (h116.g p121.1) (ckE (q123.2.g h.next) (h116.g h.next) (ckE (q123.2.g b72) (h116.g b72) (bc (decide (x122 < x124)) ((asS (rd q123.2 b72 o73)).bind fun s125 => ckB (Nat.ble (b72 + 1) h116.next) ((asI .i64 (rd q123.2 h.next (0 + 1))).bind fun x126 => ckB (Nat.ble (h.next + 1) h116.next) ((ixA s125.a s125.n 1 x126).bind fun p127 => (asI .i64 (rd q123.2 p127.1 p127.2)).bind fun x128 => ckB (Nat.ble (p127.1 + 1) h116.next) ((asI .i64 (rd q123.2 h.next (0 + 3))).bind fun x129 => ckB (Nat.ble (h.next + 1) h116.next) ((asS (rd q123.2 b72 o73)).bind fun s130 => ckB (Nat.ble (b72 + 1) h116.next) ((asI .i64 (rd q123.2 h.next 0)).bind fun x131 => ckB (Nat.ble (h.next + 1) h116.next) ((ixA s130.a s130.n 1 x131).bind fun p132 => (asI .i64 (rd q123.2 p132.1 p132.2)).bind fun x133 => ckB (Nat.ble (p132.1 + 1) h116.next) (bc (decide ((w64 (x128 - x129)) < x133)) ((asS (rd q123.2 b72 o73)).bind fun s134 => ckB (Nat.ble (b72 + 1) q123.2.next) ((asI .i64 (rd q123.2 h.next 0)).bind fun x135 => ckB (Nat.ble (h.next + 1) q123.2.next) ((asS (rd q123.2 b72 o73)).bind fun s136 => ckB (Nat.ble (b72 + 1) q123.2.next) ((asI .i64 (rd q123.2 h.next (0 + 1))).bind fun x137 => ckB (Nat.ble (h.next + 1) q123.2.next) ((ixA s136.a s136.n 1 x137).bind fun p138 => (asI .i64 (rd q123.2 p138.1 p138.2)).bind fun x139 => ckB (Nat.ble (p138.1 + 1) q123.2.next) ((asI .i64 (rd q123.2 h.next (0 + 3))).bind fun x140 => ckB (Nat.ble (h.next + 1) q123.2.next) ((ixA s134.a s134.n 1 x135).bind fun p141 => (wr q123.2 p141.1 p141.2 [.int .i64 (w64 (x139 - x140))]).bind fun h142 => (asS (rd h142 b72 (o73 + 1))).bind fun s143 => (asI .i64 (rd h142 h.next 0)).bind fun x144 => (ixA s143.a s143.n 1 x144).bind fun p145 => (wr h142 p145.1 p145.2 [.int .i64 (w64 ((w64 (0 - x76)) - 1))]).bind fun h146 => L2 a65 n66 c67 b68 o69 b70 o71 b72 o73 x74 true (w64 (x76 + 1)) mk h146))))))) (L2 a65 n66 c67 b68 o69 b70 o71 b72 o73 x74 true (w64 (x76 + 1)) mk q123.2))))))))) (L2 a65 n66 c67 b68 o69 b70 o71 b72 o73 x74 true (w64 (x76 + 1)) mk q123.2)))))))) (L2 a65 n66 c67 b68 o69 b70 o71 b72 o73 x74 true (w64 (x76 + 1)) mk h116))))))))) ((ixA a65 n66 1 x76).bind fun p147 => (asI .i64 (rd q93.2 p147.1 p147.2)).bind fun x148 => ckB (Nat.ble (p147.1 + 1) q93.2.next) (bc (decide (x148 > 0)) ((asS (rd q93.2 b72 o73)).bind fun s149 => ckB (Nat.ble (b72 + 1) q93.2.next) ((asI .i64 (rd q93.2 h.next (0 + 1))).bind fun x150 => ckB (Nat.ble (h.next + 1) q93.2.next) ((ixA s149.a s149.n 1 x150).bind fun p151 => (asI .i64 (rd q93.2 p151.1 p151.2)).bind fun x152 => ckB (Nat.ble (p151.1 + 1) q93.2.next) ((d_ref11_far.r k  q93.2).bind fun q153 => (asI .i64 (some q153.1)).bind fun x154 => ckE (q153.2.g p151.1) (q93.2.g p151.1) (ckE (q153.2.g h.next) (q93.2.g h.next) (ckE (q153.2.g b72) (q93.2.g b72) (bc (decide (x152 < x154)) ((asS (rd q153.2 b72 o73)).bind fun s155 => ckB (Nat.ble (b72 + 1) q93.2.next) ((asI .i64 (rd q153.2 h.next (0 + 1))).bind fun x156 => ckB (Nat.ble (h.next + 1) q93.2.next) ((ixA s155.a s155.n 1 x156).bind fun p157 => (asI .i64 (rd q153.2 p157.1 p157.2)).bind fun x158 => ckB (Nat.ble (p157.1 + 1) q93.2.next) ((asI .i64 (rd q153.2 h.next (0 + 3))).bind fun x159 => ckB (Nat.ble (h.next + 1) q93.2.next) ((asS (rd q153.2 b72 o73)).bind fun s160 => ckB (Nat.ble (b72 + 1) q93.2.next) ((asI .i64 (rd q153.2 h.next 0)).bind fun x161 => ckB (Nat.ble (h.next + 1) q93.2.next) ((ixA s160.a s160.n 1 x161).bind fun p162 => (asI .i64 (rd q153.2 p162.1 p162.2)).bind fun x163 => ckB (Nat.ble (p162.1 + 1) q93.2.next) (bc (decide ((w64 (x158 - x159)) < x163)) ((asS (rd q153.2 b72 o73)).bind fun s164 => ckB (Nat.ble (b72 + 1) q153.2.next) ((asI .i64 (rd q153.2 h.next 0)).bind fun x165 => ckB (Nat.ble (h.next + 1) q153.2.next) ((asS (rd q153.2 b72 o73)).bind fun s166 => ckB (Nat.ble (b72 + 1) q153.2.next) ((asI .i64 (rd q153.2 h.next (0 + 1))).bind fun x167 => ckB (Nat.ble (h.next + 1) q153.2.next) ((ixA s166.a s166.n 1 x167).bind fun p168 => (asI .i64 (rd q153.2 p168.1 p168.2)).bind fun x169 => ckB (Nat.ble (p168.1 + 1) q153.2.next) ((asI .i64 (rd q153.2 h.next (0 + 3))).bind fun x170 => ckB (Nat.ble (h.next + 1) q153.2.next) ((ixA s164.a s164.n 1 x165).bind fun p171 => (wr q153.2 p171.1 p171.2 [.int .i64 (w64 (x169 - x170))]).bind fun h172 => (asS (rd h172 b72 (o73 + 1))).bind fun s173 => (asI .i64 (rd h172 h.next 0)).bind fun x174 => (ixA s173.a s173.n 1 x174).bind fun p175 => (wr h172 p175.1 p175.2 [.int .i64 (w64 ((w64 (0 - x76)) - 1))]).bind fun h176 => L2 a65 n66 c67 b68 o69 b70 o71 b72 o73 x74 true (w64 (x76 + 1)) mk h176))))))) (L2 a65 n66 c67 b68 o69 b70 o71 b72 o73 x74 x75 (w64 (x76 + 1)) mk q153.2))))))))) (L2 a65 n66 c67 b68 o69 b70 o71 b72 o73 x74 x75 (w64 (x76 + 1)) mk q153.2)))))))) (L2 a65 n66 c67 b68 o69 b70 o71 b72 o73 x74 x75 (w64 (x76 + 1)) mk q93.2))))))))))) ((ixA a65 n66 1 x76).bind fun p177 => (asI .i64 (rd q93.2 p177.1 p177.2)).bind fun x178 => ckB (Nat.ble (p177.1 + 1) q93.2.next) (bc (decide (x178 > 0)) ((asS (rd q93.2 b72 o73)).bind fun s179 => ckB (Nat.ble (b72 + 1) q93.2.next) ((asI .i64 (rd q93.2 h.next (0 + 1))).bind fun x180 => ckB (Nat.ble (h.next + 1) q93.2.next) ((ixA s179.a s179.n 1 x180).bind fun p181 => (asI .i64 (rd q93.2 p181.1 p181.2)).bind fun x182 => ckB (Nat.ble (p181.1 + 1) q93.2.next) ((d_ref11_far.r k  q93.2).bind fun q183 => (asI .i64 (some q183.1)).bind fun x184 => ckE (q183.2.g p181.1) (q93.2.g p181.1) (ckE (q183.2.g h.next) (q93.2.g h.next) (ckE (q183.2.g b72) (q93.2.g b72) (bc (decide (x182 < x184)) ((asS (rd q183.2 b72 o73)).bind fun s185 => ckB (Nat.ble (b72 + 1) q93.2.next) ((asI .i64 (rd q183.2 h.next (0 + 1))).bind fun x186 => ckB (Nat.ble (h.next + 1) q93.2.next) ((ixA s185.a s185.n 1 x186).bind fun p187 => (asI .i64 (rd q183.2 p187.1 p187.2)).bind fun x188 => ckB (Nat.ble (p187.1 + 1) q93.2.next) ((asI .i64 (rd q183.2 h.next (0 + 3))).bind fun x189 => ckB (Nat.ble (h.next + 1) q93.2.next) ((asS (rd q183.2 b72 o73)).bind fun s190 => ckB (Nat.ble (b72 + 1) q93.2.next) ((asI .i64 (rd q183.2 h.next 0)).bind fun x191 => ckB (Nat.ble (h.next + 1) q93.2.next) ((ixA s190.a s190.n 1 x191).bind fun p192 => (asI .i64 (rd q183.2 p192.1 p192.2)).bind fun x193 => ckB (Nat.ble (p192.1 + 1) q93.2.next) (bc (decide ((w64 (x188 - x189)) < x193)) ((asS (rd q183.2 b72 o73)).bind fun s194 => ckB (Nat.ble (b72 + 1) q183.2.next) ((asI .i64 (rd q183.2 h.next 0)).bind fun x195 => ckB (Nat.ble (h.next + 1) q183.2.next) ((asS (rd q183.2 b72 o73)).bind fun s196 => ckB (Nat.ble (b72 + 1) q183.2.next) ((asI .i64 (rd q183.2 h.next (0 + 1))).bind fun x197 => ckB (Nat.ble (h.next + 1) q183.2.next) ((ixA s196.a s196.n 1 x197).bind fun p198 => (asI .i64 (rd q183.2 p198.1 p198.2)).bind fun x199 => ckB (Nat.ble (p198.1 + 1) q183.2.next) ((asI .i64 (rd q183.2 h.next (0 + 3))).bind fun x200 => ckB (Nat.ble (h.next + 1) q183.2.next) ((ixA s194.a s194.n 1 x195).bind fun p201 => (wr q183.2 p201.1 p201.2 [.int .i64 (w64 (x199 - x200))]).bind fun h202 => (asS (rd h202 b72 (o73 + 1))).bind fun s203 => (asI .i64 (rd h202 h.next 0)).bind fun x204 => (ixA s203.a s203.n 1 x204).bind fun p205 => (wr h202 p205.1 p205.2 [.int .i64 (w64 ((w64 (0 - x76)) - 1))]).bind fun h206 => L2 a65 n66 c67 b68 o69 b70 o71 b72 o73 x74 true (w64 (x76 + 1)) mk h206))))))) (L2 a65 n66 c67 b68 o69 b70 o71 b72 o73 x74 x75 (w64 (x76 + 1)) mk q183.2))))))))) (L2 a65 n66 c67 b68 o69 b70 o71 b72 o73 x74 x75 (w64 (x76 + 1)) mk q183.2)))))))) (L2 a65 n66 c67 b68 o69 b70 o71 b72 o73 x74 x75 (w64 (x76 + 1)) mk q93.2)))))))))) ((ixA a65 n66 1 x76).bind fun p207 => (asI .i64 (rd h85 p207.1 p207.2)).bind fun x208 => ckB (Nat.ble (p207.1 + 1) h85.next) (bc (decide (x208 > 0)) ((asS (rd h85 b72 o73)).bind fun s209 => ckB (Nat.ble (b72 + 1) h85.next) ((asI .i64 (rd h85 h.next (0 + 1))).bind fun x210 => ckB (Nat.ble (h.next + 1) h85.next) ((ixA s209.a s209.n 1 x210).bind fun p211 => (asI .i64 (rd h85 p211.1 p211.2)).bind fun x212 => ckB (Nat.ble (p211.1 + 1) h85.next) ((d_ref11_far.r k  h85).bind fun q213 => (asI .i64 (some q213.1)).bind fun x214 => ckE (q213.2.g p211.1) (h85.g p211.1) (ckE (q213.2.g h.next) (h85.g h.next) (ckE (q213.2.g b72) (h85.g b72) (bc (decide (x212 < x214)) ((asS (rd q213.2 b72 o73)).bind fun s215 => ckB (Nat.ble (b72 + 1) h85.next) ((asI .i64 (rd q213.2 h.next (0 + 1))).bind fun x216 => ckB (Nat.ble (h.next + 1) h85.next) ((ixA s215.a s215.n 1 x216).bind fun p217 => (asI .i64 (rd q213.2 p217.1 p217.2)).bind fun x218 => ckB (Nat.ble (p217.1 + 1) h85.next) ((asI .i64 (rd q213.2 h.next (0 + 3))).bind fun x219 => ckB (Nat.ble (h.next + 1) h85.next) ((asS (rd q213.2 b72 o73)).bind fun s220 => ckB (Nat.ble (b72 + 1) h85.next) ((asI .i64 (rd q213.2 h.next 0)).bind fun x221 => ckB (Nat.ble (h.next + 1) h85.next) ((ixA s220.a s220.n 1 x221).bind fun p222 => (asI .i64 (rd q213.2 p222.1 p222.2)).bind fun x223 => ckB (Nat.ble (p222.1 + 1) h85.next) (bc (decide ((w64 (x218 - x219)) < x223)) ((asS (rd q213.2 b72 o73)).bind fun s224 => ckB (Nat.ble (b72 + 1) q213.2.next) ((asI .i64 (rd q213.2 h.next 0)).bind fun x225 => ckB (Nat.ble (h.next + 1) q213.2.next) ((asS (rd q213.2 b72 o73)).bind fun s226 => ckB (Nat.ble (b72 + 1) q213.2.next) ((asI .i64 (rd q213.2 h.next (0 + 1))).bind fun x227 => ckB (Nat.ble (h.next + 1) q213.2.next) ((ixA s226.a s226.n 1 x227).bind fun p228 => (asI .i64 (rd q213.2 p228.1 p228.2)).bind fun x229 => ckB (Nat.ble (p228.1 + 1) q213.2.next) ((asI .i64 (rd q213.2 h.next (0 + 3))).bind fun x230 => ckB (Nat.ble (h.next + 1) q213.2.next) ((ixA s224.a s224.n 1 x225).bind fun p231 => (wr q213.2 p231.1 p231.2 [.int .i64 (w64 (x229 - x230))]).bind fun h232 => (asS (rd h232 b72 (o73 + 1))).bind fun s233 => (asI .i64 (rd h232 h.next 0)).bind fun x234 => (ixA s233.a s233.n 1 x234).bind fun p235 => (wr h232 p235.1 p235.2 [.int .i64 (w64 ((w64 (0 - x76)) - 1))]).bind fun h236 => L2 a65 n66 c67 b68 o69 b70 o71 b72 o73 x74 true (w64 (x76 + 1)) mk h236))))))) (L2 a65 n66 c67 b68 o69 b70 o71 b72 o73 x74 x75 (w64 (x76 + 1)) mk q213.2))))))))) (L2 a65 n66 c67 b68 o69 b70 o71 b72 o73 x74 x75 (w64 (x76 + 1)) mk q213.2)))))))) (L2 a65 n66 c67 b68 o69 b70 o71 b72 o73 x74 x75 (w64 (x76 + 1)) mk h85)))))) (bc (!x75) ((asS (rd h b72 o73)).bind fun s237 => (asS (rd h b72 (o73 + 1))).bind fun s238 => (wr h b70 o71 [.slice s237.a s237.n s237.c, .slice s238.a s238.n s238.c]).bind fun h239 => (takeM h239 mk).bind fun h240 => (asS (rd h240 b70 o71)).bind fun s241 => (asS (rd h240 b70 (o71 + 1))).bind fun s242 => some (.agg #[.slice s241.a s241.n s241.c, .slice s242.a s242.n s242.c], h240)) (L1 a65 n66 c67 b68 o69 b70 o71 b72 o73 (w64 (x74 + 1)) mk h))
noncomputable def d_ref11_Ways.LL : Nat → (Int → Option Addr → Nat → Nat → Nat → Nat → Nat → Nat → Nat → Nat → Int → List Nat → Hp → Option (Value × Hp)) × (Option Addr → Nat → Nat → Nat → Nat → Nat → Nat → Nat → Nat → Int → List Nat → Hp → Option (Value × Hp)) × (Option Addr → Nat → Nat → Nat → Nat → Nat → Nat → Nat → Nat → Int → Bool → Int → List Nat → Hp → Option (Value × Hp))
  | 0 => (fun _ _ _ _ _ _ _ _ _ _ _ _ _ => none, fun _ _ _ _ _ _ _ _ _ _ _ _ => none, fun _ _ _ _ _ _ _ _ _ _ _ _ _ _ => none)
  | k + 1 => (d_ref11_Ways.b0 k (d_ref11_Ways.LL k).1 (d_ref11_Ways.LL k).2.1 (d_ref11_Ways.LL k).2.2, d_ref11_Ways.b1 k (d_ref11_Ways.LL k).1 (d_ref11_Ways.LL k).2.1 (d_ref11_Ways.LL k).2.2, d_ref11_Ways.b2 k (d_ref11_Ways.LL k).1 (d_ref11_Ways.LL k).2.1 (d_ref11_Ways.LL k).2.2)
noncomputable def d_ref11_Ways.l0 (k : Nat) : Int → Option Addr → Nat → Nat → Nat → Nat → Nat → Nat → Nat → Nat → Int → List Nat → Hp → Option (Value × Hp) := (d_ref11_Ways.LL k).1
noncomputable def d_ref11_Ways.l1 (k : Nat) : Option Addr → Nat → Nat → Nat → Nat → Nat → Nat → Nat → Nat → Int → List Nat → Hp → Option (Value × Hp) := (d_ref11_Ways.LL k).2.1
noncomputable def d_ref11_Ways.l2 (k : Nat) : Option Addr → Nat → Nat → Nat → Nat → Nat → Nat → Nat → Nat → Int → Bool → Int → List Nat → Hp → Option (Value × Hp) := (d_ref11_Ways.LL k).2.2
theorem d_ref11_Ways.l0_succ (k : Nat) : d_ref11_Ways.l0 (k + 1) = d_ref11_Ways.b0 k (d_ref11_Ways.l0 k) (d_ref11_Ways.l1 k) (d_ref11_Ways.l2 k) := rfl
theorem d_ref11_Ways.l1_succ (k : Nat) : d_ref11_Ways.l1 (k + 1) = d_ref11_Ways.b1 k (d_ref11_Ways.l0 k) (d_ref11_Ways.l1 k) (d_ref11_Ways.l2 k) := rfl
theorem d_ref11_Ways.l2_succ (k : Nat) : d_ref11_Ways.l2 (k + 1) = d_ref11_Ways.b2 k (d_ref11_Ways.l0 k) (d_ref11_Ways.l1 k) (d_ref11_Ways.l2 k) := rfl
noncomputable def d_ref11_Ways.l0v (k : Nat) (vs : List Value) (mk : List Nat) (h : Hp) : Option (Value × Hp) := match vs with | [.int .i64 x22, .slice a23 n24 c25, .pointer (some ⟨b26, o27, none⟩), .pointer (some ⟨b28, o29, none⟩), .pointer (some ⟨b30, o31, none⟩), .int .i64 x32] => d_ref11_Ways.l0 k x22 a23 n24 c25 b26 o27 b28 o29 b30 o31 x32 mk h | _ => none
noncomputable def d_ref11_Ways.l1v (k : Nat) (vs : List Value) (mk : List Nat) (h : Hp) : Option (Value × Hp) := match vs with | [.slice a48 n49 c50, .pointer (some ⟨b51, o52, none⟩), .pointer (some ⟨b53, o54, none⟩), .pointer (some ⟨b55, o56, none⟩), .int .i64 x57] => d_ref11_Ways.l1 k a48 n49 c50 b51 o52 b53 o54 b55 o56 x57 mk h | _ => none
noncomputable def d_ref11_Ways.l2v (k : Nat) (vs : List Value) (mk : List Nat) (h : Hp) : Option (Value × Hp) := match vs with | [.slice a65 n66 c67, .pointer (some ⟨b68, o69, none⟩), .pointer (some ⟨b70, o71, none⟩), .pointer (some ⟨b72, o73, none⟩), .int .i64 x74, .bool x75, .int .i64 x76] => d_ref11_Ways.l2 k a65 n66 c67 b68 o69 b70 o71 b72 o73 x74 x75 x76 mk h | _ => none
noncomputable def d_ref11_Ways.L : List LEnt := [.lp [(1, .cell (.int .i64)), (2, .cell .slc), (3, .cell .ptr), (6, .cell .ptr), (7, .cell .ptr), (8, .cell (.int .i64))] (d_ref11_Ways.l0v), .lp [(2, .cell .slc), (3, .cell .ptr), (6, .cell .ptr), (7, .cell .ptr), (9, .cell (.int .i64))] (d_ref11_Ways.l1v), .lp [(2, .cell .slc), (3, .cell .ptr), (6, .cell .ptr), (7, .cell .ptr), (9, .cell (.int .i64)), (10, .cell .bool), (11, .cell (.int .i64))] (d_ref11_Ways.l2v)]
noncomputable def d_ref11_Ways.r (k : Nat) (x2 : Int) (a7 : Option Addr) (n8 : Nat) (c9 : Nat) (x14 : Int) (a15 : Option Addr) (n16 : Nat) (c17 : Nat) (h : Hp) : Option (Value × Hp) := lt (h.new (.row 0 [.int .i64 x2, .slice a7 n8 c9])) fun h18 => lt (h18.new (.row 0 [.slice none 0 0, .slice none 0 0])) fun h19 => lt (h19.new (.row 0 [.slice none 0 0, .slice none 0 0])) fun h20 => (wr h20 h19.next 0 [.slice none 0 0, .slice none 0 0]).bind fun h21 => d_ref11_Ways.l0 k x14 a15 n16 c17 h.next 0 h18.next 0 h19.next 0 0 [] h21
noncomputable def d_ref11_Ways.v (k : Nat) (args : List Value) (h : Hp) : Option (Value × Hp) := castAL [.agg [.int .i64, .slc], .cell (.int .i64), .cell .slc] args fun vs => match vs with | [.agg ⟨[.int .i64 x2, .slice a7 n8 c9]⟩, .int .i64 x14, .slice a15 n16 c17] => d_ref11_Ways.r k x2 a7 n8 c9 x14 a15 n16 c17 h | _ => none
theorem d_ref11_Ways.l0_den (k : Nat) (x22 : Int) (a23 : Option Addr) (n24 : Nat) (c25 : Nat) (b26 : Nat) (o27 : Nat) (b28 : Nat) (o29 : Nat) (b30 : Nat) (o31 : Nat) (x32 : Int) (mk : List Nat) (h : Hp) (G : Tr Value) : loopF' ((ctx E1 168 d_ref11_Ways.hint (d_ref11_Ways.tbl) d_ref11_Ways.it (LPof (d_ref11_Ways.L)) (YOof (d_ref11_Ways.L))) k) Try.f116 pairK 0 ⟨[(1, .int .i64 x22), (2, .slice a23 n24 c25), (3, .pointer (some ⟨b26, o27, none⟩)), (6, .pointer (some ⟨b28, o29, none⟩)), (7, .pointer (some ⟨b30, o31, none⟩)), (8, .int .i64 x32)], G, mk⟩ h = d_ref11_Ways.l0 (k + 1) x22 a23 n24 c25 b26 o27 b28 o29 b30 o31 x32 mk h := by kernel_rfl
theorem d_ref11_Ways.l1_den (k : Nat) (a48 : Option Addr) (n49 : Nat) (c50 : Nat) (b51 : Nat) (o52 : Nat) (b53 : Nat) (o54 : Nat) (b55 : Nat) (o56 : Nat) (x57 : Int) (mk : List Nat) (h : Hp) (G : Tr Value) : loopF' ((ctx E1 168 d_ref11_Ways.hint (d_ref11_Ways.tbl) d_ref11_Ways.it (LPof (d_ref11_Ways.L)) (YOof (d_ref11_Ways.L))) k) Try.f116 pairK 1 ⟨[(2, .slice a48 n49 c50), (3, .pointer (some ⟨b51, o52, none⟩)), (6, .pointer (some ⟨b53, o54, none⟩)), (7, .pointer (some ⟨b55, o56, none⟩)), (9, .int .i64 x57)], G, mk⟩ h = d_ref11_Ways.l1 (k + 1) a48 n49 c50 b51 o52 b53 o54 b55 o56 x57 mk h := by kernel_rfl
theorem d_ref11_Ways.l2_den (k : Nat) (a65 : Option Addr) (n66 : Nat) (c67 : Nat) (b68 : Nat) (o69 : Nat) (b70 : Nat) (o71 : Nat) (b72 : Nat) (o73 : Nat) (x74 : Int) (x75 : Bool) (x76 : Int) (mk : List Nat) (h : Hp) (G : Tr Value) : loopF' ((ctx E1 168 d_ref11_Ways.hint (d_ref11_Ways.tbl) d_ref11_Ways.it (LPof (d_ref11_Ways.L)) (YOof (d_ref11_Ways.L))) k) Try.f116 pairK 2 ⟨[(2, .slice a65 n66 c67), (3, .pointer (some ⟨b68, o69, none⟩)), (6, .pointer (some ⟨b70, o71, none⟩)), (7, .pointer (some ⟨b72, o73, none⟩)), (9, .int .i64 x74), (10, .bool x75), (11, .int .i64 x76)], G, mk⟩ h = d_ref11_Ways.l2 (k + 1) a65 n66 c67 b68 o69 b70 o71 b72 o73 x74 x75 x76 mk h := by kernel_rfl
theorem d_ref11_Ways.r_den (k : Nat) (x2 : Int) (a7 : Option Addr) (n8 : Nat) (c9 : Nat) (x14 : Int) (a15 : Option Addr) (n16 : Nat) (c17 : Nat) (h : Hp) : denF ((ctx E1 168 d_ref11_Ways.hint (d_ref11_Ways.tbl) d_ref11_Ways.it (LPof (d_ref11_Ways.L)) (YOof (d_ref11_Ways.L))) k) Try.f116 [.agg #[.int .i64 x2, .slice a7 n8 c9], .int .i64 x14, .slice a15 n16 c17] h pairK = d_ref11_Ways.r k x2 a7 n8 c9 x14 a15 n16 c17 h := by kernel_rfl
theorem d_ref11_Ways.L_ok : ∀ i x, (d_ref11_Ways.L)[i]? = some x → LOK (ctx E1 168 d_ref11_Ways.hint (d_ref11_Ways.tbl) d_ref11_Ways.it (LPof (d_ref11_Ways.L)) (YOof (d_ref11_Ways.L))) (ctxY E1 168 d_ref11_Ways.hint (d_ref11_Ways.tbl)) Try.f116 (todoC d_ref11_Ways.body []) i x := by
  refine LOK_cons (P := fun i x => LOK (ctx E1 168 d_ref11_Ways.hint (d_ref11_Ways.tbl) d_ref11_Ways.it (LPof (d_ref11_Ways.L)) (YOof (d_ref11_Ways.L))) (ctxY E1 168 d_ref11_Ways.hint (d_ref11_Ways.tbl)) Try.f116 (todoC d_ref11_Ways.body []) (i) x) ?_ ?_
  · refine ⟨by kernel_rfl, fun vs mk h ht => ?_, fun k vs mk h r ht hk G => ?_⟩
    · obtain ⟨v0, vs0, rfl, hv0, ht0⟩ := TySL_cons ht
      obtain ⟨x22, rfl⟩ := hv0
      obtain ⟨v1, vs1, rfl, hv1, ht1⟩ := TySL_cons ht0
      obtain ⟨a23, n24, c25, rfl⟩ := hv1
      obtain ⟨v2, vs2, rfl, hv2, ht2⟩ := TySL_cons ht1
      obtain ⟨b26, o27, rfl⟩ := hv2
      obtain ⟨v3, vs3, rfl, hv3, ht3⟩ := TySL_cons ht2
      obtain ⟨b28, o29, rfl⟩ := hv3
      obtain ⟨v4, vs4, rfl, hv4, ht4⟩ := TySL_cons ht3
      obtain ⟨b30, o31, rfl⟩ := hv4
      obtain ⟨v5, vs5, rfl, hv5, ht5⟩ := TySL_cons ht4
      obtain ⟨x32, rfl⟩ := hv5
      obtain rfl := TySL_nil ht5
      rfl
    · obtain ⟨v0, vs0, rfl, hv0, ht0⟩ := TySL_cons ht
      obtain ⟨x22, rfl⟩ := hv0
      obtain ⟨v1, vs1, rfl, hv1, ht1⟩ := TySL_cons ht0
      obtain ⟨a23, n24, c25, rfl⟩ := hv1
      obtain ⟨v2, vs2, rfl, hv2, ht2⟩ := TySL_cons ht1
      obtain ⟨b26, o27, rfl⟩ := hv2
      obtain ⟨v3, vs3, rfl, hv3, ht3⟩ := TySL_cons ht2
      obtain ⟨b28, o29, rfl⟩ := hv3
      obtain ⟨v4, vs4, rfl, hv4, ht4⟩ := TySL_cons ht3
      obtain ⟨b30, o31, rfl⟩ := hv4
      obtain ⟨v5, vs5, rfl, hv5, ht5⟩ := TySL_cons ht4
      obtain ⟨x32, rfl⟩ := hv5
      obtain rfl := TySL_nil ht5
      exact (d_ref11_Ways.l0_den k x22 a23 n24 c25 b26 o27 b28 o29 b30 o31 x32 mk h G).trans hk
  refine LOK_cons (P := fun i x => LOK (ctx E1 168 d_ref11_Ways.hint (d_ref11_Ways.tbl) d_ref11_Ways.it (LPof (d_ref11_Ways.L)) (YOof (d_ref11_Ways.L))) (ctxY E1 168 d_ref11_Ways.hint (d_ref11_Ways.tbl)) Try.f116 (todoC d_ref11_Ways.body []) (i + 1) x) ?_ ?_
  · refine ⟨by kernel_rfl, fun vs mk h ht => ?_, fun k vs mk h r ht hk G => ?_⟩
    · obtain ⟨v0, vs0, rfl, hv0, ht0⟩ := TySL_cons ht
      obtain ⟨a48, n49, c50, rfl⟩ := hv0
      obtain ⟨v1, vs1, rfl, hv1, ht1⟩ := TySL_cons ht0
      obtain ⟨b51, o52, rfl⟩ := hv1
      obtain ⟨v2, vs2, rfl, hv2, ht2⟩ := TySL_cons ht1
      obtain ⟨b53, o54, rfl⟩ := hv2
      obtain ⟨v3, vs3, rfl, hv3, ht3⟩ := TySL_cons ht2
      obtain ⟨b55, o56, rfl⟩ := hv3
      obtain ⟨v4, vs4, rfl, hv4, ht4⟩ := TySL_cons ht3
      obtain ⟨x57, rfl⟩ := hv4
      obtain rfl := TySL_nil ht4
      rfl
    · obtain ⟨v0, vs0, rfl, hv0, ht0⟩ := TySL_cons ht
      obtain ⟨a48, n49, c50, rfl⟩ := hv0
      obtain ⟨v1, vs1, rfl, hv1, ht1⟩ := TySL_cons ht0
      obtain ⟨b51, o52, rfl⟩ := hv1
      obtain ⟨v2, vs2, rfl, hv2, ht2⟩ := TySL_cons ht1
      obtain ⟨b53, o54, rfl⟩ := hv2
      obtain ⟨v3, vs3, rfl, hv3, ht3⟩ := TySL_cons ht2
      obtain ⟨b55, o56, rfl⟩ := hv3
      obtain ⟨v4, vs4, rfl, hv4, ht4⟩ := TySL_cons ht3
      obtain ⟨x57, rfl⟩ := hv4
      obtain rfl := TySL_nil ht4
      exact (d_ref11_Ways.l1_den k a48 n49 c50 b51 o52 b53 o54 b55 o56 x57 mk h G).trans hk
  refine LOK_cons (P := fun i x => LOK (ctx E1 168 d_ref11_Ways.hint (d_ref11_Ways.tbl) d_ref11_Ways.it (LPof (d_ref11_Ways.L)) (YOof (d_ref11_Ways.L))) (ctxY E1 168 d_ref11_Ways.hint (d_ref11_Ways.tbl)) Try.f116 (todoC d_ref11_Ways.body []) (i + 1 + 1) x) ?_ ?_
  · refine ⟨by kernel_rfl, fun vs mk h ht => ?_, fun k vs mk h r ht hk G => ?_⟩
    · obtain ⟨v0, vs0, rfl, hv0, ht0⟩ := TySL_cons ht
      obtain ⟨a65, n66, c67, rfl⟩ := hv0
      obtain ⟨v1, vs1, rfl, hv1, ht1⟩ := TySL_cons ht0
      obtain ⟨b68, o69, rfl⟩ := hv1
      obtain ⟨v2, vs2, rfl, hv2, ht2⟩ := TySL_cons ht1
      obtain ⟨b70, o71, rfl⟩ := hv2
      obtain ⟨v3, vs3, rfl, hv3, ht3⟩ := TySL_cons ht2
      obtain ⟨b72, o73, rfl⟩ := hv3
      obtain ⟨v4, vs4, rfl, hv4, ht4⟩ := TySL_cons ht3
      obtain ⟨x74, rfl⟩ := hv4
      obtain ⟨v5, vs5, rfl, hv5, ht5⟩ := TySL_cons ht4
      obtain ⟨x75, rfl⟩ := hv5
      obtain ⟨v6, vs6, rfl, hv6, ht6⟩ := TySL_cons ht5
      obtain ⟨x76, rfl⟩ := hv6
      obtain rfl := TySL_nil ht6
      rfl
    · obtain ⟨v0, vs0, rfl, hv0, ht0⟩ := TySL_cons ht
      obtain ⟨a65, n66, c67, rfl⟩ := hv0
      obtain ⟨v1, vs1, rfl, hv1, ht1⟩ := TySL_cons ht0
      obtain ⟨b68, o69, rfl⟩ := hv1
      obtain ⟨v2, vs2, rfl, hv2, ht2⟩ := TySL_cons ht1
      obtain ⟨b70, o71, rfl⟩ := hv2
      obtain ⟨v3, vs3, rfl, hv3, ht3⟩ := TySL_cons ht2
      obtain ⟨b72, o73, rfl⟩ := hv3
      obtain ⟨v4, vs4, rfl, hv4, ht4⟩ := TySL_cons ht3
      obtain ⟨x74, rfl⟩ := hv4
      obtain ⟨v5, vs5, rfl, hv5, ht5⟩ := TySL_cons ht4
      obtain ⟨x75, rfl⟩ := hv5
      obtain ⟨v6, vs6, rfl, hv6, ht6⟩ := TySL_cons ht5
      obtain ⟨x76, rfl⟩ := hv6
      obtain rfl := TySL_nil ht6
      exact (d_ref11_Ways.l2_den k a65 n66 c67 b68 o69 b70 o71 b72 o73 x74 x75 x76 mk h G).trans hk
  exact LOK_nil
theorem d_ref11_Ways.snd {H : Pl → Prop} (hH : MonoH H) (k : Nat) : SndF E1 H 116 (d_ref11_Ways.v k) := by
  intro args h v h1 hk
  obtain ⟨ht, hk⟩ := castAL_ok hk
  obtain ⟨v0, vs0, rfl, hv0, ht0⟩ := TyAL_cons ht
  obtain ⟨cs1, rfl, hv0c⟩ := hv0
  obtain ⟨w4, cs3, rfl, hw5, hc6⟩ := TyCL_cons hv0c
  obtain ⟨x2, rfl⟩ := hw5
  obtain ⟨w11, cs10, rfl, hw12, hc13⟩ := TyCL_cons hc6
  obtain ⟨a7, n8, c9, rfl⟩ := hw12
  obtain rfl := TyCL_nil hc13
  obtain ⟨v1, vs1, rfl, hv1, ht1⟩ := TyAL_cons ht0
  obtain ⟨x14, rfl⟩ := hv1
  obtain ⟨v2, vs2, rfl, hv2, ht2⟩ := TyAL_cons ht1
  obtain ⟨a15, n16, c17, rfl⟩ := hv2
  obtain rfl := TyAL_nil ht2
  refine fn_ok' (E := E1) (N := 168) (g := 116) (F := Try.f116) (hint := d_ref11_Ways.hint) (tbl := d_ref11_Ways.tbl) (tblY := d_ref11_Ways.tbl) (itK := d_ref11_Ways.it) (L := d_ref11_Ways.L) (body := d_ref11_Ways.body) (by kernel_rfl) (by kernel_rfl) (by kernel_rfl) hH ?_ ?_ ?_ d_ref11_Ways.L_ok k (by kernel_rfl) ((d_ref11_Ways.r_den k x2 a7 n8 c9 x14 a15 n16 c17 h).trans hk)
  · intro k; exact addF_ok (d_ref11_far.snd hH k) (noTbl_ok k)
  · intro l' p' k; exact addF_ok (d_ref11_far.snd (hH.pay _ _) k) (noTbl_ok k)
  · intro k; exact noIt_ok k

/-! ### weirgate/weirgateref11.Total: function 71 -/
noncomputable def d_ref11_Total.body : Code := match Try.f71.body with | some b => b | none => .skip
noncomputable def d_ref11_Total.hint : Nat → Option (Nat × List Ck) := fun d => none
noncomputable def d_ref11_Total.tbl {R : Type} : TblTy R := noTbl
noncomputable def d_ref11_Total.it {R : Type} : ItTy R := noIt
noncomputable def d_ref11_Total.b0 (k : Nat) (L0 : Option Addr → Nat → Nat → Nat → Nat → Int → Int → List Nat → Hp → Option (Value × Hp)) (a18 : Option Addr) (n19 : Nat) (c20 : Nat) (b21 : Nat) (o22 : Nat) (x23 : Int) (x24 : Int) (mk : List Nat) (h : Hp) : Option (Value × Hp) := bc (decide (x24 < ((n19 : Nat) : Int))) ((ixA a18 n19 1 x24).bind fun p25 => (asI .i64 (rd h p25.1 p25.2)).bind fun x26 => ckB (Nat.ble (p25.1 + 1) h.next) ((asS (rd h b21 (o22 + 1))).bind fun s27 => ckB (Nat.ble (b21 + 1) h.next) ((ixA s27.a s27.n 4 x24).bind fun p28 => (asI .i64 (rd h p28.1 (p28.2 + 3))).bind fun x29 => ckB (Nat.ble (p28.1 + 1) h.next) (L0 a18 n19 c20 b21 o22 (w64 (x23 + (w64 (x26 * x29)))) (w64 (x24 + 1)) mk h)))) ((takeM h mk).bind fun h30 => some (.int .i64 x23, h30))
noncomputable def d_ref11_Total.LL : Nat → (Option Addr → Nat → Nat → Nat → Nat → Int → Int → List Nat → Hp → Option (Value × Hp))
  | 0 => fun _ _ _ _ _ _ _ _ _ => none
  | k + 1 => d_ref11_Total.b0 k (d_ref11_Total.LL k)
noncomputable def d_ref11_Total.l0 (k : Nat) : Option Addr → Nat → Nat → Nat → Nat → Int → Int → List Nat → Hp → Option (Value × Hp) := (d_ref11_Total.LL k)
theorem d_ref11_Total.l0_succ (k : Nat) : d_ref11_Total.l0 (k + 1) = d_ref11_Total.b0 k (d_ref11_Total.l0 k) := rfl
noncomputable def d_ref11_Total.l0v (k : Nat) (vs : List Value) (mk : List Nat) (h : Hp) : Option (Value × Hp) := match vs with | [.slice a18 n19 c20, .pointer (some ⟨b21, o22, none⟩), .int .i64 x23, .int .i64 x24] => d_ref11_Total.l0 k a18 n19 c20 b21 o22 x23 x24 mk h | _ => none
noncomputable def d_ref11_Total.L : List LEnt := [.lp [(1, .cell .slc), (2, .cell .ptr), (5, .cell (.int .i64)), (6, .cell (.int .i64))] (d_ref11_Total.l0v)]
noncomputable def d_ref11_Total.r (k : Nat) (x2 : Int) (a7 : Option Addr) (n8 : Nat) (c9 : Nat) (a14 : Option Addr) (n15 : Nat) (c16 : Nat) (h : Hp) : Option (Value × Hp) := lt (h.new (.row 0 [.int .i64 x2, .slice a7 n8 c9])) fun h17 => d_ref11_Total.l0 k a14 n15 c16 h.next 0 0 0 [] h17
noncomputable def d_ref11_Total.v (k : Nat) (args : List Value) (h : Hp) : Option (Value × Hp) := castAL [.agg [.int .i64, .slc], .cell .slc] args fun vs => match vs with | [.agg ⟨[.int .i64 x2, .slice a7 n8 c9]⟩, .slice a14 n15 c16] => d_ref11_Total.r k x2 a7 n8 c9 a14 n15 c16 h | _ => none
theorem d_ref11_Total.l0_den (k : Nat) (a18 : Option Addr) (n19 : Nat) (c20 : Nat) (b21 : Nat) (o22 : Nat) (x23 : Int) (x24 : Int) (mk : List Nat) (h : Hp) (G : Tr Value) : loopF' ((ctx E1 27 d_ref11_Total.hint (d_ref11_Total.tbl) d_ref11_Total.it (LPof (d_ref11_Total.L)) (YOof (d_ref11_Total.L))) k) Try.f71 pairK 0 ⟨[(1, .slice a18 n19 c20), (2, .pointer (some ⟨b21, o22, none⟩)), (5, .int .i64 x23), (6, .int .i64 x24)], G, mk⟩ h = d_ref11_Total.l0 (k + 1) a18 n19 c20 b21 o22 x23 x24 mk h := by kernel_rfl
theorem d_ref11_Total.r_den (k : Nat) (x2 : Int) (a7 : Option Addr) (n8 : Nat) (c9 : Nat) (a14 : Option Addr) (n15 : Nat) (c16 : Nat) (h : Hp) : denF ((ctx E1 27 d_ref11_Total.hint (d_ref11_Total.tbl) d_ref11_Total.it (LPof (d_ref11_Total.L)) (YOof (d_ref11_Total.L))) k) Try.f71 [.agg #[.int .i64 x2, .slice a7 n8 c9], .slice a14 n15 c16] h pairK = d_ref11_Total.r k x2 a7 n8 c9 a14 n15 c16 h := by kernel_rfl
theorem d_ref11_Total.L_ok : ∀ i x, (d_ref11_Total.L)[i]? = some x → LOK (ctx E1 27 d_ref11_Total.hint (d_ref11_Total.tbl) d_ref11_Total.it (LPof (d_ref11_Total.L)) (YOof (d_ref11_Total.L))) (ctxY E1 27 d_ref11_Total.hint (d_ref11_Total.tbl)) Try.f71 (todoC d_ref11_Total.body []) i x := by
  refine LOK_cons (P := fun i x => LOK (ctx E1 27 d_ref11_Total.hint (d_ref11_Total.tbl) d_ref11_Total.it (LPof (d_ref11_Total.L)) (YOof (d_ref11_Total.L))) (ctxY E1 27 d_ref11_Total.hint (d_ref11_Total.tbl)) Try.f71 (todoC d_ref11_Total.body []) (i) x) ?_ ?_
  · refine ⟨by kernel_rfl, fun vs mk h ht => ?_, fun k vs mk h r ht hk G => ?_⟩
    · obtain ⟨v0, vs0, rfl, hv0, ht0⟩ := TySL_cons ht
      obtain ⟨a18, n19, c20, rfl⟩ := hv0
      obtain ⟨v1, vs1, rfl, hv1, ht1⟩ := TySL_cons ht0
      obtain ⟨b21, o22, rfl⟩ := hv1
      obtain ⟨v2, vs2, rfl, hv2, ht2⟩ := TySL_cons ht1
      obtain ⟨x23, rfl⟩ := hv2
      obtain ⟨v3, vs3, rfl, hv3, ht3⟩ := TySL_cons ht2
      obtain ⟨x24, rfl⟩ := hv3
      obtain rfl := TySL_nil ht3
      rfl
    · obtain ⟨v0, vs0, rfl, hv0, ht0⟩ := TySL_cons ht
      obtain ⟨a18, n19, c20, rfl⟩ := hv0
      obtain ⟨v1, vs1, rfl, hv1, ht1⟩ := TySL_cons ht0
      obtain ⟨b21, o22, rfl⟩ := hv1
      obtain ⟨v2, vs2, rfl, hv2, ht2⟩ := TySL_cons ht1
      obtain ⟨x23, rfl⟩ := hv2
      obtain ⟨v3, vs3, rfl, hv3, ht3⟩ := TySL_cons ht2
      obtain ⟨x24, rfl⟩ := hv3
      obtain rfl := TySL_nil ht3
      exact (d_ref11_Total.l0_den k a18 n19 c20 b21 o22 x23 x24 mk h G).trans hk
  exact LOK_nil
theorem d_ref11_Total.snd {H : Pl → Prop} (hH : MonoH H) (k : Nat) : SndF E1 H 71 (d_ref11_Total.v k) := by
  intro args h v h1 hk
  obtain ⟨ht, hk⟩ := castAL_ok hk
  obtain ⟨v0, vs0, rfl, hv0, ht0⟩ := TyAL_cons ht
  obtain ⟨cs1, rfl, hv0c⟩ := hv0
  obtain ⟨w4, cs3, rfl, hw5, hc6⟩ := TyCL_cons hv0c
  obtain ⟨x2, rfl⟩ := hw5
  obtain ⟨w11, cs10, rfl, hw12, hc13⟩ := TyCL_cons hc6
  obtain ⟨a7, n8, c9, rfl⟩ := hw12
  obtain rfl := TyCL_nil hc13
  obtain ⟨v1, vs1, rfl, hv1, ht1⟩ := TyAL_cons ht0
  obtain ⟨a14, n15, c16, rfl⟩ := hv1
  obtain rfl := TyAL_nil ht1
  refine fn_ok' (E := E1) (N := 27) (g := 71) (F := Try.f71) (hint := d_ref11_Total.hint) (tbl := d_ref11_Total.tbl) (tblY := d_ref11_Total.tbl) (itK := d_ref11_Total.it) (L := d_ref11_Total.L) (body := d_ref11_Total.body) (by kernel_rfl) (by kernel_rfl) (by kernel_rfl) hH ?_ ?_ ?_ d_ref11_Total.L_ok k (by kernel_rfl) ((d_ref11_Total.r_den k x2 a7 n8 c9 a14 n15 c16 h).trans hk)
  · intro k; exact noTbl_ok k
  · intro l' p' k; exact noTbl_ok k
  · intro k; exact noIt_ok k
end Go.Proofs.Ytgikimegikelkaa.Dn
