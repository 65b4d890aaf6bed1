/- Chapter 11: the law CostProofsBound. -/
import Derived.Test.YtgikimegikelkaaR11f
import Derived.Test.YtgikimegikelkaaR11p
namespace Go.Proofs.Ytgikimegikelkaa.Dn
open Go Go.Proofs.Ytgikimegikelkaa.Ab
set_option linter.unusedVariables false
set_option linter.unusedSimpArgs false

theorem law_bound {h : Hp} {n x y m : Int} {a a1 : Option Addr} {c c1 : Nat} {l : List Arc} {F : Fr} {g : List Int} (ha : Arcs h a l) (L : FrL h F) (G : Ints h a1 g) (hc : F.cl.length ≤ 9223372036854775807) :
    Ev (fun k => d_law11_CostProofsBound.r k n a l.length c x y m F.sent F.cost F.fa F.fl.length F.fc F.pa F.pl.length F.pc F.ca F.cl.length F.cc a1 g.length c1 h) (fun q => q.1 = .bool true) := by
  have N := NetB.new ha n c
  have e := Ext.new h (.row 0 [.int .i64 n, .slice a l.length c])
  have B1 := FrB.new (L.ext e)
  have e1 := Ext.new (h.new (.row 0 [.int .i64 n, .slice a l.length c])) (.row 0 F.row)
  have N1 := N.ext e1
  have G1 := (G.ext e).ext e1
  unfold Fr.row at B1 N1 e1 G1
  simp only [d_law11_CostProofsBound.r, lt_eq, N1.n, N1.s, Nat.zero_add, asS_slc ha.1, Option.bind_some, asI_int]
  refine Ev.bind (few_ev N1.arcs) ?_
  rintro ⟨_, h1⟩ ⟨v1, rfl, hv1, k1⟩
  have N2 := N1.ext k1
  have B2 := B1.ext k1
  have G2 := G1.ext k1
  simp only [asB_bool, asI_int, Option.bind_some, N2.n, N2.s, asS_slc ha.1]
  refine Ev.split (fun c1 => ?_) (fun c1 => Ev.ret rfl)
  have hfew := hv1.1 (by simpa using c1)
  have S : Small n l := ⟨hfew.2.1, hfew.2.2.1⟩
  refine Ev.bind (task_ev N2.arcs) ?_
  rintro ⟨_, h2⟩ ⟨rfl, k2⟩
  have N3 := N2.ext k2
  have B3 := B2.ext k2
  have G3 := G2.ext k2
  simp only [asB_bool, asI_int, Option.bind_some, N3.n, N3.s, asS_slc ha.1]
  refine Ev.split (fun c2 => ?_) (fun c2 => Ev.ret rfl)
  have ht : taskP n l x y m = true := by simpa using c2
  unfold taskP at ht
  rw [decide_eq_true_eq] at ht
  obtain ⟨hk, hx0, hx1, hy0, hy1, hxy, hm0, hm1⟩ := ht
  refine Ev.bind (flows_ev N3.arcs G3 S) ?_
  rintro ⟨_, h3⟩ ⟨v3, rfl, hv3, k3⟩
  have N4 := N3.ext k3
  have B4 := B3.ext k3
  have G4 := G3.ext k3
  simp only [asB_bool, asI_int, Option.bind_some, N4.n, N4.s, B4.s, B4.k, B4.fs, B4.ps, B4.cs, asS_slc ha.1, asS_slc L.f.1, asS_slc L.p.1, asS_slc L.c.1]
  refine Ev.split (fun c3 => Ev.ret rfl) (fun c3 => ?_)
  have hg : flowsP n l g x y := hv3.1 (by simpa using c3)
  refine Ev.bind (caccept_ev N4.arcs B4.l hc S ⟨hx0, hx1⟩ ⟨hy0, hy1⟩) ?_
  rintro ⟨_, h4⟩ ⟨v4, rfl, hw4, hv4, k4⟩
  have N5 := N4.ext k4
  have B5 := B4.ext k4
  have G5 := G4.ext k4
  simp only [asB_bool, asI_int, Option.bind_some, N5.n, N5.s, asS_slc ha.1]
  refine Ev.split (fun c4 => Ev.ret rfl) (fun c4 => ?_)
  have hacc : acceptP n l x y m F := hv4.1 (by simpa using c4)
  obtain ⟨hfl, hs0, hs1, hval, htot, hpr, hend⟩ := hacc
  refine Ev.bind (value_ev N5.arcs G5 hg.1 S hg.2.1) ?_
  rintro ⟨_, h5⟩ ⟨rfl, k5⟩
  have N6 := N5.ext k5
  have B6 := B5.ext k5
  have G6 := G5.ext k5
  simp only [asB_bool, asI_int, Option.bind_some, N6.n, N6.s, B6.s, B6.k, asS_slc ha.1, ckB_lt N6.lt, ckB_lt B6.lt]
  have fin : F.sent ≠ m → valN l g x l.length ≤ F.sent := fun hne => by
    rcases hend with t | t
    · exact absurd t.1 hne
    · rw [← hval]; exact cut_le hk ⟨hx0, hx1⟩ ⟨hy0, hy1⟩ hxy hfl hg t.2
  refine Ev.split (fun c5 => ?_) (fun c5 => ?_)
  · refine Ev.bind (total_ev N6.arcs G6 hg.1 S hg.2.1) ?_
    rintro ⟨_, h6⟩ ⟨rfl, k6⟩
    have N7 := N6.ext k6
    have B7 := B6.ext k6
    simp only [asB_bool, asI_int, Option.bind_some, B7.s, B7.k, ckB_lt N6.lt, ckB_lt B6.lt, ckE_ext k6 B6.lt]
    have c5' : valN l g x l.length = F.sent := by simpa using c5
    have le := priced_le hk ⟨hx0, hx1⟩ ⟨hy0, hy1⟩ hxy hfl hg hpr.2.2.2
    rw [hval, c5', htot] at le
    refine Ev.neg (by simp; omega) ?_
    refine Ev.split (fun c6 => Ev.ret (congrArg Value.bool ?_)) (fun c6 => Ev.ret rfl)
    rw [decide_eq_true_eq]; omega
  · refine Ev.split (fun c6 => Ev.ret (congrArg Value.bool ?_)) (fun c6 => Ev.ret rfl)
    rw [decide_eq_true_eq]
    exact fin (by simpa using c6)
end Go.Proofs.Ytgikimegikelkaa.Dn
