import Derived.Test.YtehjjpbpdfnnfaaGreatDoorM05
namespace Go.Tz
open Go Go.AL Go.Proofs Go.Ma
variable {G : Nat → Option (List D)}
def addP (c : Int) (q : Ps) : Ps := ⟨q.w, q.x, q.z, (iadd .i64 q.p c).tmod 4⟩
theorem addP_nf {w : Nat} {q : Ps} (c : Nat) (hc : c ≤ 100) (h : Vl w q) : nf (addP c q) = esh c (nf q) ∧ Vl w (addP c q) := by
 obtain ⟨X, Z, P, rfl, h1, h2, h3⟩ := h
 have e : addP c (mk w X Z P) = mk w X Z ((P + c) % 4) := by
  unfold addP mk
  dsimp only
  rw [iadd_nat (by omega)]
  rfl
 rw [e]
 refine ⟨?_, ⟨X, Z, _, rfl, h1, h2, Nat.mod_lt _ (by decide)⟩⟩
 rw [nf_mk, nf_mk]
 refine e_ext ?_ rfl
 simp only [esh]; omega
theorem min_nf {w : Nat} {q : Ps} (h : Vl w q) : nf (minS q) = esh 2 (nf q) ∧ Vl w (minS q) := addP_nf 2 (by decide) h
theorem tim_nf {w : Nat} (hw : w ≤ 12) {q r : Ps} (hq : Vl w q) (hr : Vl w r) : nf (timS q r) = emul (nf q) (nf r) ∧ Vl w (timS q r) := by
 rw [tim_mul hw hq hr]
 exact ⟨nf_mul hw hq hr, mul_vl hw hq hr⟩
theorem one_nf1 {w n : Nat} (hw : w ≤ 12) (hn : n < w) : nf (oneS w n 1) = eL n true false ∧ Vl w (oneS w n 1) := ⟨nf_letter (l := 1) (by omega) (by decide), one_vl (l := 1) hn hw⟩
theorem one_nf2 {w n : Nat} (hw : w ≤ 12) (hn : n < w) : nf (oneS w n 2) = eL n true true ∧ Vl w (oneS w n 2) := ⟨nf_letter (l := 2) (by omega) (by decide), one_vl (l := 2) hn hw⟩
theorem one_nf3 {w n : Nat} (hw : w ≤ 12) (hn : n < w) : nf (oneS w n 3) = eL n false true ∧ Vl w (oneS w n 3) := ⟨nf_letter (l := 3) (by omega) (by decide), one_vl (l := 3) hn hw⟩
theorem im1_nf {w a k b : Nat} (hw : w ≤ 12) (h1 : 1 ≤ k) (h2 : k ≤ 6) (ha : a < w) : (nf (im1 w a k).1 = gE k a b (eL a true false) ∧ Vl w (im1 w a k).1) ∧ nf (im1 w a k).2 = gE k a b (eL a false true) ∧ Vl w (im1 w a k).2 := by
 have hk : k = 1 ∨ k = 2 ∨ k = 3 ∨ k = 4 ∨ k = 5 ∨ k = 6 := by omega
 obtain ⟨a1, a2⟩ := one_nf1 hw ha
 obtain ⟨b1, b2⟩ := one_nf2 hw ha
 obtain ⟨c1, c2⟩ := one_nf3 hw ha
 obtain ⟨d1, d2⟩ := min_nf a2
 obtain ⟨e1, e2⟩ := min_nf b2
 obtain ⟨f1, f2⟩ := min_nf c2
 have h0 : ∀ x z, esh 0 (eL a x z) = eL a x z := fun x z => esh_4 rfl (eL_lt _ _ _)
 rw [gE_tab1 h1 h2 (by omega), gE_tab1 h1 h2 (by omega)]
 rcases hk with rfl | rfl | rfl | rfl | rfl | rfl
 ·exact ⟨⟨a1.trans (h0 _ _).symm, a2⟩, f1.trans (by rw [c1]; rfl), f2⟩
 ·exact ⟨⟨d1.trans (by rw [a1]; rfl), d2⟩, f1.trans (by rw [c1]; rfl), f2⟩
 ·exact ⟨⟨d1.trans (by rw [a1]; rfl), d2⟩, c1.trans (h0 _ _).symm, c2⟩
 ·exact ⟨⟨c1.trans (h0 _ _).symm, c2⟩, a1.trans (h0 _ _).symm, a2⟩
 ·exact ⟨⟨b1.trans (h0 _ _).symm, b2⟩, c1.trans (h0 _ _).symm, c2⟩
 ·exact ⟨⟨e1.trans (by rw [b1]; rfl), e2⟩, c1.trans (h0 _ _).symm, c2⟩
theorem im2_nf {w a b k : Nat} (hw : w ≤ 12) (h1 : 9 ≤ k) (h2 : k ≤ 11) (ha : a < w) (hb : b < w) (hab : a ≠ b) :
  ((nf (im2 w a b k true).1 = gE k a b (eL a true false) ∧ Vl w (im2 w a b k true).1) ∧ nf (im2 w a b k true).2 = gE k a b (eL a false true) ∧ Vl w (im2 w a b k true).2) ∧
  (nf (im2 w b a k false).1 = gE k a b (eL b true false) ∧ Vl w (im2 w b a k false).1) ∧ nf (im2 w b a k false).2 = gE k a b (eL b false true) ∧ Vl w (im2 w b a k false).2 := by
 have hk : k = 9 ∨ k = 10 ∨ k = 11 := by omega
 obtain ⟨a1, a2⟩ := one_nf1 hw ha
 obtain ⟨c1, c2⟩ := one_nf3 hw ha
 obtain ⟨a1', a2'⟩ := one_nf1 hw hb
 obtain ⟨c1', c2'⟩ := one_nf3 hw hb
 obtain ⟨t1, t2, t3, t4, t5, t6, t7, t8, t9, t10, t11, t12⟩ := gE_tab2 (a := a) (b := b) (by omega) (by omega) hab
 rcases hk with rfl | rfl | rfl
 ·obtain ⟨d1, d2⟩ := tim_nf hw a2 a2'
  obtain ⟨e1, e2⟩ := tim_nf hw c2 c2'
  rw [t1, t2, t3, t4]
  exact ⟨⟨⟨d1.trans (by rw [a1, a1']), d2⟩, c1, c2⟩, ⟨a1', a2'⟩, e1.trans (by rw [c1, c1']), e2⟩
 ·obtain ⟨d1, d2⟩ := tim_nf hw a2 c2'
  obtain ⟨e1, e2⟩ := tim_nf hw a2' c2
  rw [t5, t6, t7, t8]
  exact ⟨⟨⟨d1.trans (by rw [a1, c1']), d2⟩, c1, c2⟩, ⟨e1.trans (by rw [a1', c1]), e2⟩, c1', c2'⟩
 ·rw [t9, t10, t11, t12]
  exact ⟨⟨⟨a1', a2'⟩, c1', c2'⟩, ⟨a1, a2⟩, c1, c2⟩
def wsOf (k a b : Nat) : List Int := if k ≤ 6 then [(a : Int)] else [(a : Int), (b : Int)]
def imgS (w k a b n l : Nat) : Ps := dec w (gE k a b (eL n (decide (l = 1) || decide (l = 2)) (decide (l = 2) || decide (l = 3))))
theorem eL_hi {w n j : Nat} (hw : w ≤ 12) (hn : n < w) (x z : Bool) (hj : (w ≤ j ∧ j < 12) ∨ 12 + w ≤ j) : (eL n x z).2.testBit j = false := by
 simp only [eL, Nat.testBit_xor, tb_cd, Nat.testBit_two_pow]
 rw [decide_eq_false (show ¬ n = j by omega), decide_eq_false (show ¬ 12 + n = j by omega)]; simp
theorem img_vl {w k a b n l : Nat} (hw : w ≤ 12) (h : gR w k a b) (hn : n < w) : Vl w (imgS w k a b n l) :=
 dec_vl hw fun j hj => gL_bits (gR_ok hw h) (w := w) (by unfold gR at h; omega) (by unfold gR at h; omega) hj (eL_hi hw hn _ _ hj)
theorem img_eq {w k a b n l : Nat} (hw : w ≤ 12) (h : gR w k a b) (hn : n < w) {r : Ps} (hr : Vl w r) (e : nf r = gE k a b (eL n (decide (l = 1) || decide (l = 2)) (decide (l = 2) || decide (l = 3)))) : r = imgS w k a b n l :=
 nf_inj hw hr (img_vl hw h hn) (by rw [e]; exact (nf_dec w (gE_lt _ _ _ _)).symm)
theorem img_by {w k a b n : Nat} (hw : w ≤ 12) (h : gR w k a b) (hn : n < w) {px pz : Ps} (hx : nf px = gE k a b (eL n true false) ∧ Vl w px) (hz : nf pz = gE k a b (eL n false true) ∧ Vl w pz) :
  px = imgS w k a b n 1 ∧ pz = imgS w k a b n 3 ∧ addP 1 (timS px pz) = imgS w k a b n 2 := by
 refine ⟨img_eq hw h hn hx.2 hx.1, img_eq hw h hn hz.2 hz.1, ?_⟩
 obtain ⟨t1, t2⟩ := tim_nf hw hx.2 hz.2
 obtain ⟨s1, s2⟩ := addP_nf 1 (by decide) t2
 refine img_eq hw h hn s2 (s1.trans ?_)
 rw [t1, hx.1, hz.1, ← gE_mul (gR_ok hw h), ← gE_esh]
 have := eL_mul (n := n) (by omega) true true
 show gE k a b _ = gE k a b (eL n true true)
 rw [this]; rfl
theorem img_out {w k a b n l : Nat} (hw : w ≤ 12) (h : gR w k a b) (hn : n < w) (hl : l ≤ 3) (hna : n ≠ a) (hnb : 9 ≤ k → n ≠ b) : oneS w n l = imgS w k a b n l := by
 refine img_eq hw h hn (one_vl hn hw) ?_
 rw [nf_letter (by omega) hl, gE_other (gR_ok hw h) (by omega) hna hnb]
theorem chk213 : chkFn Tryz.f213 = true := by kernel_rfl
theorem tim142s (q r : Ps) (hw : 0 ≤ q.w ∧ q.w ≤ 24) : PC Pr G 142 [q.d, rowsD [r] true] (timS q r).d := tim142 q [r] true hw (by simp)
theorem does213w {w n l : Nat} {q : Ps} {K : Int} {ws : List Int} {u : Bool} {b i : Int} {j : Int} {px pz : Ps} (hw : 1 ≤ w ∧ w ≤ 12) (hq : q.w = w) (hl : l = 1 ∨ l = 2 ∨ l = 3) (hws : ws.length ≤ 1000) (hj : idxI (fun k => decide ((n : Int) = k) ) ws = j) (hj0 : 0 ≤ j) (hpx : Vl w px)
  (hi : PC Pr G 214 [iD w, (Gt.mk K ws u b i).d, iD j] (.tup [px.d, pz.d])) : PC Pr G 213 [iD n, iD l, .rop (Gt.mk K ws u b i).l 0, .rop q.l 0] (if l = 1 then px else if l = 3 then pz else addP 1 (timS px pz)).d := by
 obtain ⟨qw, qx, qz, qp⟩ := q
 obtain rfl : qw = w := hq
 have h99 := idx99 (G := G) ws u (n : Int) (by omega)
 rw [hj] at h99
 have htm := tim142s (G := G) px pz (by rw [vl_w hpx]; omega)
 generalize timS px pz = m at htm ⊢
 rcases hl with rfl | rfl | rfl
 all_goals
  refine pc_walk pok Tryz.func213 chk213 ?_
  conv => whnf
  repeat' first | ((first | refine LookP.mk _ rfl ?_ | refine ShlP.mk _ (by first | (simp only [List.set, over, List.take, List.drop, List.append_eq, List.nil_append, List.cons_append, List.length]; rfl) | rfl) ?_ | refine And.intro (by first | assumption | exact ⟨by kernel_rfl, rfl⟩ | decide | omega) ?_ | refine beqT1 ?_ | refine beqF1 rfl ?_ | refine pc_use h99 ?_ | refine pc_use hi ?_ | refine pc_givec (htm) rfl ?_ | refine HpP.force ?_); conv => whnf) | (intro t ht; cases t <;> conv => whnf)
  all_goals first | exact fin rfl | (exfalso; simp at ht; omega) | skip
end Go.Tz
namespace Go.Tz
open Go Go.AL Go.Proofs Go.Ma
variable {G : Nat → Option (List D)}
theorem does213o {w n l : Nat} {q : Ps} {K : Int} {ws : List Int} {u : Bool} {b i : Int} (hq : q.w = w) (hws : ws.length ≤ 1000) (hj : idxI (fun k => decide ((n : Int) = k)) ws = -1) :
  PC Pr G 213 [iD n, iD l, .rop (Gt.mk K ws u b i).l 0, .rop q.l 0] (oneS w n l).d := by
 obtain ⟨qw, qx, qz, qp⟩ := q
 obtain rfl : qw = w := hq
 have h99 := idx99 (G := G) ws u (n : Int) (by omega)
 rw [hj] at h99
 have h1 := one212 (G := G) w n l (Int.natCast_nonneg _)
 generalize oneS w n l = m at h1 ⊢
 refine pc_walk pok Tryz.func213 chk213 ?_
 conv => whnf
 repeat' first | ((first | refine LookP.mk _ rfl ?_ | refine ShlP.mk _ (by first | (simp only [List.set, over, List.take, List.drop, List.append_eq, List.nil_append, List.cons_append, List.length]; rfl) | rfl) ?_ | refine pc_use h99 ?_ | refine pc_use h1 ?_ | refine HpP.force ?_); conv => whnf) | (intro t ht; cases t <;> conv => whnf)
 all_goals first | exact fin rfl | (exfalso; simp at ht; done)
theorem idx_one (n a : Nat) : idxI (fun k => decide ((n : Int) = k)) [(a : Int)] = if n = a then 0 else -1 := by
 unfold idxI
 by_cases h : n = a
 ·simp [h]
 ·have : ¬ (n : Int) = a := by omega
  simp [h, this]
theorem idx_two (n a b : Nat) : idxI (fun k => decide ((n : Int) = k)) [(a : Int), (b : Int)] = if n = a then 0 else if n = b then 1 else -1 := by
 unfold idxI
 by_cases h : n = a
 ·simp [h, List.findIdx?_cons]
 ·have : ¬ (n : Int) = a := by omega
  by_cases h2 : n = b
  ·simp [h2, List.findIdx?_cons] at h this ⊢
   simp [h, this]
  ·have h3 : ¬ (n : Int) = b := by omega
   simp [h, h2, this, h3, List.findIdx?_cons]
theorem does213 {w k a b n l : Nat} {q : Ps} {K : Int} (hK : K = k) {u : Bool} {bb i : Int} (hw : 1 ≤ w ∧ w ≤ 12) (hg : gR w k a b) (hq : q.w = w) (hn : n < w) (hl : l = 1 ∨ l = 2 ∨ l = 3) :
  PC Pr G 213 [iD n, iD l, .rop (Gt.mk K (wsOf k a b) u bb i).l 0, .rop q.l 0] (imgS w k a b n l).d := by
 have key : ∀ {px pz : Ps} {ws : List Int} {j : Int}, ws.length ≤ 1000 → idxI (fun k => decide ((n : Int) = k)) ws = j → 0 ≤ j → (nf px = gE k a b (eL n true false) ∧ Vl w px) → (nf pz = gE k a b (eL n false true) ∧ Vl w pz) →
   PC Pr G 214 [iD w, (Gt.mk K ws u bb i).d, iD j] (.tup [px.d, pz.d]) → PC Pr G 213 [iD n, iD l, .rop (Gt.mk K ws u bb i).l 0, .rop q.l 0] (imgS w k a b n l).d := by
  intro px pz ws j h1 h2 h3 h4 h5 h6
  have h := does213w (u := u) (b := bb) (i := i) hw hq hl h1 h2 h3 h4.2 h6
  obtain ⟨e1, e2, e3⟩ := img_by hw.2 hg hn h4 h5
  rcases hl with rfl | rfl | rfl
  ·rw [if_pos rfl, e1] at h; exact h
  ·rw [if_neg (by decide), if_neg (by decide), e3] at h; exact h
  ·rw [if_neg (by decide), if_pos rfl, e2] at h; exact h
 have out : ∀ {ws : List Int}, ws.length ≤ 1000 → idxI (fun k => decide ((n : Int) = k)) ws = -1 → n ≠ a → (9 ≤ k → n ≠ b) → PC Pr G 213 [iD n, iD l, .rop (Gt.mk K ws u bb i).l 0, .rop q.l 0] (imgS w k a b n l).d := by
  intro ws h1 h2 h3 h4
  have h := does213o (G := G) (w := w) (n := n) (l := l) (K := K) (u := u) (b := bb) (i := i) hq h1 h2
  rw [img_out hw.2 hg hn (by omega) h3 h4] at h
  exact h
 rcases hg with ⟨k1, k2, ha⟩ | ⟨k1, k2, ha, hb, hab⟩
 ·have e : wsOf k a b = [(a : Int)] := if_pos k2
  rw [e]
  by_cases h : n = a
  ·subst h
   obtain ⟨i1, i2⟩ := im1_nf (b := b) hw.2 k1 k2 ha
   exact key (by simp) (by rw [idx_one, if_pos rfl]) (Int.le_refl _) i1 i2 (images1 hK k1 k2 u bb i)
  ·exact out (by simp) (by rw [idx_one, if_neg h]) h (by omega)
 ·have e : wsOf k a b = [(a : Int), (b : Int)] := if_neg (by omega)
  rw [e]
  obtain ⟨⟨i1, i2⟩, i3, i4⟩ := im2_nf hw.2 k1 k2 ha hb hab
  by_cases h : n = a
  ·subst h
   exact key (by simp) (by rw [idx_two, if_pos rfl]) (Int.le_refl _) i1 i2 (images2 hw hK k1 k2 true u bb i)
  ·by_cases h2 : n = b
   ·subst h2
    exact key (j := 1) (by simp) (by rw [idx_two, if_neg h, if_pos rfl]) (by decide) i3 i4 (images2 hw hK k1 k2 false u bb i)
   ·exact out (by simp) (by rw [idx_two, if_neg h, if_neg h2]) h fun _ => h2
end Go.Tz
namespace Go.Tz
open Go Go.AL Go.Proofs Go.Ma
variable {G : Nat → Option (List D)}
def outS (w k a b X Z P n : Nat) : Ps := dec w (gE k a b (nf (ptS w X Z P n)))
theorem pt_vl {w X Z P n : Nat} (hX : X < 2 ^ w) (hZ : Z < 2 ^ w) (hP : P < 4) : Vl w (ptS w X Z P n) :=
 ⟨_, _, _, rfl, Nat.lt_of_le_of_lt (Nat.mod_le _ _) hX, Nat.lt_of_le_of_lt (Nat.mod_le _ _) hZ, hP⟩
theorem out_vl {w k a b X Z P n : Nat} (hw : w ≤ 12) (h : gR w k a b) (hX : X < 2 ^ w) (hZ : Z < 2 ^ w) (hP : P < 4) : Vl w (outS w k a b X Z P n) := thr_vl hw h (pt_vl hX hZ hP)
theorem nf_out (w k a b X Z P n : Nat) : nf (outS w k a b X Z P n) = gE k a b (nf (ptS w X Z P n)) := nf_dec w (gE_lt _ _ _ _)
theorem out_0 {w k a b X Z P : Nat} (hw : w ≤ 12) (h : gR w k a b) (hX : X < 2 ^ w) (hZ : Z < 2 ^ w) (hP : P < 4) : (⟨w, 0, 0, P⟩ : Ps) = outS w k a b X Z P 0 := by
 have e : (⟨w, 0, 0, P⟩ : Ps) = ptS w X Z P 0 := by
  unfold ptS mk
  rw [Nat.pow_zero, Nat.mod_one, Nat.mod_one]; rfl
 rw [e]
 exact nf_inj hw (pt_vl hX hZ hP) (out_vl hw h hX hZ hP) (by rw [nf_out]; exact pt_0 (gR_ok hw h))
theorem out_end {w k a b X Z P : Nat} (hX : X < 2 ^ w) (hZ : Z < 2 ^ w) : outS w k a b X Z P w = thrS w k a b (mk w X Z P) := by
 unfold outS thrS
 rw [pt_all hX hZ]
theorem out_skip {w k a b X Z P n : Nat} (hw : w ≤ 12) (h : gR w k a b) (hn : n < w) (hx : X.testBit n = false) (hz : Z.testBit n = false) : outS w k a b X Z P (n + 1) = outS w k a b X Z P n := by
 unfold outS
 rw [pt_skip (gR_ok hw h) (by omega) hx hz rfl]
theorem out_step {w k a b X Z P n l : Nat} (hw : w ≤ 12) (h : gR w k a b) (hn : n < w) (hX : X < 2 ^ w) (hZ : Z < 2 ^ w) (hP : P < 4) (hx : X.testBit n = (decide (l = 1) || decide (l = 2))) (hz : Z.testBit n = (decide (l = 2) || decide (l = 3))) :
  timS (outS w k a b X Z P n) (imgS w k a b n l) = outS w k a b X Z P (n + 1) := by
 obtain ⟨t1, t2⟩ := tim_nf hw (out_vl (n := n) hw h hX hZ hP) (img_vl (l := l) hw h hn)
 refine nf_inj hw t2 (out_vl hw h hX hZ hP) (t1.trans ?_)
 rw [nf_out, nf_out]
 have e : nf (imgS w k a b n l) = gE k a b (eL n (X.testBit n) (Z.testBit n)) := by rw [hx, hz]; exact nf_dec w (gE_lt _ _ _ _)
 rw [e]
 exact pt_step (gR_ok hw h) (by omega) rfl
theorem chk145 : chkFn Tryz.f145 = true := by kernel_rfl
theorem chk215 : chkFn Tryz.f215 = true := by kernel_rfl
theorem chk259 : chkFn Tryz.f259 = true := by kernel_rfl
theorem through145 {w k a b : Nat} {q : Ps} {K : Int} (hK : K = k) {u : Bool} {bb i : Int} (hw : 1 ≤ w ∧ w ≤ 12) (hg : gR w k a b) (hq : Vl w q) : PC Pr G 145 [q.d, (Gt.mk K (wsOf k a b) u bb i).d] (thrS w k a b q).d := by
 obtain ⟨X, Z, P, rfl, hX, hZ, hP⟩ := hq
 have hpw : (2 : Nat) ^ w ≤ 2 ^ 12 := Nat.pow_le_pow_right (by decide) hw.2
 rw [← out_end hX hZ]
 have hd : ∀ n l : Nat, n < w → (l = 1 ∨ l = 2 ∨ l = 3) → PC Pr G 213 [iD n, iD l, .rop (Gt.mk K (wsOf k a b) u bb i).l 0, .rop (mk w X Z P).l 0] (imgS w k a b n l).d := fun n l hn hl => does213 hK hw hg rfl hn hl
 have hL : ∀ n : Nat, n < w → letterI (X : Int) (Z : Int) n = if X.testBit n && Z.testBit n then 2 else if X.testBit n then 1 else if Z.testBit n then 3 else 0 := fun n hn => letter_nat (by omega) (by omega) (by omega)
 have hlt : ∀ (n : Nat) (d : D), PC Pr G 157 [.agg [iD w, iD X, iD Z, iD P, d], iD n] (iD (letterI X Z n)) := fun n d => letter157 (mk w X Z P) d n (Int.natCast_nonneg _)
 have h0 := out_0 hw.2 hg hX hZ hP
 have hO := fun n => out_vl (n := n) hw.2 hg hX hZ hP
 have hS := fun n (hn : n < w) (l : Nat) (hx : X.testBit n = (decide (l = 1) || decide (l = 2))) (hz : Z.testBit n = (decide (l = 2) || decide (l = 3))) => out_step (l := l) hw.2 hg hn hX hZ hP hx hz
 have hK0 := fun n (hn : n < w) (hx : X.testBit n = false) (hz : Z.testBit n = false) => out_skip (P := P) hw.2 hg hn hx hz
 generalize wsOf k a b = ws at hd ⊢
 generalize outS w k a b X Z P = out at h0 hO hS hK0 ⊢
 generalize imgS w k a b = img at hd hS
 refine pc_walk pok Tryz.func145 chk145 ?_
 conv => whnf
 repeat' first | ((first | refine LookP.mk _ rfl ?_ | refine ShlP.mk _ (by first | (simp only [List.set, over, List.take, List.drop, List.append_eq, List.nil_append, List.cons_append, List.length]; rfl) | rfl) ?_ | refine HpP.force ?_); conv => whnf)
 refine call_walk pok Tryz.func215 chk215 ?_
 conv => whnf
 skip
 refine call_walk pok Tryz.func259 chk259 ?_
 conv => whnf
 repeat' first | (refine LookP.mk _ rfl ?_; conv => whnf)
 refine for_use pok (fun n => ⟨[(0, .yld 7), (1, .ptr 5 5 0 0), (6, .d (iD w)), (7, .d (iD n))], [(0, some (.arr 4 [[.d (iD w), .d (iD X), .d (iD Z), .d (iD P)]])), (1, some (.arr 4 [[.d (iD K), .d (intsD ws u), .d (iD bb), .d (iD i)]])), (2, some (.arr 4 [[.d (iD 0), .d (iD 0), .d (iD 0), .d (iD 0)]])), (3, some (.arr 5 [[.d (iD w), .d (iD X), .d (iD Z), .d (iD P), .fn 213 [] [.ptr 1 4 0 0, .ptr 0 4 0 0]]])), (4, some (.arr 4 [(out n).l.map AV.d])), (5, some (.arr 5 [[.d (iD w), .d (iD X), .d (iD Z), .d (iD P), .fn 213 [] [.ptr 1 4 0 0, .ptr 0 4 0 0]]])), (6, some (.raw (.deferred (some [])))), (7, some (.lp [(18, .fn 259 [] [.ptr 5 5 0 0]), (17, .agg [.d (iD w), .d (iD X), .d (iD Z), .d (iD P), .fn 213 [] [.ptr 1 4 0 0, .ptr 0 4 0 0]]), (6, .ptr 4 4 0 0), (16, .d (.agg [iD w, iD 0, iD 0, iD P])), (15, .d (iD P)), (14, .ptr 0 4 0 3), (13, .d (iD w)), (12, .ptr 0 4 0 0), (11, .ptr 3 5 0 4), (10, .fn 213 [] [.ptr 1 4 0 0, .ptr 0 4 0 0]), (5, .ptr 3 5 0 0), (9, .d (.agg [iD w, iD X, iD Z, iD P, .nilf])), (8, .d (.agg [iD w, iD X, iD Z, iD P])), (4, .ptr 2 4 0 0), (3, .ptr 1 4 0 0), (2, .ptr 0 4 0 0), (0, .d (.agg [iD w, iD X, iD Z, iD P])), (1, .d (.agg [iD K, intsD ws u, iD bb, iD i]))] Tryz.f145.ntmps #[19] (rgA Tryz.f145) (rgB Tryz.f145) .ready none 6))], 8⟩) (w) (fun _ => True) (trivial) ?_ (by kernel_rfl) ?_ ?_
 ·refine keep_env (by first | exact Nat.zero_le _ | exact Nat.le_of_ble_eq_true rfl) ?_ ?_ trivial
  ·repeat' first | exact trivial | refine ⟨⟨by first | rfl | assumption, rfl⟩, ?_⟩
  ·repeat' first | exact trivial | refine ⟨⟨ltB rfl, _, rfl, by first | rfl | assumption | (rw [← h0]; rfl), by first | exact below1 rfl | exact below_dblk _ _ _ | exact below_arr rfl | exact trivial | exact ⟨rfl, Nat.le_of_ble_eq_true rfl⟩⟩, ?_⟩
 ·intro n A_n h_n I_n N_n
  have e_n : iadd .i64 (n : Int) 1 = ((n + 1 : Nat) : Int) := iadd_nat (by first | omega | (simp at *; omega))
  have hB : chkCode Tryz.f145.ntmps (rgB Tryz.f145) = true := by kernel_rfl
  have hOn := hO n
  have hOw := vl_w hOn
  have hl := hlt n
  have hLn := hL n h_n
  have hSn := hS n h_n
  have hKn := hK0 n h_n
  rw [hLn] at hl
  cases hx : X.testBit n <;> cases hz : Z.testBit n
  ·have hl : ∀ d, PC Pr G 157 [.agg [iD w, iD X, iD Z, iD P, d], iD n] (iD 0) := fun d => by have := hl d; rw [hx, hz] at this; exact this
   have hnx := hKn hx hz
   conv => whnf
   repeat (refine LookP.mk _ rfl ?_; conv => whnf)
   intro t ht
   cases t
   ·exfalso; first | (simp at ht; done) | (simp at ht; omega)
   conv => whnf
   repeat' first | ((first | refine LookP.mk _ rfl ?_ | refine pc_lendc (hl (.fn 213 [] [.rop [iD K, intsD ws u, iD bb, iD i] 0, .rop [iD w, iD X, iD Z, iD P] 0])) rfl rfl ?_); conv => whnf) | (intro t ht; cases t <;> conv => whnf)
   ·refine N_n _ ?_ ?_
    ·first | trivial | assumption | omega
    ·refine keep_env (by first | exact Nat.zero_le _ | exact Nat.le_of_ble_eq_true rfl) ?_ ?_ trivial
     ·repeat' first | exact trivial | refine ⟨⟨by first | rfl | assumption | exact congrArg (fun n => AV.d (iD n)) e_n, rfl⟩, ?_⟩
     ·repeat' first | exact trivial | refine ⟨⟨ltB rfl, _, rfl, by first | rfl | assumption | (rw [hnx]; rfl), by first | exact below1 rfl | exact below_dblk _ _ _ | exact below_arr rfl | exact trivial | exact ⟨rfl, Nat.le_of_ble_eq_true rfl⟩⟩, ?_⟩
   ·exfalso; simp at ht
  ·have hl : ∀ d, PC Pr G 157 [.agg [iD w, iD X, iD Z, iD P, d], iD n] (iD 3) := fun d => by have := hl d; rw [hx, hz] at this; exact this
   have hdn := hd n 3 h_n (by decide)
   have ht2 := tim142s (G := G) (out n) (img n 3) (by rw [hOw]; omega)
   have hnx := hSn 3 hx hz
   rw [hnx] at ht2
   generalize img n 3 = d at hdn ht2
   generalize hon : out n = o at hOn hOw hnx ht2 ⊢
   obtain ⟨ow, ox, oz, op⟩ := o
   obtain rfl : ow = w := hOw
   conv => whnf
   repeat (refine LookP.mk _ rfl ?_; conv => whnf)
   intro t ht
   cases t
   ·exfalso; first | (simp at ht; done) | (simp at ht; omega)
   conv => whnf
   repeat' first | ((first | refine LookP.mk _ rfl ?_ | refine pc_lendc (hl (.fn 213 [] [.rop [iD K, intsD ws u, iD bb, iD i] 0, .rop [iD w, iD X, iD Z, iD P] 0])) rfl rfl ?_); conv => whnf) | (intro t ht; cases t <;> conv => whnf)
   all_goals first | (exfalso; simp at ht; done) | skip
   refine round_walk pok ?_
   conv => whnf
   repeat' first | ((first | refine LookP.mk _ rfl ?_ | refine ShlP.mk _ (by first | (simp only [List.set, over, List.take, List.drop, List.append_eq, List.nil_append, List.cons_append, List.length]; rfl) | rfl) ?_ | rw [hB] | refine pc_head (hl _) ?_ | refine pc_head hdn ?_ | refine pc_head ht2 ?_ | refine HpP.force ?_); conv => whnf)
   refine N_n _ ?_ ?_
   ·first | trivial | assumption | omega
   ·refine keep_env (by first | exact Nat.zero_le _ | exact Nat.le_of_ble_eq_true rfl) ?_ ?_ trivial
    ·repeat' first | exact trivial | refine ⟨⟨by first | rfl | assumption | exact congrArg (fun n => AV.d (iD n)) e_n, rfl⟩, ?_⟩
    ·repeat' first | exact trivial | refine ⟨⟨ltB rfl, _, rfl, by first | rfl | assumption, by first | exact below1 rfl | exact below_dblk _ _ _ | exact below_arr rfl | exact trivial | exact ⟨rfl, Nat.le_of_ble_eq_true rfl⟩⟩, ?_⟩
  ·have hl : ∀ d, PC Pr G 157 [.agg [iD w, iD X, iD Z, iD P, d], iD n] (iD 1) := fun d => by have := hl d; rw [hx, hz] at this; exact this
   have hdn := hd n 1 h_n (by decide)
   have ht2 := tim142s (G := G) (out n) (img n 1) (by rw [hOw]; omega)
   have hnx := hSn 1 hx hz
   rw [hnx] at ht2
   generalize img n 1 = d at hdn ht2
   generalize hon : out n = o at hOn hOw hnx ht2 ⊢
   obtain ⟨ow, ox, oz, op⟩ := o
   obtain rfl : ow = w := hOw
   conv => whnf
   repeat (refine LookP.mk _ rfl ?_; conv => whnf)
   intro t ht
   cases t
   ·exfalso; first | (simp at ht; done) | (simp at ht; omega)
   conv => whnf
   repeat' first | ((first | refine LookP.mk _ rfl ?_ | refine pc_lendc (hl (.fn 213 [] [.rop [iD K, intsD ws u, iD bb, iD i] 0, .rop [iD w, iD X, iD Z, iD P] 0])) rfl rfl ?_); conv => whnf) | (intro t ht; cases t <;> conv => whnf)
   all_goals first | (exfalso; simp at ht; done) | skip
   refine round_walk pok ?_
   conv => whnf
   repeat' first | ((first | refine LookP.mk _ rfl ?_ | refine ShlP.mk _ (by first | (simp only [List.set, over, List.take, List.drop, List.append_eq, List.nil_append, List.cons_append, List.length]; rfl) | rfl) ?_ | rw [hB] | refine pc_head (hl _) ?_ | refine pc_head hdn ?_ | refine pc_head ht2 ?_ | refine HpP.force ?_); conv => whnf)
   refine N_n _ ?_ ?_
   ·first | trivial | assumption | omega
   ·refine keep_env (by first | exact Nat.zero_le _ | exact Nat.le_of_ble_eq_true rfl) ?_ ?_ trivial
    ·repeat' first | exact trivial | refine ⟨⟨by first | rfl | assumption | exact congrArg (fun n => AV.d (iD n)) e_n, rfl⟩, ?_⟩
    ·repeat' first | exact trivial | refine ⟨⟨ltB rfl, _, rfl, by first | rfl | assumption, by first | exact below1 rfl | exact below_dblk _ _ _ | exact below_arr rfl | exact trivial | exact ⟨rfl, Nat.le_of_ble_eq_true rfl⟩⟩, ?_⟩
  ·have hl : ∀ d, PC Pr G 157 [.agg [iD w, iD X, iD Z, iD P, d], iD n] (iD 2) := fun d => by have := hl d; rw [hx, hz] at this; exact this
   have hdn := hd n 2 h_n (by decide)
   have ht2 := tim142s (G := G) (out n) (img n 2) (by rw [hOw]; omega)
   have hnx := hSn 2 hx hz
   rw [hnx] at ht2
   generalize img n 2 = d at hdn ht2
   generalize hon : out n = o at hOn hOw hnx ht2 ⊢
   obtain ⟨ow, ox, oz, op⟩ := o
   obtain rfl : ow = w := hOw
   conv => whnf
   repeat (refine LookP.mk _ rfl ?_; conv => whnf)
   intro t ht
   cases t
   ·exfalso; first | (simp at ht; done) | (simp at ht; omega)
   conv => whnf
   repeat' first | ((first | refine LookP.mk _ rfl ?_ | refine pc_lendc (hl (.fn 213 [] [.rop [iD K, intsD ws u, iD bb, iD i] 0, .rop [iD w, iD X, iD Z, iD P] 0])) rfl rfl ?_); conv => whnf) | (intro t ht; cases t <;> conv => whnf)
   all_goals first | (exfalso; simp at ht; done) | skip
   refine round_walk pok ?_
   conv => whnf
   repeat' first | ((first | refine LookP.mk _ rfl ?_ | refine ShlP.mk _ (by first | (simp only [List.set, over, List.take, List.drop, List.append_eq, List.nil_append, List.cons_append, List.length]; rfl) | rfl) ?_ | rw [hB] | refine pc_head (hl _) ?_ | refine pc_head hdn ?_ | refine pc_head ht2 ?_ | refine HpP.force ?_); conv => whnf)
   refine N_n _ ?_ ?_
   ·first | trivial | assumption | omega
   ·refine keep_env (by first | exact Nat.zero_le _ | exact Nat.le_of_ble_eq_true rfl) ?_ ?_ trivial
    ·repeat' first | exact trivial | refine ⟨⟨by first | rfl | assumption | exact congrArg (fun n => AV.d (iD n)) e_n, rfl⟩, ?_⟩
    ·repeat' first | exact trivial | refine ⟨⟨ltB rfl, _, rfl, by first | rfl | assumption, by first | exact below1 rfl | exact below_dblk _ _ _ | exact below_arr rfl | exact trivial | exact ⟨rfl, Nat.le_of_ble_eq_true rfl⟩⟩, ?_⟩
 ·intro A_last I_last
  have hoe := vl_w (hO w)
  generalize out w = o at hoe ⊢
  conv => whnf
  repeat (refine LookP.mk _ rfl ?_; conv => whnf)
  intro t ht
  cases t
  rotate_left
  ·exfalso; first | (simp at ht; done) | (simp at ht; omega)
  conv => whnf
  repeat' first | ((first | refine LookP.mk _ rfl ?_ | refine ShlP.mk _ (by first | (simp only [List.set, over, List.take, List.drop, List.append_eq, List.nil_append, List.cons_append, List.length]; rfl) | rfl) ?_ | refine HpP.force ?_); conv => whnf)
  exact fin rfl
end Go.Tz
namespace Go.Tz
open Go Go.AL Go.Proofs Go.Ma
variable {G : Nat → Option (List D)}
theorem asD_own {H : AHeap} {nm sz N : Nat} {t : Bool} {es : List (List D)} (hg : H.get nm = some (dblk sz es)) (hN : N = es.length) : AsD H (.sl nm sz 0 N N t) (.sl es t) := by
 subst hN
 have := asD_sl_map (H := H) (lo := 0) (len := es.length) (room := es.length) (t := t) hg (by simp)
 simpa using this
theorem give_get {nm sz : Nat} {es : List (List D)} {H : AHeap} (hg : H.get nm = some (dblk sz es)) : ∀ m b, AHeap.get [(nm, some (dblk sz es))] m = some b → m ∈ [nm] ∧ H.get m = some b := fun m b h => by
 by_cases em : m = nm
 ·subst em; rw [get_cons_same] at h; exact ⟨by simp, by rw [hg, ← h]⟩
 ·rw [get_cons_ne _ _ em] at h; cases h
theorem give_as {a : D} {nm sz N : Nat} {t : Bool} {es : List (List D)} (hN : N = es.length) : ∀ (i : Nat) (v : AV) (d : D), [AV.agg [.d a, .sl nm sz 0 N N t]][i]? = some v → [D.agg [a, .sl es t]][i]? = some d → AsD [(nm, some (dblk sz es))] v d := fun i v d h1 h2 => by
 match i, h1, h2 with
 | 0, h1, h2 =>
  simp at h1 h2; subst h1 h2
  exact asD_agg2 (.d _) (asD_own (get_cons_same nm _ []) hN)
 | i + 1, h1, _ => simp at h1
theorem po_giveS {f : FuncId} {a : D} {nm sz N : Nat} {t : Bool} {es : List (List D)} {v : AV} {M : AHeap} {n : Nat} {H : AHeap} {nx : Nat} {k : AV → AHeap → Nat → Prop} (h : PO Pr G f [.agg [a, .sl es t]] v M n) (hg : H.get nm = some (dblk sz es)) (hN : N = es.length)
  (hk : k (v.ren (· + nx)) (M.shift nx ++ dels [nm] H) (nx + n)) : CallVC Pr G f [.agg [.d a, .sl nm sz 0 N N t]] H nx k := by
 refine ⟨h.fn, acall_give (HL := [(nm, some (dblk sz es))]) (L := [nm]) (acall_data h.call ?_) rfl (give_get hg) (give_as hN)⟩
 rintro v' N' m ⟨rfl, rfl, rfl⟩
 exact hk
end Go.Tz
namespace Go.Tz
open Go Go.AL Go.Proofs Go.Ma
variable {G : Nat → Option (List D)}
def kindB (k : Int) : Bool := decide ((1 ≤ k ∧ k ≤ 6) ∨ (9 ≤ k ∧ k ≤ 11))
def cliffB (g : Gt) : Bool := decide (g.i = 0) && kindB g.k
theorem chk144 : chkFn Tryz.f144 = true := by kernel_rfl
theorem cliff144 (g : Gt) : PC Pr G 144 [g.d] (.bool (cliffB g)) := by
 obtain ⟨k, ws, u, b, f⟩ := g
 refine pc_walk pok Tryz.func144 chk144 ?_
 conv => whnf
 repeat' first | (refine LookP.mk _ rfl ?_; conv => whnf) | (intro t ht; cases t <;> conv => whnf)
 all_goals
  refine fin ?_
  refine fiB ?_
  simp at *
  unfold cliffB kindB
  simp
  omega
theorem gchk_ok {g : Gt} {w : Int} {bits : Int} (h : gchk g w bits = 0) : arI g.k ≠ 0 ∧ (g.ws.length : Int) = arI g.k ∧ outB w g.ws = false ∧ dupB g.ws = false ∧ bitE g bits = 0 := by
 unfold gchk at h
 split at h
 ·cases h
 ·split at h
  ·cases h
  ·split at h
   ·cases h
   ·split at h
    ·cases h
    ·rename_i h1 h2 h3 h4
     exact ⟨h1, by omega, by simpa using h3, by simpa using h4, h⟩
theorem bitE_ok {g : Gt} {bits : Int} (h : bitE g bits = 0) : (0 ≤ g.i ∧ g.i ≤ bits) ∧ (g.k = 13 → 0 ≤ g.b ∧ g.b < bits) ∧ ((g.k = 13 ∨ g.k = 14) → g.i = 0) ∧ (g.k ≠ 13 → g.b = 0) := by
 unfold bitE at h
 split at h
 ·cases h
 ·split at h
  ·cases h
  ·rename_i h1 h2
   exact ⟨by omega, by omega, by omega, by omega⟩
def gK (g : Gt) : Nat := g.k.toNat
def gA (g : Gt) : Nat := (g.ws.getD 0 0).toNat
def gB (g : Gt) : Nat := (g.ws.getD 1 0).toNat
theorem len2 {α : Type} : ∀ {l : List α}, l.length = 2 → ∃ a b, l = [a, b]
 | [a, b], _ => ⟨a, b, rfl⟩
theorem gR_of {g : Gt} {w : Nat} {bits : Int} (h : gchk g w bits = 0) (hk : kindB g.k = true) : gR w (gK g) (gA g) (gB g) ∧ g.k = gK g ∧ g.ws = wsOf (gK g) (gA g) (gB g) := by
 obtain ⟨h1, h2, h3, h4, _⟩ := gchk_ok h
 obtain ⟨k, ws, u, b, f⟩ := g
 simp only [gK, gA, gB] at *
 have hk := of_decide_eq_true hk
 have hin : ∀ n, n ∈ ws → 0 ≤ n ∧ n < w := fun n hn => by
  have := List.any_eq_false.1 h3 n hn
  simp at this; omega
 rcases hk with hk | hk
 ·rw [ari1 (by omega)] at h2
  obtain ⟨n, rfl⟩ := List.length_eq_one_iff.1 (show ws.length = 1 by omega)
  have hn := hin n (by simp)
  have e : (k.toNat ≤ 6) := by omega
  refine ⟨.inl ⟨by omega, by omega, ?_⟩, by omega, ?_⟩
  ·simp; omega
  ·unfold wsOf
   rw [if_pos e]
   simp; omega
 ·rw [ari2 (by omega)] at h2
  obtain ⟨n, m, rfl⟩ := len2 (show ws.length = 2 by omega)
  have hn := hin n (by simp)
  have hm := hin m (by simp)
  have hd : n ≠ m := fun q => by
   have := List.any_eq_false.1 h4 1 (List.mem_range.2 (by simp))
   rw [dupAt_lt (by simp)] at this
   simp [q] at this
  have e : ¬ (k.toNat ≤ 6) := by omega
  refine ⟨.inr ⟨by omega, by omega, ?_, ?_, ?_⟩, by omega, ?_⟩
  ·simp; omega
  ·simp; omega
  ·simp; omega
  ·unfold wsOf
   rw [if_neg e]
   simp; omega
def thrG (w : Nat) (g : Gt) (q : Ps) : Ps := thrS w (gK g) (gA g) (gB g) q
theorem through145g {w : Nat} (hw : 1 ≤ w ∧ w ≤ 12) {g : Gt} {bits : Int} (h : gchk g w bits = 0) (hk : kindB g.k = true) {q : Ps} (hq : Vl w q) : PC Pr G 145 [q.d, g.d] (thrG w g q).d := by
 obtain ⟨h1, h2, h3⟩ := gR_of h hk
 have := through145 (G := G) (u := g.u) (bb := g.b) (i := g.i) h2 hw h1 hq
 rw [← h3] at this
 exact this
theorem cchk_one {w : Nat} (hw : 1 ≤ w ∧ w ≤ 12) (g : Gt) : cchk w 0 [g] = gchk g w 0 := by
 by_cases h : gchk g w 0 = 0
 ·rw [h]
  exact cchk0 (by omega) (by simp) (by simpa using h)
 ·exact cchk_at (l := [g]) (i := 0) (by omega) (by simp) (by simp) (by simp) h
theorem chk69 : chkFn Tryz.f69 = true := by kernel_rfl
def thrD (w : Nat) (g : Gt) (q : Ps) : D := if gchk g w 0 ≠ 0 then .tup [Ps.d ⟨0, 0, 0, 0⟩, iD (gchk g w 0)] else if kindB g.k = true then .tup [(thrG w g q).d, iD 0] else .tup [Ps.d ⟨0, 0, 0, 0⟩, iD 7]
theorem through69 {w : Nat} (hw : 1 ≤ w ∧ w ≤ 12) (g : Gt) (hn : g.ws.length ≤ 1000) {q : Ps} (hq : Vl w q) : PC Pr G 69 [q.d, g.d] (thrD w g q) := by
 have h1 := check111 (G := G) q
 rw [pck_vl hw hq] at h1
 have hqw := vl_w hq
 have h2 : ∀ t, PC Pr G 129 [circD q.w 0 [g] t] (iD (gchk g w 0)) := fun t => by
  have := check129 (G := G) w 0 [g] t (by simp) (by simpa using hn)
  rw [cchk_one hw] at this
  rw [hqw]; exact this
 have h3 := cliff144 (G := G) g
 have h4 := fun h k => through145g (G := G) hw (g := g) (bits := 0) h k hq
 have hi0 : gchk g w 0 = 0 → g.i = 0 := fun h => by
  have := (bitE_ok (gchk_ok h).2.2.2.2).1; omega
 unfold thrD
 generalize thrG w g q = r at h4 ⊢
 obtain ⟨k, ws, u, b, f⟩ := g
 by_cases he : gchk ⟨k, ws, u, b, f⟩ w 0 = 0
 ·have hf := hi0 he
  simp only at hf
  subst hf
  rw [if_neg (fun h => h he)]
  rw [he] at h2
  have e3 : cliffB ⟨k, ws, u, b, 0⟩ = kindB k := by unfold cliffB; simp
  rw [e3] at h3
  by_cases hk : kindB k = true
  ·have h5 := h4 he hk
   rw [if_pos hk]
   rw [hk] at h3
   refine pc_walk pok Tryz.func69 chk69 ?_
   conv => whnf
   repeat' first | ((first | refine LookP.mk _ rfl ?_ | refine ShlP.mk _ (by first | (simp only [List.set, over, List.take, List.drop, List.append_eq, List.nil_append, List.cons_append, List.length]; rfl) | rfl) ?_ | refine pc_use h1 ?_ | refine pc_givec (h2 true) rfl ?_ | refine pc_use h3 ?_ | refine pc_use h5 ?_ | refine HpP.force ?_); conv => whnf) | (intro t ht; cases t <;> conv => whnf)
   all_goals first | exact fin rfl | (exfalso; simp at ht; done)
  ·rw [if_neg hk]
   have hk : kindB k = false := by simpa using hk
   rw [hk] at h3
   refine pc_walk pok Tryz.func69 chk69 ?_
   conv => whnf
   repeat' first | ((first | refine LookP.mk _ rfl ?_ | refine ShlP.mk _ (by first | (simp only [List.set, over, List.take, List.drop, List.append_eq, List.nil_append, List.cons_append, List.length]; rfl) | rfl) ?_ | refine pc_use h1 ?_ | refine pc_givec (h2 true) rfl ?_ | refine pc_use h3 ?_ | refine HpP.force ?_); conv => whnf) | (intro t ht; cases t <;> conv => whnf)
   all_goals first | exact fin rfl | (exfalso; simp at ht; done)
 ·rw [if_pos he]
  generalize gchk ⟨k, ws, u, b, f⟩ w 0 = e at h2 he ⊢
  refine pc_walk pok Tryz.func69 chk69 ?_
  conv => whnf
  repeat' first | ((first | refine LookP.mk _ rfl ?_ | refine ShlP.mk _ (by first | (simp only [List.set, over, List.take, List.drop, List.append_eq, List.nil_append, List.cons_append, List.length]; rfl) | rfl) ?_ | refine pc_use h1 ?_ | refine pc_givec (h2 true) rfl ?_ | refine HpP.force ?_); conv => whnf) | (intro t ht; cases t <;> conv => whnf)
  all_goals first | exact fin rfl | (exfalso; simp at ht; first | done | exact he ht)
theorem chk126 : chkFn Tryz.f126 = true := by kernel_rfl
theorem clifford126 (w bits : Int) (l : List Gt) (t : Bool) (hn : l.length ≤ 1000) (hws : ∀ g, g ∈ l → g.ws.length ≤ 1000) : PC Pr G 126 [circD w bits l t] (if cchk w bits l = 0 then .tup [.bool (l.all cliffB), iD 0] else .tup [.bool false, iD (cchk w bits l)]) := by
 have h1 := check129 (G := G) w bits l t hn hws
 have h2 := every206 (G := G) l t 144 [] [] cliffB hn fun g _ => cliff144 g
 generalize (l.all cliffB) = r at h2 ⊢
 generalize cchk w bits l = e at h1 ⊢
 by_cases he : e = 0
 ·subst he
  rw [if_pos rfl]
  refine pc_walk pok Tryz.func126 chk126 ?_
  conv => whnf
  repeat' first | ((first | refine LookP.mk _ rfl ?_ | refine pc_use h1 ?_ | refine pc_use h2 ?_); conv => whnf) | (intro t ht; cases t <;> conv => whnf)
  all_goals first | exact fin rfl | (exfalso; simp at ht; done)
 ·rw [if_neg he]
  refine pc_walk pok Tryz.func126 chk126 ?_
  conv => whnf
  repeat' first | ((first | refine LookP.mk _ rfl ?_ | refine pc_use h1 ?_); conv => whnf) | (intro t ht; cases t <;> conv => whnf)
  all_goals first | exact fin rfl | (exfalso; simp at ht; first | done | exact he ht)
end Go.Tz
namespace Go.Tz
open Go Go.AL Go.Proofs Go.Ma
variable {G : Nat → Option (List D)}
def appG (w : Nat) (g : Gt) (l : List Ps) : List Ps := redRows (l.map (thrG w g)) (2 * w)
theorem thrG_vl {w : Nat} (hw : w ≤ 12) {g : Gt} {bits : Int} (hg : gchk g w bits = 0) (hk : kindB g.k = true) {q : Ps} (hq : Vl w q) : Vl w (thrG w g q) := thr_vl hw (gR_of hg hk).1 hq
theorem thrG_all {w : Nat} (hw : w ≤ 12) {g : Gt} {bits : Int} (hg : gchk g w bits = 0) (hk : kindB g.k = true) {l : List Ps} (hv : ∀ q, q ∈ l → Vl w q) : ∀ q, q ∈ l.map (thrG w g) → Vl w q := fun q hq => by
 obtain ⟨r, hr, rfl⟩ := List.mem_map.1 hq
 exact thrG_vl hw hg hk (hv r hr)
theorem appG_len (w : Nat) (g : Gt) (l : List Ps) : (appG w g l).length = l.length := by simp [appG, redRows_len]
theorem appG_vl {w : Nat} (hw : w ≤ 12) {g : Gt} {bits : Int} (hg : gchk g w bits = 0) (hk : kindB g.k = true) {l : List Ps} (hv : ∀ q, q ∈ l → Vl w q) : ∀ q, q ∈ appG w g l → Vl w q := red_all_vl hw (thrG_all hw hg hk hv) _
theorem appG_sok {w : Nat} {g : Gt} {bits : Int} (hg : gchk g w bits = 0) (hk : kindB g.k = true) {l : List Ps} (h : SOk w l) : SOk w (appG w g l) := app_sok (gR_of hg hk).1 h
theorem chk125 : chkFn Tryz.f125 = true := by kernel_rfl
theorem applied125 {w : Nat} (hw : 1 ≤ w ∧ w ≤ 12) {k b i : Int} {ws : List Int} {u : Bool} (hg : gchk ⟨k, ws, u, b, 0⟩ w 0 = 0) (hk : kindB k = true) (l : List Ps) (t : Bool) (hn : l.length ≤ 1000) (hv : ∀ q, q ∈ l → Vl w q) :
  PO Pr G 125 [stD w l t, (Gt.mk k ws u b i).d] (.agg [.d (iD w), .sl 0 4 0 l.length l.length true]) [(0, some (dblk 4 ((appG w ⟨k, ws, u, b, 0⟩ l).map Ps.l)))] 1 := by
 have hwl : ws.length ≤ 1000 := by
  have h := (gchk_ok hg).2.1
  simp only at h
  have : arI k ≤ 3 := by unfold arI; split <;> (try split) <;> (try split) <;> omega
  omega
 have hgv := thrG_all hw.2 hg hk hv
 have hc := canon105o (G := G) hw (l.map (thrG w ⟨k, ws, u, b, 0⟩)) false (by simpa using hn) hgv
 have ht : ∀ q, Vl w q → PC Pr G 69 [q.d, (Gt.mk k ws u b 0).d] (.tup [(thrG w ⟨k, ws, u, b, 0⟩ q).d, iD 0]) := fun q hq => by
  have := through69 (G := G) hw ⟨k, ws, u, b, 0⟩ hwl hq
  unfold thrD at this
  rw [if_neg (fun h => h hg), if_pos hk] at this
  exact this
 show PO Pr G 125 _ _ [(0, some (dblk 4 ((redRows (l.map (thrG w ⟨k, ws, u, b, 0⟩)) (2 * w)).map Ps.l)))] 1
 generalize thrG w ⟨k, ws, u, b, 0⟩ = F at hc ht ⊢
 have hlen : (l.map F).length = l.length := by simp
 rw [hlen] at hc
 generalize redRows (l.map F) (2 * w) = R at hc ⊢
 refine ⟨isFn_of Tryz.func125 chk125, acall_sub (K := fun v H _ => v = .agg [.d (iD w), .sl 5 4 0 l.length l.length true] ∧ H.get 5 = some (dblk 4 (R.map Ps.l))) (fn_walk pok Tryz.func125 chk125 ?_) ?_⟩
 ·conv => whnf
  repeat' first | ((first | refine LookP.mk _ rfl ?_ | refine ShlP.mk _ (by first | (simp only [List.set, over, List.take, List.drop, List.append_eq, List.nil_append, List.cons_append, List.length]; rfl) | rfl) ?_ | refine HpP.force ?_); conv => whnf)
  refine for_use pok (fun j => ⟨[(3, .ptr 1 4 0 0), (4, .ptr 2 2 0 0), (5, .ptr 3 2 0 0), (15, .d (rowsD l t)), (16, .d (iD (l.map Ps.l).length)), (17, .d (iD j))], [(1, some (.arr 4 [[.d (iD k), .d (intsD ws u), .d (iD b), .d (iD 0)]])), (2, some (.arr 2 [[.d (iD 0), .d (.sl [] true)]])), (3, some (.arr 2 [[.d (iD w), .sl 4 4 0 j j false]])), (4, some (dblk 4 (((l.take j).map F).map Ps.l)))], 5⟩) (l.length) (fun _ => True) (trivial) ?_ (by kernel_rfl) ?_ ?_
  ·refine Sub.trans (sub_nilH2 (nm := 3) (S := 4) (Nat.zero_le _) rfl) ?_
   refine keep_env (by first | exact Nat.zero_le _ | exact Nat.le_of_ble_eq_true rfl) ?_ ?_ trivial
   ·repeat' first | exact trivial | refine ⟨⟨by first | rfl | assumption, rfl⟩, ?_⟩
   ·repeat' first | exact trivial | refine ⟨⟨ltB rfl, _, rfl, by first | rfl | assumption, by first | exact below1 rfl | exact below_dblk _ _ _ | exact below_arr rfl⟩, ?_⟩
  ·intro j A_j h_j I_j N_j
   have e_j : iadd .i64 (j : Int) 1 = ((j + 1 : Nat) : Int) := iadd_nat (by first | omega | (simp at *; omega))
   have hj := ht l[j] (hv _ (List.getElem_mem h_j))
   have hsn : ((l.take (j + 1)).map F).map Ps.l = ((l.take j).map F).map Ps.l ++ [(F l[j]).l] := by rw [take_snoc h_j, List.map_append, List.map_append]; rfl
   have hml : (((l.take j).map F).map Ps.l).length = j := by rw [List.length_map, List.length_map, List.length_take]; omega
   generalize ((l.take j).map F).map Ps.l = M at hsn hml
   generalize F l[j] = r at hj hsn
   conv => whnf
   repeat (refine LookP.mk _ rfl ?_; conv => whnf)
   intro t ht
   cases t
   ·exfalso; first | (simp at ht; done) | (simp at ht; omega)
   conv => whnf
   repeat' first | ((first | refine LookP.mk _ (by first | rfl | exact get_l h_j) ?_ | refine ShlP.mk _ (by first | (simp only [List.set, over, List.take, List.drop, List.append_eq, List.nil_append, List.cons_append, List.length]; rfl) | rfl) ?_ | (refine And.intro (by first | exact Nat.le_refl _ | exact ⟨by rw [List.length_map]; exact hml, by decide, by show (2 * (j + 1) + 192) * 32 ≤ 281474976710656; omega⟩ | assumption | exact ⟨by kernel_rfl, rfl⟩ | decide | omega) ?_) | refine pc_use hj ?_ | rw [nbeq] | refine HpP.force ?_); conv => whnf)
   refine N_j _ ?_ ?_
   ·first | trivial | assumption | omega
   ·first | refine ren_env [(4, 8)] ?_ ?_ ?_ trivial | refine ren_envB [(4, 8)] rfl rfl ?_ ?_ ?_ trivial
    ·repeat' first | exact trivial | refine ⟨⟨by first | rfl | assumption | exact congrArg (fun n => AV.d (iD n)) e_j, rfl⟩, ?_⟩
    ·repeat' first | exact trivial | refine ⟨⟨ltB rfl, _, rfl, by first | rfl | assumption | exact get_ren rfl (by first | rfl | assumption | exact get_ren rfl (by rw [hsn]; exact congrArg some (dblk_snoc rfl))) | exact get_ren rfl (by rw [hsn]; exact congrArg some (dblk_snoc rfl)), by first | exact below1 rfl | exact below_dblk _ _ _ | exact below_arr rfl⟩, ?_⟩
    ·repeat' first | exact trivial | (refine And.intro ?_ ?_) | (exact fun _ => rfl) | (exact fun h => absurd h (Nat.ne_of_beq_eq_false rfl))
  ·intro A_last I_last
   have hT : l.take l.length = l := List.take_of_length_le (Nat.le_refl _)
   rw [hT]
   conv => whnf
   repeat (refine LookP.mk _ rfl ?_; conv => whnf)
   intro t ht
   cases t
   rotate_left
   ·exfalso; first | (simp at ht; done) | (simp at ht; omega)
   conv => whnf
   repeat' first | ((first | refine LookP.mk _ rfl ?_ | refine ShlP.mk _ (by first | (simp only [List.set, over, List.take, List.drop, List.append_eq, List.nil_append, List.cons_append, List.length]; rfl) | rfl) ?_ | refine po_giveS hc rfl (by simp) ?_ | refine HpP.force ?_); conv => whnf)
   refine fin ⟨rfl, ?_⟩
   show some (Blk.ren _ (dblk 4 _)) = _
   rw [ren_dblk]
 ·rintro v H n ⟨rfl, h2⟩
  refine ⟨_, _, 1, ?_, rfl, rfl, rfl⟩
  first | refine ren_env [(0, 5)] ?_ ?_ ?_ trivial | refine ren_envB [(0, 5)] rfl rfl ?_ ?_ ?_ trivial
  ·repeat' first | exact trivial | refine ⟨⟨by first | rfl | assumption, rfl⟩, ?_⟩
  ·repeat' first | exact trivial | refine ⟨⟨ltB rfl, _, rfl, by first | rfl | assumption | exact get_ren rfl (by first | rfl | assumption | exact get_ren rfl h2) | exact get_ren rfl h2, by first | exact below1 rfl | exact below_dblk _ _ _ | exact below_arr rfl⟩, ?_⟩
  ·repeat' first | exact trivial | (refine And.intro ?_ ?_) | (exact fun _ => rfl) | (exact fun h => absurd h (Nat.ne_of_beq_eq_false rfl))
end Go.Tz
namespace Go.Tz
open Go Go.AL Go.Proofs Go.Ma
variable {G : Nat → Option (List D)}
theorem give_as2 {a e : D} {nm sz N : Nat} {t : Bool} {es : List (List D)} (hN : N = es.length) : ∀ (i : Nat) (v : AV) (d : D), [AV.agg [.d a, .sl nm sz 0 N N t], .d e][i]? = some v → [D.agg [a, .sl es t], e][i]? = some d → AsD [(nm, some (dblk sz es))] v d := fun i v d h1 h2 => by
 match i, h1, h2 with
 | 0, h1, h2 =>
  simp at h1 h2; subst h1 h2
  exact asD_agg2 (.d _) (asD_own (get_cons_same nm _ []) hN)
 | 1, h1, h2 => simp at h1 h2; subst h1 h2; exact .d _
 | i + 2, h1, _ => simp at h1
theorem po_giveS2 {f : FuncId} {a e : D} {nm sz N : Nat} {t : Bool} {es : List (List D)} {v : AV} {M : AHeap} {n : Nat} {H : AHeap} {nx : Nat} {k : AV → AHeap → Nat → Prop} (h : PO Pr G f [.agg [a, .sl es t], e] v M n) (hg : H.get nm = some (dblk sz es)) (hN : N = es.length)
  (hk : k (v.ren (· + nx)) (M.shift nx ++ dels [nm] H) (nx + n)) : CallVC Pr G f [.agg [.d a, .sl nm sz 0 N N t], .d e] H nx k := by
 refine ⟨h.fn, acall_give (HL := [(nm, some (dblk sz es))]) (L := [nm]) (acall_data h.call ?_) rfl (give_get hg) (give_as2 hN)⟩
 rintro v' N' m ⟨rfl, rfl, rfl⟩
 exact hk
def ofS (w : Nat) (gs : List Gt) : List Ps := gs.foldl (fun l g => appG w g l) (zeroS w)
theorem ofS_snoc {w : Nat} {gs : List Gt} {i : Nat} (h : i < gs.length) : ofS w (gs.take (i + 1)) = appG w gs[i] (ofS w (gs.take i)) := by
 unfold ofS; rw [take_snoc h, List.foldl_append]; rfl
theorem zeroS_len (w : Nat) : (zeroS w).length = w := by simp [zeroS]
theorem zeroS_vl (w : Nat) : ∀ q, q ∈ zeroS w → Vl w q := fun q hq => by
 obtain ⟨i, hi, rfl⟩ := List.mem_map.1 hq
 exact ⟨0, 2 ^ i, 0, rfl, Nat.two_pow_pos w, Nat.pow_lt_pow_right (by decide) (List.mem_range.1 hi), by decide⟩
theorem ofS_len (w : Nat) : ∀ (gs : List Gt) (l : List Ps), (gs.foldl (fun l g => appG w g l) l).length = l.length
 | [], _ => rfl
 | g :: gs, l => by rw [List.foldl_cons, ofS_len w gs, appG_len]
theorem ofS_vl {w : Nat} (hw : w ≤ 12) {bits : Int} : ∀ (gs : List Gt) (l : List Ps), (∀ g, g ∈ gs → gchk g w bits = 0 ∧ kindB g.k = true) → (∀ q, q ∈ l → Vl w q) → ∀ q, q ∈ gs.foldl (fun l g => appG w g l) l → Vl w q
 | [], _, _, hv => hv
 | g :: gs, l, hg, hv => ofS_vl hw gs (appG w g l) (fun x hx => hg x (List.mem_cons_of_mem _ hx)) (appG_vl hw (hg g (by simp)).1 (hg g (by simp)).2 hv)
end Go.Tz
namespace Go.Tz
open Go Go.AL Go.Proofs Go.Ma
variable {G : Nat → Option (List D)}
theorem gchk_bits {k b i : Int} {ws : List Int} {u : Bool} {w bits : Int} (hk : kindB k = true) (h : gchk ⟨k, ws, u, b, i⟩ w bits = 0) : gchk ⟨k, ws, u, b, 0⟩ w 0 = 0 := by
 obtain ⟨h1, h2, h3, h4, h5⟩ := gchk_ok h
 obtain ⟨b1, b2, b3, b4⟩ := bitE_ok h5
 have hk := of_decide_eq_true hk
 simp only at *
 unfold gchk
 simp only
 rw [if_neg h1, if_neg (by simpa using h2), if_neg (by rw [h3]; simp), if_neg (by rw [h4]; simp)]
 exact bitE0 (by simp only; omega) (by simp only; omega)
def ofE (w b : Int) (l : List Gt) : Int := if cchk w b l ≠ 0 then cchk w b l else if l.all cliffB = true then 0 else 7
theorem ofE_ok {w b : Int} {l : List Gt} (h : ofE w b l = 0) : cchk w b l = 0 ∧ l.all cliffB = true := by
 unfold ofE at h
 split at h
 ·contradiction
 ·rename_i h1
  split at h
  ·rename_i h2; exact ⟨by simpa using h1, h2⟩
  ·cases h
theorem gates_ok {w : Nat} {b : Int} {l : List Gt} (h : ofE w b l = 0) : (1 ≤ w ∧ w ≤ 12) ∧ ∀ g, g ∈ l → gchk g w b = 0 ∧ kindB g.k = true := by
 obtain ⟨h1, h2⟩ := ofE_ok h
 obtain ⟨a1, _, _, a4⟩ := cchk_ok h1
 refine ⟨by omega, fun g hg => ⟨a4 g hg, ?_⟩⟩
 have := List.all_eq_true.1 h2 g hg
 unfold cliffB at this
 simp at this
 exact this.2
def tfB : Nat → Bool
 | 0 => false
 | _ + 1 => true
theorem chk49 : chkFn Tryz.f49 = true := by kernel_rfl
theorem of49 {w : Nat} {b : Int} {l : List Gt} (h : ofE w b l = 0) (t : Bool) (hn : l.length ≤ 1000) (hws : ∀ g, g ∈ l → g.ws.length ≤ 1000) : PO Pr GG 49 [circD w b l t] (ownV w w (tfB l.length)) [(0, some (dblk 4 ((ofS w l).map Ps.l)))] 1 := by
 obtain ⟨hw, hgs⟩ := gates_ok h
 obtain ⟨h1, h2⟩ := ofE_ok h
 have c1 := clifford126 (G := GG) w b l t hn hws
 rw [if_pos h1, h2] at c1
 have c3 := zero110p hw
 refine ⟨isFn_of Tryz.func49 chk49, acall_sub (K := fun v H _ => v = .tup [.agg [.d (iD w), .sl 2 4 0 w w (tfB l.length)], .d (iD 0)] ∧ H.get 2 = some (dblk 4 ((ofS w l).map Ps.l))) (fn_walk pok Tryz.func49 chk49 ?_) ?_⟩
 ·conv => whnf
  repeat' first | ((first | refine LookP.mk _ rfl ?_ | refine ShlP.mk _ (by first | (simp only [List.set, over, List.take, List.drop, List.append_eq, List.nil_append, List.cons_append, List.length]; rfl) | rfl) ?_ | refine pc_use c1 ?_ | refine po_use c3 ?_ | refine HpP.force ?_); conv => whnf) | (intro t ht; cases t <;> conv => whnf)
  ·refine for_use pok (fun i => ⟨[(2, .ptr 1 2 0 0), (6, .ptr 3 2 0 0), (25, .d (gatesD l t)), (26, .d (iD (l.map Gt.l).length)), (27, .d (iD i))], [(1, some (.arr 2 [[.d (iD 0), .d (.sl [] true)]])), (2, some (dblk 4 ((ofS w (l.take i)).map Ps.l))), (3, some (.arr 2 [[.d (iD w), .sl 2 4 0 w w (tfB i)]]))], 4⟩) (l.length) (fun _ => True) (trivial) ?_ (by kernel_rfl) ?_ ?_
   ·refine keep_env (by first | exact Nat.zero_le _ | exact Nat.le_of_ble_eq_true rfl) ?_ ?_ trivial
    ·repeat' first | exact trivial | refine ⟨⟨by first | rfl | assumption, rfl⟩, ?_⟩
    ·repeat' first | exact trivial | refine ⟨⟨ltB rfl, _, rfl, by first | rfl | assumption | exact (show some (Blk.ren _ (dblk 4 ((zeroS w).map Ps.l))) = some (dblk 4 ((zeroS w).map Ps.l)) from by rw [ren_dblk]), by first | exact below1 rfl | exact below_dblk _ _ _ | exact below_arr rfl⟩, ?_⟩
   ·intro i A_i h_i I_i N_i
    have e_i : iadd .i64 (i : Int) 1 = ((i + 1 : Nat) : Int) := iadd_nat (by first | omega | (simp at *; omega))
    obtain ⟨g1, g2⟩ := hgs _ (List.getElem_mem h_i)
    have hlen : (ofS w (l.take i)).length = w := by unfold ofS; rw [ofS_len, zeroS_len]
    have hvl : ∀ q, q ∈ ofS w (l.take i) → Vl w q := ofS_vl hw.2 _ _ (fun g hg => hgs g (List.mem_of_mem_take hg)) (zeroS_vl w)
    have hsn := ofS_snoc (w := w) h_i
    have hgl : (l.map Gt.l)[(i : Int).toNat]? = some (l[i]).l := get_g h_i
    generalize l[i] = g at g1 g2 hsn hgl
    obtain ⟨gk, gws, gu, gb, gi⟩ := g
    have ha := applied125 (G := GG) hw (i := gi) (gchk_bits g2 g1) g2 (ofS w (l.take i)) (tfB i) (by omega) hvl
    have e : appG w ⟨gk, gws, gu, gb, 0⟩ (ofS w (l.take i)) = ofS w (l.take (i + 1)) := hsn.symm
    rw [e, hlen] at ha
    generalize ofS w (l.take i) = m at ha hlen ⊢
    have hml : w = (m.map Ps.l).length := by rw [List.length_map, hlen]
    conv => whnf
    repeat (refine LookP.mk _ rfl ?_; conv => whnf)
    intro t ht
    cases t
    ·exfalso; first | (simp at ht; done) | (simp at ht; omega)
    conv => whnf
    repeat' first | ((first | refine LookP.mk _ (by first | rfl | exact hgl) ?_ | refine ShlP.mk _ (by first | (simp only [List.set, over, List.take, List.drop, List.append_eq, List.nil_append, List.cons_append, List.length]; rfl) | rfl) ?_ | refine And.intro (by first | assumption | exact ⟨by kernel_rfl, rfl⟩ | decide | omega) ?_ | refine po_giveS2 ha rfl hml ?_ | refine HpP.force ?_); conv => whnf)
    refine N_i _ ?_ ?_
    ·first | trivial | assumption | omega
    ·first | refine ren_env [(2, 5)] ?_ ?_ ?_ trivial | refine ren_envB [(2, 5)] rfl rfl ?_ ?_ ?_ trivial
     ·repeat' first | exact trivial | refine ⟨⟨by first | rfl | assumption | exact congrArg (fun n => AV.d (iD n)) e_i, rfl⟩, ?_⟩
     ·repeat' first | exact trivial | refine ⟨⟨ltB rfl, _, rfl, by first | rfl | assumption | exact get_ren rfl (by first | rfl | assumption | exact get_ren rfl (show some (Blk.ren _ (dblk 4 _)) = _ from by rw [ren_dblk])) | exact get_ren rfl (show some (Blk.ren _ (dblk 4 _)) = _ from by rw [ren_dblk]), by first | exact below1 rfl | exact below_dblk _ _ _ | exact below_arr rfl⟩, ?_⟩
     ·repeat' first | exact trivial | (refine And.intro ?_ ?_) | (exact fun _ => rfl) | (exact fun h => absurd h (Nat.ne_of_beq_eq_false rfl))
   ·intro A_last I_last
    rw [List.take_length]
    conv => whnf
    repeat (refine LookP.mk _ rfl ?_; conv => whnf)
    intro t ht
    cases t
    rotate_left
    ·exfalso; first | (simp at ht; done) | (simp at ht; omega)
    conv => whnf
    repeat' first | ((first | refine LookP.mk _ rfl ?_ | refine ShlP.mk _ (by first | (simp only [List.set, over, List.take, List.drop, List.append_eq, List.nil_append, List.cons_append, List.length]; rfl) | rfl) ?_ | refine HpP.force ?_); conv => whnf)
    exact fin ⟨rfl, rfl⟩
  all_goals (exfalso; simp at ht; done)
 ·rintro v H n ⟨rfl, h2⟩
  refine ⟨_, _, 1, ?_, rfl, rfl, rfl⟩
  first | refine ren_env [(0, 2)] ?_ ?_ ?_ trivial | refine ren_envB [(0, 2)] rfl rfl ?_ ?_ ?_ trivial
  ·repeat' first | exact trivial | refine ⟨⟨by first | rfl | assumption, rfl⟩, ?_⟩
  ·repeat' first | exact trivial | refine ⟨⟨ltB rfl, _, rfl, by first | rfl | assumption | exact get_ren rfl (by first | rfl | assumption | exact get_ren rfl h2) | exact get_ren rfl h2, by first | exact below1 rfl | exact below_dblk _ _ _ | exact below_arr rfl⟩, ?_⟩
  ·repeat' first | exact trivial | (refine And.intro ?_ ?_) | (exact fun _ => rfl) | (exact fun h => absurd h (Nat.ne_of_beq_eq_false rfl))
end Go.Tz
namespace Go.Tz
open Go Go.AL Go.Proofs Go.Ma
variable {G : Nat → Option (List D)}
def apE (w : Int) (l : List Ps) (g : Gt) : Int := if chkS w l ≠ 0 then chkS w l else if gchk g w 0 ≠ 0 then gchk g w 0 else if kindB g.k = true then 0 else 7
theorem apE_ok {w : Int} {l : List Ps} {g : Gt} (h : apE w l g = 0) : ∃ W : Nat, w = W ∧ SOk W l ∧ gchk g W 0 = 0 ∧ kindB g.k = true := by
 unfold apE at h
 split at h
 ·contradiction
 ·rename_i h1
  obtain ⟨W, rfl, hs⟩ := chk_ok (show chkS w l = 0 by simpa using h1)
  split at h
  ·contradiction
  ·rename_i h2
   split at h
   ·rename_i h3; exact ⟨W, rfl, hs, by simpa using h2, h3⟩
   ·cases h
theorem chk47 : chkFn Tryz.f47 = true := by kernel_rfl
theorem sok_len {w : Nat} {l : List Ps} (h : SOk w l) : l.length ≤ 1000 := by have := h.len; have := h.hi; omega
theorem apply47 {w : Nat} {l : List Ps} {g : Gt} (h : apE w l g = 0) (t : Bool) (hn : g.ws.length ≤ 1000) : PO Pr GG 47 [stD w l t, g.d] (ownV w l.length true) [(0, some (dblk 4 ((appG w g l).map Ps.l)))] 1 := by
 obtain ⟨W, hW, hs, hg, hk⟩ := apE_ok h
 obtain rfl : W = w := by omega
 have hw : 1 ≤ W ∧ W ≤ 12 := ⟨hs.lo, hs.hi⟩
 have hlen := hs.len
 have c1 := check36 W l t (sok_len hs)
 rw [ok_chk hs] at c1
 have h0 : 0 < l.length := by omega
 have c2 := through69 (G := GG) hw g hn (hs.vl _ (List.getElem_mem h0))
 unfold thrD at c2
 rw [if_neg (fun q => q hg), if_pos hk] at c2
 have hgl : (l.map Ps.l)[(0 : Int).toNat]? = some (l[0]).l := get_l h0
 obtain ⟨k, ws, u, b, i⟩ := g
 have c3 := applied125 (G := GG) hw (i := i) (gchk_bits hk hg) hk l t (sok_len hs) hs.vl
 have e : appG W ⟨k, ws, u, b, 0⟩ l = appG W ⟨k, ws, u, b, i⟩ l := rfl
 rw [e] at c3
 generalize appG W ⟨k, ws, u, b, i⟩ l = R at c3 ⊢
 generalize thrG W ⟨k, ws, u, b, i⟩ l[0] = r at c2
 generalize l[0] = q0 at c2 hgl
 generalize hN : l.length = N at c3 ⊢
 refine ⟨isFn_of Tryz.func47 chk47, acall_sub (K := fun v H _ => ∃ m, v = .tup [.agg [.d (iD W), .sl m 4 0 N N true], .d (iD 0)] ∧ H.get m = some (dblk 4 (R.map Ps.l)) ∧ m = 4) (fn_walk pok Tryz.func47 chk47 ?_) ?_⟩
 ·conv => whnf
  repeat' first | ((first | refine LookP.mk _ (by first | rfl | exact hgl) ?_ | refine ShlP.mk _ (by first | (simp only [List.set, over, List.take, List.drop, List.append_eq, List.nil_append, List.cons_append, List.length]; rfl) | rfl) ?_ | refine And.intro (by first | assumption | exact ⟨by kernel_rfl, rfl⟩ | decide | omega) ?_ | refine pc_use c1 ?_ | refine pc_head c2 ?_ | refine po_use c3 ?_ | refine HpP.force ?_); conv => whnf) | (intro t ht; cases t <;> conv => whnf)
  ·refine fin ⟨_, rfl, ?_, rfl⟩
   show some (Blk.ren _ (dblk 4 _)) = _
   rw [ren_dblk]
  all_goals (exfalso; simp at ht; done)
 ·rintro v H n ⟨m, rfl, h2, rfl⟩
  refine ⟨_, _, 1, ?_, rfl, rfl, rfl⟩
  first | refine ren_env [(0, 4)] ?_ ?_ ?_ trivial | refine ren_envB [(0, 4)] rfl rfl ?_ ?_ ?_ trivial
  ·repeat' first | exact trivial | refine ⟨⟨by first | rfl | assumption, rfl⟩, ?_⟩
  ·repeat' first | exact trivial | refine ⟨⟨ltB rfl, _, rfl, by first | rfl | assumption | exact get_ren rfl (by first | rfl | assumption | exact get_ren rfl h2) | exact get_ren rfl h2, by first | exact below1 rfl | exact below_dblk _ _ _ | exact below_arr rfl⟩, ?_⟩
  ·repeat' first | exact trivial | (refine And.intro ?_ ?_) | (exact fun _ => rfl) | (exact fun h => absurd h (Nat.ne_of_beq_eq_false rfl))
end Go.Tz
namespace Go.Tz
open Go Go.AL Go.Proofs Go.Ma
structure As where
 (r : List Ps)
 (bs : List Int)
 (c k : Nat)
 (f : FuncId)
def pA (w : Nat) (wa : List Int) (s : As) (g : Gt) : Ps := zP w (gA g) (wa.getD s.k 0).toNat
def rA (w : Nat) (wa : List Int) (s : As) (g : Gt) : List Ps := if expR w s.r (pA w wa s g) = 1 then s.r else redRows (prjL (pA w wa s g) s.r) (2 * w)
end Go.Tz
namespace Go.Tz
open Go Go.AL Go.Proofs Go.Ma
def findReg (k : Nat) : Code → Option (Array Oper)
 | .region id ops _ => if id = k then some ops else none
 | .seq c d => (findReg k c).orElse fun _ => findReg k d
 | .cond _ c d => (findReg k c).orElse fun _ => findReg k d
 | .block _ c => findReg k c
 | .loop c => findReg k c
 | .scope c => findReg k c
 | _ => none
variable {ks : List (Nat × AV)} {hs : List (Nat × Blk)} {w nm : Nat} {f : FuncId} {A R : List Ps} {n o : Nat} {ug : Bool} {ch x : Int}
end Go.Tz
namespace Go.Tz
open Go Go.AL Go.Proofs Go.Ma
theorem allP_of {α : Type} {f : α → Prop} : ∀ {l : List α}, (∀ a, a ∈ l → f a) → AllP f l
 | [], _ => trivial
 | _ :: _, h => ⟨h _ (by simp), allP_of fun a ha => h a (by simp [ha])⟩
variable {w nm : Nat} {f : FuncId} {A R : List Ps} {n o : Nat} {ug : Bool} {ch x : Int}
end Go.Tz
namespace Go.Tz
open Go Go.AL Go.Proofs Go.Ma
theorem loopvc_mono {G : Nat → Option (List D)} {P : Program} {n b : Nat} {ms : List Nat} {c : Code} {st : St} {k k' : Exit → St → Prop} (h : LoopVC P G n b ms c st k) (hk : ∀ e s, k e s → k' e s) : LoopVC P G n b ms c st k' := by
 refine ⟨fun r => ?_⟩
 intro X C a hR hX
 cases h with
 | mk h =>
  refine wpIn_mono (h r X C a hR hX) ?_
  rintro e a' w' ⟨st', ms', C', rfl, ⟨hm, q⟩, h3, h4⟩
  exact ⟨st', ms', C', rfl, ⟨hm, hk _ _ q⟩, h3, h4⟩
theorem loop_mid {G : Nat → Option (List D)} {P : Program} {n b : Nat} {ms : List Nat} {c : Code} {st : St} {k : Exit → St → Prop} {ρ : Type} (J : ρ → St) (Q : ρ → Prop) (x : Exit) (h : LoopVC P G n b ms c st fun e s => ∃ r, Q r ∧ e = x ∧ Sub G b ms s (J r)) (hk : ∀ r, Q r → k x (J r)) : LoopVC P G n b ms c st k := by
 refine loopvc_sub (loopvc_mono h ?_)
 rintro e s ⟨r, q, rfl, hs⟩
 exact ⟨J r, hs, hk r q⟩
end Go.Tz
namespace Go.Tz
open Go Go.AL Go.Proofs Go.Ma
theorem knownB {b c : Bool} {k : Bool → Prop} (h : b = c) (hk : k c) : ∀ t, b = t → k t := fun t e => by
 have : c = t := h.symm.trans e
 exact this ▸ hk
end Go.Tz
namespace Go.Tz
open Go Go.AL Go.Proofs Go.Ma
theorem asD_pre {H : AHeap} {nm sz len room : Nat} {t : Bool} {l : List (List D)} (hg : H.get nm = some (dblk sz l)) (h1 : len ≤ l.length) : AsD H (.sl nm sz 0 len room t) (.sl (l.take len) (t && decide (room = len))) := by
 have := asD_sl_map (lo := 0) (len := len) (room := room) (t := t) hg (by simpa using h1)
 rw [List.drop_zero] at this
 exact this
end Go.Tz
