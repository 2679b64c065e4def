import Derived.Test.YtehjjpbpdfnnfaaGreatDoorM06
import Derived.Shelf.Spec.SlicesInsert
import Derived.Shelf.Spec.SlicesInsertGrow
namespace Go.Tz
open Go Go.AL Go.Proofs Go.Ma
variable {G : Nat → Option (List D)}
def addP (c : Int) (q : Ps) : Ps := ⟨q.w, q.x, q.z, (iadd .i64 q.p c).tmod 4⟩
theorem addP_nf {w : Nat} {q : Ps} (c : Nat) (hc : c ≤ 100) (h : Vl w q) : nf (addP c q) = esh c (nf q) ∧ Vl w (addP c q) := by
 obtain ⟨X, Z, P, rfl, h1, h2, h3⟩ := h
 have e : addP c (mk w X Z P) = mk w X Z ((P + c) % 4) := by
  unfold addP mk
  dsimp only
  rw [iadd_nat (by omega)]
  rfl
 rw [e]
 refine ⟨?_, ⟨X, Z, _, rfl, h1, h2, Nat.mod_lt _ (by decide)⟩⟩
 rw [nf_mk, nf_mk]
 refine e_ext ?_ rfl
 simp only [esh]; omega
theorem min_nf {w : Nat} {q : Ps} (h : Vl w q) : nf (minS q) = esh 2 (nf q) ∧ Vl w (minS q) := addP_nf 2 (by decide) h
theorem tim_nf {w : Nat} (hw : w ≤ 12) {q r : Ps} (hq : Vl w q) (hr : Vl w r) : nf (timS q r) = emul (nf q) (nf r) ∧ Vl w (timS q r) := by
 rw [tim_mul hw hq hr]
 exact ⟨nf_mul hw hq hr, mul_vl hw hq hr⟩
theorem one_nf1 {w n : Nat} (hw : w ≤ 12) (hn : n < w) : nf (oneS w n 1) = eL n true false ∧ Vl w (oneS w n 1) := ⟨nf_letter (l := 1) (by omega) (by decide), one_vl (l := 1) hn hw⟩
theorem one_nf2 {w n : Nat} (hw : w ≤ 12) (hn : n < w) : nf (oneS w n 2) = eL n true true ∧ Vl w (oneS w n 2) := ⟨nf_letter (l := 2) (by omega) (by decide), one_vl (l := 2) hn hw⟩
theorem one_nf3 {w n : Nat} (hw : w ≤ 12) (hn : n < w) : nf (oneS w n 3) = eL n false true ∧ Vl w (oneS w n 3) := ⟨nf_letter (l := 3) (by omega) (by decide), one_vl (l := 3) hn hw⟩
theorem im1_nf {w a k b : Nat} (hw : w ≤ 12) (h1 : 1 ≤ k) (h2 : k ≤ 6) (ha : a < w) : (nf (im1 w a k).1 = gE k a b (eL a true false) ∧ Vl w (im1 w a k).1) ∧ nf (im1 w a k).2 = gE k a b (eL a false true) ∧ Vl w (im1 w a k).2 := by
 have hk : k = 1 ∨ k = 2 ∨ k = 3 ∨ k = 4 ∨ k = 5 ∨ k = 6 := by omega
 obtain ⟨a1, a2⟩ := one_nf1 hw ha
 obtain ⟨b1, b2⟩ := one_nf2 hw ha
 obtain ⟨c1, c2⟩ := one_nf3 hw ha
 obtain ⟨d1, d2⟩ := min_nf a2
 obtain ⟨e1, e2⟩ := min_nf b2
 obtain ⟨f1, f2⟩ := min_nf c2
 have h0 : ∀ x z, esh 0 (eL a x z) = eL a x z := fun x z => esh_4 rfl (eL_lt _ _ _)
 rw [gE_tab1 h1 h2 (by omega), gE_tab1 h1 h2 (by omega)]
 rcases hk with rfl | rfl | rfl | rfl | rfl | rfl
 ·exact ⟨⟨a1.trans (h0 _ _).symm, a2⟩, f1.trans (by rw [c1]; rfl), f2⟩
 ·exact ⟨⟨d1.trans (by rw [a1]; rfl), d2⟩, f1.trans (by rw [c1]; rfl), f2⟩
 ·exact ⟨⟨d1.trans (by rw [a1]; rfl), d2⟩, c1.trans (h0 _ _).symm, c2⟩
 ·exact ⟨⟨c1.trans (h0 _ _).symm, c2⟩, a1.trans (h0 _ _).symm, a2⟩
 ·exact ⟨⟨b1.trans (h0 _ _).symm, b2⟩, c1.trans (h0 _ _).symm, c2⟩
 ·exact ⟨⟨e1.trans (by rw [b1]; rfl), e2⟩, c1.trans (h0 _ _).symm, c2⟩
theorem im2_nf {w a b k : Nat} (hw : w ≤ 12) (h1 : 9 ≤ k) (h2 : k ≤ 11) (ha : a < w) (hb : b < w) (hab : a ≠ b) :
  ((nf (im2 w a b k true).1 = gE k a b (eL a true false) ∧ Vl w (im2 w a b k true).1) ∧ nf (im2 w a b k true).2 = gE k a b (eL a false true) ∧ Vl w (im2 w a b k true).2) ∧
  (nf (im2 w b a k false).1 = gE k a b (eL b true false) ∧ Vl w (im2 w b a k false).1) ∧ nf (im2 w b a k false).2 = gE k a b (eL b false true) ∧ Vl w (im2 w b a k false).2 := by
 have hk : k = 9 ∨ k = 10 ∨ k = 11 := by omega
 obtain ⟨a1, a2⟩ := one_nf1 hw ha
 obtain ⟨c1, c2⟩ := one_nf3 hw ha
 obtain ⟨a1', a2'⟩ := one_nf1 hw hb
 obtain ⟨c1', c2'⟩ := one_nf3 hw hb
 obtain ⟨t1, t2, t3, t4, t5, t6, t7, t8, t9, t10, t11, t12⟩ := gE_tab2 (a := a) (b := b) (by omega) (by omega) hab
 rcases hk with rfl | rfl | rfl
 ·obtain ⟨d1, d2⟩ := tim_nf hw a2 a2'
  obtain ⟨e1, e2⟩ := tim_nf hw c2 c2'
  rw [t1, t2, t3, t4]
  exact ⟨⟨⟨d1.trans (by rw [a1, a1']), d2⟩, c1, c2⟩, ⟨a1', a2'⟩, e1.trans (by rw [c1, c1']), e2⟩
 ·obtain ⟨d1, d2⟩ := tim_nf hw a2 c2'
  obtain ⟨e1, e2⟩ := tim_nf hw a2' c2
  rw [t5, t6, t7, t8]
  exact ⟨⟨⟨d1.trans (by rw [a1, c1']), d2⟩, c1, c2⟩, ⟨e1.trans (by rw [a1', c1]), e2⟩, c1', c2'⟩
 ·rw [t9, t10, t11, t12]
  exact ⟨⟨⟨a1', a2'⟩, c1', c2'⟩, ⟨a1, a2⟩, c1, c2⟩
def wsOf (k a b : Nat) : List Int := if k ≤ 6 then [(a : Int)] else [(a : Int), (b : Int)]
def imgS (w k a b n l : Nat) : Ps := dec w (gE k a b (eL n (decide (l = 1) || decide (l = 2)) (decide (l = 2) || decide (l = 3))))
theorem eL_hi {w n j : Nat} (hw : w ≤ 12) (hn : n < w) (x z : Bool) (hj : (w ≤ j ∧ j < 12) ∨ 12 + w ≤ j) : (eL n x z).2.testBit j = false := by
 simp only [eL, Nat.testBit_xor, tb_cd, Nat.testBit_two_pow]
 rw [decide_eq_false (show ¬ n = j by omega), decide_eq_false (show ¬ 12 + n = j by omega)]; simp
theorem img_vl {w k a b n l : Nat} (hw : w ≤ 12) (h : gR w k a b) (hn : n < w) : Vl w (imgS w k a b n l) :=
 dec_vl hw fun j hj => gL_bits (gR_ok hw h) (w := w) (by unfold gR at h; omega) (by unfold gR at h; omega) hj (eL_hi hw hn _ _ hj)
theorem img_eq {w k a b n l : Nat} (hw : w ≤ 12) (h : gR w k a b) (hn : n < w) {r : Ps} (hr : Vl w r) (e : nf r = gE k a b (eL n (decide (l = 1) || decide (l = 2)) (decide (l = 2) || decide (l = 3)))) : r = imgS w k a b n l :=
 nf_inj hw hr (img_vl hw h hn) (by rw [e]; exact (nf_dec w (gE_lt _ _ _ _)).symm)
theorem img_by {w k a b n : Nat} (hw : w ≤ 12) (h : gR w k a b) (hn : n < w) {px pz : Ps} (hx : nf px = gE k a b (eL n true false) ∧ Vl w px) (hz : nf pz = gE k a b (eL n false true) ∧ Vl w pz) :
  px = imgS w k a b n 1 ∧ pz = imgS w k a b n 3 ∧ addP 1 (timS px pz) = imgS w k a b n 2 := by
 refine ⟨img_eq hw h hn hx.2 hx.1, img_eq hw h hn hz.2 hz.1, ?_⟩
 obtain ⟨t1, t2⟩ := tim_nf hw hx.2 hz.2
 obtain ⟨s1, s2⟩ := addP_nf 1 (by decide) t2
 refine img_eq hw h hn s2 (s1.trans ?_)
 rw [t1, hx.1, hz.1, ← gE_mul (gR_ok hw h), ← gE_esh]
 have := eL_mul (n := n) (by omega) true true
 show gE k a b _ = gE k a b (eL n true true)
 rw [this]; rfl
theorem img_out {w k a b n l : Nat} (hw : w ≤ 12) (h : gR w k a b) (hn : n < w) (hl : l ≤ 3) (hna : n ≠ a) (hnb : 9 ≤ k → n ≠ b) : oneS w n l = imgS w k a b n l := by
 refine img_eq hw h hn (one_vl hn hw) ?_
 rw [nf_letter (by omega) hl, gE_other (gR_ok hw h) (by omega) hna hnb]
theorem chk213 : chkFn Tryz.f213 = true := by kernel_rfl
theorem tim142s (q r : Ps) (hw : 0 ≤ q.w ∧ q.w ≤ 24) : PC Pr G 142 [q.d, rowsD [r] true] (timS q r).d := tim142 q [r] true hw (by simp)
theorem does213w {w n l : Nat} {q : Ps} {K : Int} {ws : List Int} {u : Bool} {b i : Int} {j : Int} {px pz : Ps} (hw : 1 ≤ w ∧ w ≤ 12) (hq : q.w = w) (hl : l = 1 ∨ l = 2 ∨ l = 3) (hws : ws.length ≤ 1000) (hj : idxI (fun k => decide ((n : Int) = k) ) ws = j) (hj0 : 0 ≤ j) (hpx : Vl w px)
  (hi : PC Pr G 214 [iD w, (Gt.mk K ws u b i).d, iD j] (.tup [px.d, pz.d])) : PC Pr G 213 [iD n, iD l, .rop (Gt.mk K ws u b i).l 0, .rop q.l 0] (if l = 1 then px else if l = 3 then pz else addP 1 (timS px pz)).d := by
 obtain ⟨qw, qx, qz, qp⟩ := q
 obtain rfl : qw = w := hq
 have h99 := idx99 (G := G) ws u (n : Int) (by omega)
 rw [hj] at h99
 have htm := tim142s (G := G) px pz (by rw [vl_w hpx]; omega)
 generalize timS px pz = m at htm ⊢
 rcases hl with rfl | rfl | rfl
 all_goals
  refine pc_walk pok Tryz.func213 chk213 ?_
  conv => whnf
  repeat' first | ((first | refine LookP.mk _ rfl ?_ | refine ShlP.mk _ (by first | (simp only [List.set, over, List.take, List.drop, List.append_eq, List.nil_append, List.cons_append, List.length]; rfl) | rfl) ?_ | refine And.intro (by first | assumption | exact ⟨by kernel_rfl, rfl⟩ | decide | omega) ?_ | refine beqT1 ?_ | refine beqF1 rfl ?_ | refine pc_use h99 ?_ | refine pc_use hi ?_ | refine pc_givec (htm) rfl ?_ | refine HpP.force ?_); conv => whnf) | (intro t ht; cases t <;> conv => whnf)
  all_goals first | exact fin rfl | (exfalso; simp at ht; omega) | skip
end Go.Tz
namespace Go.Tz
open Go Go.AL Go.Proofs Go.Ma
variable {G : Nat → Option (List D)}
theorem does213o {w n l : Nat} {q : Ps} {K : Int} {ws : List Int} {u : Bool} {b i : Int} (hq : q.w = w) (hws : ws.length ≤ 1000) (hj : idxI (fun k => decide ((n : Int) = k)) ws = -1) :
  PC Pr G 213 [iD n, iD l, .rop (Gt.mk K ws u b i).l 0, .rop q.l 0] (oneS w n l).d := by
 obtain ⟨qw, qx, qz, qp⟩ := q
 obtain rfl : qw = w := hq
 have h99 := idx99 (G := G) ws u (n : Int) (by omega)
 rw [hj] at h99
 have h1 := one212 (G := G) w n l (Int.natCast_nonneg _)
 generalize oneS w n l = m at h1 ⊢
 refine pc_walk pok Tryz.func213 chk213 ?_
 conv => whnf
 repeat' first | ((first | refine LookP.mk _ rfl ?_ | refine ShlP.mk _ (by first | (simp only [List.set, over, List.take, List.drop, List.append_eq, List.nil_append, List.cons_append, List.length]; rfl) | rfl) ?_ | refine pc_use h99 ?_ | refine pc_use h1 ?_ | refine HpP.force ?_); conv => whnf) | (intro t ht; cases t <;> conv => whnf)
 all_goals first | exact fin rfl | (exfalso; simp at ht; done)
theorem idx_one (n a : Nat) : idxI (fun k => decide ((n : Int) = k)) [(a : Int)] = if n = a then 0 else -1 := by
 unfold idxI
 by_cases h : n = a
 ·simp [h]
 ·have : ¬ (n : Int) = a := by omega
  simp [h, this]
theorem idx_two (n a b : Nat) : idxI (fun k => decide ((n : Int) = k)) [(a : Int), (b : Int)] = if n = a then 0 else if n = b then 1 else -1 := by
 unfold idxI
 by_cases h : n = a
 ·simp [h, List.findIdx?_cons]
 ·have : ¬ (n : Int) = a := by omega
  by_cases h2 : n = b
  ·simp [h2, List.findIdx?_cons] at h this ⊢
   simp [h, this]
  ·have h3 : ¬ (n : Int) = b := by omega
   simp [h, h2, this, h3, List.findIdx?_cons]
theorem does213 {w k a b n l : Nat} {q : Ps} {K : Int} (hK : K = k) {u : Bool} {bb i : Int} (hw : 1 ≤ w ∧ w ≤ 12) (hg : gR w k a b) (hq : q.w = w) (hn : n < w) (hl : l = 1 ∨ l = 2 ∨ l = 3) :
  PC Pr G 213 [iD n, iD l, .rop (Gt.mk K (wsOf k a b) u bb i).l 0, .rop q.l 0] (imgS w k a b n l).d := by
 have key : ∀ {px pz : Ps} {ws : List Int} {j : Int}, ws.length ≤ 1000 → idxI (fun k => decide ((n : Int) = k)) ws = j → 0 ≤ j → (nf px = gE k a b (eL n true false) ∧ Vl w px) → (nf pz = gE k a b (eL n false true) ∧ Vl w pz) →
   PC Pr G 214 [iD w, (Gt.mk K ws u bb i).d, iD j] (.tup [px.d, pz.d]) → PC Pr G 213 [iD n, iD l, .rop (Gt.mk K ws u bb i).l 0, .rop q.l 0] (imgS w k a b n l).d := by
  intro px pz ws j h1 h2 h3 h4 h5 h6
  have h := does213w (u := u) (b := bb) (i := i) hw hq hl h1 h2 h3 h4.2 h6
  obtain ⟨e1, e2, e3⟩ := img_by hw.2 hg hn h4 h5
  rcases hl with rfl | rfl | rfl
  ·rw [if_pos rfl, e1] at h; exact h
  ·rw [if_neg (by decide), if_neg (by decide), e3] at h; exact h
  ·rw [if_neg (by decide), if_pos rfl, e2] at h; exact h
 have out : ∀ {ws : List Int}, ws.length ≤ 1000 → idxI (fun k => decide ((n : Int) = k)) ws = -1 → n ≠ a → (9 ≤ k → n ≠ b) → PC Pr G 213 [iD n, iD l, .rop (Gt.mk K ws u bb i).l 0, .rop q.l 0] (imgS w k a b n l).d := by
  intro ws h1 h2 h3 h4
  have h := does213o (G := G) (w := w) (n := n) (l := l) (K := K) (u := u) (b := bb) (i := i) hq h1 h2
  rw [img_out hw.2 hg hn (by omega) h3 h4] at h
  exact h
 rcases hg with ⟨k1, k2, ha⟩ | ⟨k1, k2, ha, hb, hab⟩
 ·have e : wsOf k a b = [(a : Int)] := if_pos k2
  rw [e]
  by_cases h : n = a
  ·subst h
   obtain ⟨i1, i2⟩ := im1_nf (b := b) hw.2 k1 k2 ha
   exact key (by simp) (by rw [idx_one, if_pos rfl]) (Int.le_refl _) i1 i2 (images1 hK k1 k2 u bb i)
  ·exact out (by simp) (by rw [idx_one, if_neg h]) h (by omega)
 ·have e : wsOf k a b = [(a : Int), (b : Int)] := if_neg (by omega)
  rw [e]
  obtain ⟨⟨i1, i2⟩, i3, i4⟩ := im2_nf hw.2 k1 k2 ha hb hab
  by_cases h : n = a
  ·subst h
   exact key (by simp) (by rw [idx_two, if_pos rfl]) (Int.le_refl _) i1 i2 (images2 hw hK k1 k2 true u bb i)
  ·by_cases h2 : n = b
   ·subst h2
    exact key (j := 1) (by simp) (by rw [idx_two, if_neg h, if_pos rfl]) (by decide) i3 i4 (images2 hw hK k1 k2 false u bb i)
   ·exact out (by simp) (by rw [idx_two, if_neg h, if_neg h2]) h fun _ => h2
end Go.Tz
namespace Go.Tz
open Go Go.AL Go.Proofs Go.Ma
variable {G : Nat → Option (List D)}
def outS (w k a b X Z P n : Nat) : Ps := dec w (gE k a b (nf (ptS w X Z P n)))
theorem pt_vl {w X Z P n : Nat} (hX : X < 2 ^ w) (hZ : Z < 2 ^ w) (hP : P < 4) : Vl w (ptS w X Z P n) :=
 ⟨_, _, _, rfl, Nat.lt_of_le_of_lt (Nat.mod_le _ _) hX, Nat.lt_of_le_of_lt (Nat.mod_le _ _) hZ, hP⟩
theorem out_vl {w k a b X Z P n : Nat} (hw : w ≤ 12) (h : gR w k a b) (hX : X < 2 ^ w) (hZ : Z < 2 ^ w) (hP : P < 4) : Vl w (outS w k a b X Z P n) := thr_vl hw h (pt_vl hX hZ hP)
theorem nf_out (w k a b X Z P n : Nat) : nf (outS w k a b X Z P n) = gE k a b (nf (ptS w X Z P n)) := nf_dec w (gE_lt _ _ _ _)
theorem out_0 {w k a b X Z P : Nat} (hw : w ≤ 12) (h : gR w k a b) (hX : X < 2 ^ w) (hZ : Z < 2 ^ w) (hP : P < 4) : (⟨w, 0, 0, P⟩ : Ps) = outS w k a b X Z P 0 := by
 have e : (⟨w, 0, 0, P⟩ : Ps) = ptS w X Z P 0 := by
  unfold ptS mk
  rw [Nat.pow_zero, Nat.mod_one, Nat.mod_one]; rfl
 rw [e]
 exact nf_inj hw (pt_vl hX hZ hP) (out_vl hw h hX hZ hP) (by rw [nf_out]; exact pt_0 (gR_ok hw h))
theorem out_end {w k a b X Z P : Nat} (hX : X < 2 ^ w) (hZ : Z < 2 ^ w) : outS w k a b X Z P w = thrS w k a b (mk w X Z P) := by
 unfold outS thrS
 rw [pt_all hX hZ]
theorem out_skip {w k a b X Z P n : Nat} (hw : w ≤ 12) (h : gR w k a b) (hn : n < w) (hx : X.testBit n = false) (hz : Z.testBit n = false) : outS w k a b X Z P (n + 1) = outS w k a b X Z P n := by
 unfold outS
 rw [pt_skip (gR_ok hw h) (by omega) hx hz rfl]
theorem out_step {w k a b X Z P n l : Nat} (hw : w ≤ 12) (h : gR w k a b) (hn : n < w) (hX : X < 2 ^ w) (hZ : Z < 2 ^ w) (hP : P < 4) (hx : X.testBit n = (decide (l = 1) || decide (l = 2))) (hz : Z.testBit n = (decide (l = 2) || decide (l = 3))) :
  timS (outS w k a b X Z P n) (imgS w k a b n l) = outS w k a b X Z P (n + 1) := by
 obtain ⟨t1, t2⟩ := tim_nf hw (out_vl (n := n) hw h hX hZ hP) (img_vl (l := l) hw h hn)
 refine nf_inj hw t2 (out_vl hw h hX hZ hP) (t1.trans ?_)
 rw [nf_out, nf_out]
 have e : nf (imgS w k a b n l) = gE k a b (eL n (X.testBit n) (Z.testBit n)) := by rw [hx, hz]; exact nf_dec w (gE_lt _ _ _ _)
 rw [e]
 exact pt_step (gR_ok hw h) (by omega) rfl
theorem chk145 : chkFn Tryz.f145 = true := by kernel_rfl
theorem chk215 : chkFn Tryz.f215 = true := by kernel_rfl
theorem chk259 : chkFn Tryz.f259 = true := by kernel_rfl
theorem through145 {w k a b : Nat} {q : Ps} {K : Int} (hK : K = k) {u : Bool} {bb i : Int} (hw : 1 ≤ w ∧ w ≤ 12) (hg : gR w k a b) (hq : Vl w q) : PC Pr G 145 [q.d, (Gt.mk K (wsOf k a b) u bb i).d] (thrS w k a b q).d := by
 obtain ⟨X, Z, P, rfl, hX, hZ, hP⟩ := hq
 have hpw : (2 : Nat) ^ w ≤ 2 ^ 12 := Nat.pow_le_pow_right (by decide) hw.2
 rw [← out_end hX hZ]
 have hd : ∀ n l : Nat, n < w → (l = 1 ∨ l = 2 ∨ l = 3) → PC Pr G 213 [iD n, iD l, .rop (Gt.mk K (wsOf k a b) u bb i).l 0, .rop (mk w X Z P).l 0] (imgS w k a b n l).d := fun n l hn hl => does213 hK hw hg rfl hn hl
 have hL : ∀ n : Nat, n < w → letterI (X : Int) (Z : Int) n = if X.testBit n && Z.testBit n then 2 else if X.testBit n then 1 else if Z.testBit n then 3 else 0 := fun n hn => letter_nat (by omega) (by omega) (by omega)
 have hlt : ∀ (n : Nat) (d : D), PC Pr G 157 [.agg [iD w, iD X, iD Z, iD P, d], iD n] (iD (letterI X Z n)) := fun n d => letter157 (mk w X Z P) d n (Int.natCast_nonneg _)
 have h0 := out_0 hw.2 hg hX hZ hP
 have hO := fun n => out_vl (n := n) hw.2 hg hX hZ hP
 have hS := fun n (hn : n < w) (l : Nat) (hx : X.testBit n = (decide (l = 1) || decide (l = 2))) (hz : Z.testBit n = (decide (l = 2) || decide (l = 3))) => out_step (l := l) hw.2 hg hn hX hZ hP hx hz
 have hK0 := fun n (hn : n < w) (hx : X.testBit n = false) (hz : Z.testBit n = false) => out_skip (P := P) hw.2 hg hn hx hz
 generalize wsOf k a b = ws at hd ⊢
 generalize outS w k a b X Z P = out at h0 hO hS hK0 ⊢
 generalize imgS w k a b = img at hd hS
 refine pc_walk pok Tryz.func145 chk145 ?_
 conv => whnf
 repeat' first | ((first | refine LookP.mk _ rfl ?_ | refine ShlP.mk _ (by first | (simp only [List.set, over, List.take, List.drop, List.append_eq, List.nil_append, List.cons_append, List.length]; rfl) | rfl) ?_ | refine HpP.force ?_); conv => whnf)
 refine call_walk pok Tryz.func215 chk215 ?_
 conv => whnf
 skip
 refine call_walk pok Tryz.func259 chk259 ?_
 conv => whnf
 repeat' first | (refine LookP.mk _ rfl ?_; conv => whnf)
 refine for_use pok (fun n => ⟨[(0, .yld 7), (1, .ptr 5 5 0 0), (6, .d (iD w)), (7, .d (iD n))], [(0, some (.arr 4 [[.d (iD w), .d (iD X), .d (iD Z), .d (iD P)]])), (1, some (.arr 4 [[.d (iD K), .d (intsD ws u), .d (iD bb), .d (iD i)]])), (2, some (.arr 4 [[.d (iD 0), .d (iD 0), .d (iD 0), .d (iD 0)]])), (3, some (.arr 5 [[.d (iD w), .d (iD X), .d (iD Z), .d (iD P), .fn 213 [] [.ptr 1 4 0 0, .ptr 0 4 0 0]]])), (4, some (.arr 4 [(out n).l.map AV.d])), (5, some (.arr 5 [[.d (iD w), .d (iD X), .d (iD Z), .d (iD P), .fn 213 [] [.ptr 1 4 0 0, .ptr 0 4 0 0]]])), (6, some (.raw (.deferred (some [])))), (7, some (.lp [(18, .fn 259 [] [.ptr 5 5 0 0]), (17, .agg [.d (iD w), .d (iD X), .d (iD Z), .d (iD P), .fn 213 [] [.ptr 1 4 0 0, .ptr 0 4 0 0]]), (6, .ptr 4 4 0 0), (16, .d (.agg [iD w, iD 0, iD 0, iD P])), (15, .d (iD P)), (14, .ptr 0 4 0 3), (13, .d (iD w)), (12, .ptr 0 4 0 0), (11, .ptr 3 5 0 4), (10, .fn 213 [] [.ptr 1 4 0 0, .ptr 0 4 0 0]), (5, .ptr 3 5 0 0), (9, .d (.agg [iD w, iD X, iD Z, iD P, .nilf])), (8, .d (.agg [iD w, iD X, iD Z, iD P])), (4, .ptr 2 4 0 0), (3, .ptr 1 4 0 0), (2, .ptr 0 4 0 0), (0, .d (.agg [iD w, iD X, iD Z, iD P])), (1, .d (.agg [iD K, intsD ws u, iD bb, iD i]))] Tryz.f145.ntmps #[19] (rgA Tryz.f145) (rgB Tryz.f145) .ready none 6))], 8⟩) (w) (fun _ => True) (trivial) ?_ (by kernel_rfl) ?_ ?_
 ·refine keep_env (by first | exact Nat.zero_le _ | exact Nat.le_of_ble_eq_true rfl) ?_ ?_ trivial
  ·repeat' first | exact trivial | refine ⟨⟨by first | rfl | assumption, rfl⟩, ?_⟩
  ·repeat' first | exact trivial | refine ⟨⟨ltB rfl, _, rfl, by first | rfl | assumption | (rw [← h0]; rfl), by first | exact below1 rfl | exact below_dblk _ _ _ | exact below_arr rfl | exact trivial | exact ⟨rfl, Nat.le_of_ble_eq_true rfl⟩⟩, ?_⟩
 ·intro n A_n h_n I_n N_n
  have e_n : iadd .i64 (n : Int) 1 = ((n + 1 : Nat) : Int) := iadd_nat (by first | omega | (simp at *; omega))
  have hB : chkCode Tryz.f145.ntmps (rgB Tryz.f145) = true := by kernel_rfl
  have hOn := hO n
  have hOw := vl_w hOn
  have hl := hlt n
  have hLn := hL n h_n
  have hSn := hS n h_n
  have hKn := hK0 n h_n
  rw [hLn] at hl
  cases hx : X.testBit n <;> cases hz : Z.testBit n
  ·have hl : ∀ d, PC Pr G 157 [.agg [iD w, iD X, iD Z, iD P, d], iD n] (iD 0) := fun d => by have := hl d; rw [hx, hz] at this; exact this
   have hnx := hKn hx hz
   conv => whnf
   repeat (refine LookP.mk _ rfl ?_; conv => whnf)
   intro t ht
   cases t
   ·exfalso; first | (simp at ht; done) | (simp at ht; omega)
   conv => whnf
   repeat' first | ((first | refine LookP.mk _ rfl ?_ | refine pc_lendc (hl (.fn 213 [] [.rop [iD K, intsD ws u, iD bb, iD i] 0, .rop [iD w, iD X, iD Z, iD P] 0])) rfl rfl ?_); conv => whnf) | (intro t ht; cases t <;> conv => whnf)
   ·refine N_n _ ?_ ?_
    ·first | trivial | assumption | omega
    ·refine keep_env (by first | exact Nat.zero_le _ | exact Nat.le_of_ble_eq_true rfl) ?_ ?_ trivial
     ·repeat' first | exact trivial | refine ⟨⟨by first | rfl | assumption | exact congrArg (fun n => AV.d (iD n)) e_n, rfl⟩, ?_⟩
     ·repeat' first | exact trivial | refine ⟨⟨ltB rfl, _, rfl, by first | rfl | assumption | (rw [hnx]; rfl), by first | exact below1 rfl | exact below_dblk _ _ _ | exact below_arr rfl | exact trivial | exact ⟨rfl, Nat.le_of_ble_eq_true rfl⟩⟩, ?_⟩
   ·exfalso; simp at ht
  ·have hl : ∀ d, PC Pr G 157 [.agg [iD w, iD X, iD Z, iD P, d], iD n] (iD 3) := fun d => by have := hl d; rw [hx, hz] at this; exact this
   have hdn := hd n 3 h_n (by decide)
   have ht2 := tim142s (G := G) (out n) (img n 3) (by rw [hOw]; omega)
   have hnx := hSn 3 hx hz
   rw [hnx] at ht2
   generalize img n 3 = d at hdn ht2
   generalize hon : out n = o at hOn hOw hnx ht2 ⊢
   obtain ⟨ow, ox, oz, op⟩ := o
   obtain rfl : ow = w := hOw
   conv => whnf
   repeat (refine LookP.mk _ rfl ?_; conv => whnf)
   intro t ht
   cases t
   ·exfalso; first | (simp at ht; done) | (simp at ht; omega)
   conv => whnf
   repeat' first | ((first | refine LookP.mk _ rfl ?_ | refine pc_lendc (hl (.fn 213 [] [.rop [iD K, intsD ws u, iD bb, iD i] 0, .rop [iD w, iD X, iD Z, iD P] 0])) rfl rfl ?_); conv => whnf) | (intro t ht; cases t <;> conv => whnf)
   all_goals first | (exfalso; simp at ht; done) | skip
   refine round_walk pok ?_
   conv => whnf
   repeat' first | ((first | refine LookP.mk _ rfl ?_ | refine ShlP.mk _ (by first | (simp only [List.set, over, List.take, List.drop, List.append_eq, List.nil_append, List.cons_append, List.length]; rfl) | rfl) ?_ | rw [hB] | refine pc_head (hl _) ?_ | refine pc_head hdn ?_ | refine pc_head ht2 ?_ | refine HpP.force ?_); conv => whnf)
   refine N_n _ ?_ ?_
   ·first | trivial | assumption | omega
   ·refine keep_env (by first | exact Nat.zero_le _ | exact Nat.le_of_ble_eq_true rfl) ?_ ?_ trivial
    ·repeat' first | exact trivial | refine ⟨⟨by first | rfl | assumption | exact congrArg (fun n => AV.d (iD n)) e_n, rfl⟩, ?_⟩
    ·repeat' first | exact trivial | refine ⟨⟨ltB rfl, _, rfl, by first | rfl | assumption, by first | exact below1 rfl | exact below_dblk _ _ _ | exact below_arr rfl | exact trivial | exact ⟨rfl, Nat.le_of_ble_eq_true rfl⟩⟩, ?_⟩
  ·have hl : ∀ d, PC Pr G 157 [.agg [iD w, iD X, iD Z, iD P, d], iD n] (iD 1) := fun d => by have := hl d; rw [hx, hz] at this; exact this
   have hdn := hd n 1 h_n (by decide)
   have ht2 := tim142s (G := G) (out n) (img n 1) (by rw [hOw]; omega)
   have hnx := hSn 1 hx hz
   rw [hnx] at ht2
   generalize img n 1 = d at hdn ht2
   generalize hon : out n = o at hOn hOw hnx ht2 ⊢
   obtain ⟨ow, ox, oz, op⟩ := o
   obtain rfl : ow = w := hOw
   conv => whnf
   repeat (refine LookP.mk _ rfl ?_; conv => whnf)
   intro t ht
   cases t
   ·exfalso; first | (simp at ht; done) | (simp at ht; omega)
   conv => whnf
   repeat' first | ((first | refine LookP.mk _ rfl ?_ | refine pc_lendc (hl (.fn 213 [] [.rop [iD K, intsD ws u, iD bb, iD i] 0, .rop [iD w, iD X, iD Z, iD P] 0])) rfl rfl ?_); conv => whnf) | (intro t ht; cases t <;> conv => whnf)
   all_goals first | (exfalso; simp at ht; done) | skip
   refine round_walk pok ?_
   conv => whnf
   repeat' first | ((first | refine LookP.mk _ rfl ?_ | refine ShlP.mk _ (by first | (simp only [List.set, over, List.take, List.drop, List.append_eq, List.nil_append, List.cons_append, List.length]; rfl) | rfl) ?_ | rw [hB] | refine pc_head (hl _) ?_ | refine pc_head hdn ?_ | refine pc_head ht2 ?_ | refine HpP.force ?_); conv => whnf)
   refine N_n _ ?_ ?_
   ·first | trivial | assumption | omega
   ·refine keep_env (by first | exact Nat.zero_le _ | exact Nat.le_of_ble_eq_true rfl) ?_ ?_ trivial
    ·repeat' first | exact trivial | refine ⟨⟨by first | rfl | assumption | exact congrArg (fun n => AV.d (iD n)) e_n, rfl⟩, ?_⟩
    ·repeat' first | exact trivial | refine ⟨⟨ltB rfl, _, rfl, by first | rfl | assumption, by first | exact below1 rfl | exact below_dblk _ _ _ | exact below_arr rfl | exact trivial | exact ⟨rfl, Nat.le_of_ble_eq_true rfl⟩⟩, ?_⟩
  ·have hl : ∀ d, PC Pr G 157 [.agg [iD w, iD X, iD Z, iD P, d], iD n] (iD 2) := fun d => by have := hl d; rw [hx, hz] at this; exact this
   have hdn := hd n 2 h_n (by decide)
   have ht2 := tim142s (G := G) (out n) (img n 2) (by rw [hOw]; omega)
   have hnx := hSn 2 hx hz
   rw [hnx] at ht2
   generalize img n 2 = d at hdn ht2
   generalize hon : out n = o at hOn hOw hnx ht2 ⊢
   obtain ⟨ow, ox, oz, op⟩ := o
   obtain rfl : ow = w := hOw
   conv => whnf
   repeat (refine LookP.mk _ rfl ?_; conv => whnf)
   intro t ht
   cases t
   ·exfalso; first | (simp at ht; done) | (simp at ht; omega)
   conv => whnf
   repeat' first | ((first | refine LookP.mk _ rfl ?_ | refine pc_lendc (hl (.fn 213 [] [.rop [iD K, intsD ws u, iD bb, iD i] 0, .rop [iD w, iD X, iD Z, iD P] 0])) rfl rfl ?_); conv => whnf) | (intro t ht; cases t <;> conv => whnf)
   all_goals first | (exfalso; simp at ht; done) | skip
   refine round_walk pok ?_
   conv => whnf
   repeat' first | ((first | refine LookP.mk _ rfl ?_ | refine ShlP.mk _ (by first | (simp only [List.set, over, List.take, List.drop, List.append_eq, List.nil_append, List.cons_append, List.length]; rfl) | rfl) ?_ | rw [hB] | refine pc_head (hl _) ?_ | refine pc_head hdn ?_ | refine pc_head ht2 ?_ | refine HpP.force ?_); conv => whnf)
   refine N_n _ ?_ ?_
   ·first | trivial | assumption | omega
   ·refine keep_env (by first | exact Nat.zero_le _ | exact Nat.le_of_ble_eq_true rfl) ?_ ?_ trivial
    ·repeat' first | exact trivial | refine ⟨⟨by first | rfl | assumption | exact congrArg (fun n => AV.d (iD n)) e_n, rfl⟩, ?_⟩
    ·repeat' first | exact trivial | refine ⟨⟨ltB rfl, _, rfl, by first | rfl | assumption, by first | exact below1 rfl | exact below_dblk _ _ _ | exact below_arr rfl | exact trivial | exact ⟨rfl, Nat.le_of_ble_eq_true rfl⟩⟩, ?_⟩
 ·intro A_last I_last
  have hoe := vl_w (hO w)
  generalize out w = o at hoe ⊢
  conv => whnf
  repeat (refine LookP.mk _ rfl ?_; conv => whnf)
  intro t ht
  cases t
  rotate_left
  ·exfalso; first | (simp at ht; done) | (simp at ht; omega)
  conv => whnf
  repeat' first | ((first | refine LookP.mk _ rfl ?_ | refine ShlP.mk _ (by first | (simp only [List.set, over, List.take, List.drop, List.append_eq, List.nil_append, List.cons_append, List.length]; rfl) | rfl) ?_ | refine HpP.force ?_); conv => whnf)
  exact fin rfl
end Go.Tz
namespace Go.Tz
open Go Go.AL Go.Proofs Go.Ma
variable {G : Nat → Option (List D)}
theorem asD_own {H : AHeap} {nm sz N : Nat} {t : Bool} {es : List (List D)} (hg : H.get nm = some (dblk sz es)) (hN : N = es.length) : AsD H (.sl nm sz 0 N N t) (.sl es t) := by
 subst hN
 have := asD_sl_map (H := H) (lo := 0) (len := es.length) (room := es.length) (t := t) hg (by simp)
 simpa using this
theorem give_get {nm sz : Nat} {es : List (List D)} {H : AHeap} (hg : H.get nm = some (dblk sz es)) : ∀ m b, AHeap.get [(nm, some (dblk sz es))] m = some b → m ∈ [nm] ∧ H.get m = some b := fun m b h => by
 by_cases em : m = nm
 ·subst em; rw [get_cons_same] at h; exact ⟨by simp, by rw [hg, ← h]⟩
 ·rw [get_cons_ne _ _ em] at h; cases h
theorem give_as {a : D} {nm sz N : Nat} {t : Bool} {es : List (List D)} (hN : N = es.length) : ∀ (i : Nat) (v : AV) (d : D), [AV.agg [.d a, .sl nm sz 0 N N t]][i]? = some v → [D.agg [a, .sl es t]][i]? = some d → AsD [(nm, some (dblk sz es))] v d := fun i v d h1 h2 => by
 match i, h1, h2 with
 | 0, h1, h2 =>
  simp at h1 h2; subst h1 h2
  exact asD_agg2 (.d _) (asD_own (get_cons_same nm _ []) hN)
 | i + 1, h1, _ => simp at h1
theorem pc_giveS {f : FuncId} {a : D} {nm sz N : Nat} {t : Bool} {es : List (List D)} {d : D} {H : AHeap} {nx : Nat} {k : AV → AHeap → Nat → Prop} (h : PC Pr G f [.agg [a, .sl es t]] d) (hg : H.get nm = some (dblk sz es)) (hN : N = es.length) (hk : k (.d d) (dels [nm] H) nx) :
  CallVC Pr G f [.agg [.d a, .sl nm sz 0 N N t]] H nx k :=
 pc_give (L := [nm]) (HL := [(nm, some (dblk sz es))]) h rfl (give_get hg) (give_as hN) hk
theorem po_giveS {f : FuncId} {a : D} {nm sz N : Nat} {t : Bool} {es : List (List D)} {v : AV} {M : AHeap} {n : Nat} {H : AHeap} {nx : Nat} {k : AV → AHeap → Nat → Prop} (h : PO Pr G f [.agg [a, .sl es t]] v M n) (hg : H.get nm = some (dblk sz es)) (hN : N = es.length)
  (hk : k (v.ren (· + nx)) (M.shift nx ++ dels [nm] H) (nx + n)) : CallVC Pr G f [.agg [.d a, .sl nm sz 0 N N t]] H nx k := by
 refine ⟨h.fn, acall_give (HL := [(nm, some (dblk sz es))]) (L := [nm]) (acall_data h.call ?_) rfl (give_get hg) (give_as hN)⟩
 rintro v' N' m ⟨rfl, rfl, rfl⟩
 exact hk
end Go.Tz
namespace Go.Tz
open Go Go.AL Go.Proofs Go.Ma
variable {G : Nat → Option (List D)}
def kindB (k : Int) : Bool := decide ((1 ≤ k ∧ k ≤ 6) ∨ (9 ≤ k ∧ k ≤ 11))
def cliffB (g : Gt) : Bool := decide (g.i = 0) && kindB g.k
theorem chk144 : chkFn Tryz.f144 = true := by kernel_rfl
theorem cliff144 (g : Gt) : PC Pr G 144 [g.d] (.bool (cliffB g)) := by
 obtain ⟨k, ws, u, b, f⟩ := g
 refine pc_walk pok Tryz.func144 chk144 ?_
 conv => whnf
 repeat' first | (refine LookP.mk _ rfl ?_; conv => whnf) | (intro t ht; cases t <;> conv => whnf)
 all_goals
  refine fin ?_
  refine fiB ?_
  simp at *
  unfold cliffB kindB
  simp
  omega
theorem gchk_ok {g : Gt} {w : Int} {bits : Int} (h : gchk g w bits = 0) : arI g.k ≠ 0 ∧ (g.ws.length : Int) = arI g.k ∧ outB w g.ws = false ∧ dupB g.ws = false ∧ bitE g bits = 0 := by
 unfold gchk at h
 split at h
 ·cases h
 ·split at h
  ·cases h
  ·split at h
   ·cases h
   ·split at h
    ·cases h
    ·rename_i h1 h2 h3 h4
     exact ⟨h1, by omega, by simpa using h3, by simpa using h4, h⟩
theorem bitE_ok {g : Gt} {bits : Int} (h : bitE g bits = 0) : (0 ≤ g.i ∧ g.i ≤ bits) ∧ (g.k = 13 → 0 ≤ g.b ∧ g.b < bits) ∧ ((g.k = 13 ∨ g.k = 14) → g.i = 0) ∧ (g.k ≠ 13 → g.b = 0) := by
 unfold bitE at h
 split at h
 ·cases h
 ·split at h
  ·cases h
  ·rename_i h1 h2
   exact ⟨by omega, by omega, by omega, by omega⟩
def gK (g : Gt) : Nat := g.k.toNat
def gA (g : Gt) : Nat := (g.ws.getD 0 0).toNat
def gB (g : Gt) : Nat := (g.ws.getD 1 0).toNat
theorem len2 {α : Type} : ∀ {l : List α}, l.length = 2 → ∃ a b, l = [a, b]
 | [a, b], _ => ⟨a, b, rfl⟩
theorem gR_of {g : Gt} {w : Nat} {bits : Int} (h : gchk g w bits = 0) (hk : kindB g.k = true) : gR w (gK g) (gA g) (gB g) ∧ g.k = gK g ∧ g.ws = wsOf (gK g) (gA g) (gB g) := by
 obtain ⟨h1, h2, h3, h4, _⟩ := gchk_ok h
 obtain ⟨k, ws, u, b, f⟩ := g
 simp only [gK, gA, gB] at *
 have hk := of_decide_eq_true hk
 have hin : ∀ n, n ∈ ws → 0 ≤ n ∧ n < w := fun n hn => by
  have := List.any_eq_false.1 h3 n hn
  simp at this; omega
 rcases hk with hk | hk
 ·rw [ari1 (by omega)] at h2
  obtain ⟨n, rfl⟩ := List.length_eq_one_iff.1 (show ws.length = 1 by omega)
  have hn := hin n (by simp)
  have e : (k.toNat ≤ 6) := by omega
  refine ⟨.inl ⟨by omega, by omega, ?_⟩, by omega, ?_⟩
  ·simp; omega
  ·unfold wsOf
   rw [if_pos e]
   simp; omega
 ·rw [ari2 (by omega)] at h2
  obtain ⟨n, m, rfl⟩ := len2 (show ws.length = 2 by omega)
  have hn := hin n (by simp)
  have hm := hin m (by simp)
  have hd : n ≠ m := fun q => by
   have := List.any_eq_false.1 h4 1 (List.mem_range.2 (by simp))
   rw [dupAt_lt (by simp)] at this
   simp [q] at this
  have e : ¬ (k.toNat ≤ 6) := by omega
  refine ⟨.inr ⟨by omega, by omega, ?_, ?_, ?_⟩, by omega, ?_⟩
  ·simp; omega
  ·simp; omega
  ·simp; omega
  ·unfold wsOf
   rw [if_neg e]
   simp; omega
def thrG (w : Nat) (g : Gt) (q : Ps) : Ps := thrS w (gK g) (gA g) (gB g) q
theorem through145g {w : Nat} (hw : 1 ≤ w ∧ w ≤ 12) {g : Gt} {bits : Int} (h : gchk g w bits = 0) (hk : kindB g.k = true) {q : Ps} (hq : Vl w q) : PC Pr G 145 [q.d, g.d] (thrG w g q).d := by
 obtain ⟨h1, h2, h3⟩ := gR_of h hk
 have := through145 (G := G) (u := g.u) (bb := g.b) (i := g.i) h2 hw h1 hq
 rw [← h3] at this
 exact this
theorem cchk_one {w : Nat} (hw : 1 ≤ w ∧ w ≤ 12) (g : Gt) : cchk w 0 [g] = gchk g w 0 := by
 by_cases h : gchk g w 0 = 0
 ·rw [h]
  exact cchk0 (by omega) (by simp) (by simpa using h)
 ·exact cchk_at (l := [g]) (i := 0) (by omega) (by simp) (by simp) (by simp) h
theorem chk69 : chkFn Tryz.f69 = true := by kernel_rfl
def thrD (w : Nat) (g : Gt) (q : Ps) : D := if gchk g w 0 ≠ 0 then .tup [Ps.d ⟨0, 0, 0, 0⟩, iD (gchk g w 0)] else if kindB g.k = true then .tup [(thrG w g q).d, iD 0] else .tup [Ps.d ⟨0, 0, 0, 0⟩, iD 7]
theorem through69 {w : Nat} (hw : 1 ≤ w ∧ w ≤ 12) (g : Gt) (hn : g.ws.length ≤ 1000) {q : Ps} (hq : Vl w q) : PC Pr G 69 [q.d, g.d] (thrD w g q) := by
 have h1 := check111 (G := G) q
 rw [pck_vl hw hq] at h1
 have hqw := vl_w hq
 have h2 : ∀ t, PC Pr G 129 [circD q.w 0 [g] t] (iD (gchk g w 0)) := fun t => by
  have := check129 (G := G) w 0 [g] t (by simp) (by simpa using hn)
  rw [cchk_one hw] at this
  rw [hqw]; exact this
 have h3 := cliff144 (G := G) g
 have h4 := fun h k => through145g (G := G) hw (g := g) (bits := 0) h k hq
 have hi0 : gchk g w 0 = 0 → g.i = 0 := fun h => by
  have := (bitE_ok (gchk_ok h).2.2.2.2).1; omega
 unfold thrD
 generalize thrG w g q = r at h4 ⊢
 obtain ⟨k, ws, u, b, f⟩ := g
 by_cases he : gchk ⟨k, ws, u, b, f⟩ w 0 = 0
 ·have hf := hi0 he
  simp only at hf
  subst hf
  rw [if_neg (fun h => h he)]
  rw [he] at h2
  have e3 : cliffB ⟨k, ws, u, b, 0⟩ = kindB k := by unfold cliffB; simp
  rw [e3] at h3
  by_cases hk : kindB k = true
  ·have h5 := h4 he hk
   rw [if_pos hk]
   rw [hk] at h3
   refine pc_walk pok Tryz.func69 chk69 ?_
   conv => whnf
   repeat' first | ((first | refine LookP.mk _ rfl ?_ | refine ShlP.mk _ (by first | (simp only [List.set, over, List.take, List.drop, List.append_eq, List.nil_append, List.cons_append, List.length]; rfl) | rfl) ?_ | refine pc_use h1 ?_ | refine pc_givec (h2 true) rfl ?_ | refine pc_use h3 ?_ | refine pc_use h5 ?_ | refine HpP.force ?_); conv => whnf) | (intro t ht; cases t <;> conv => whnf)
   all_goals first | exact fin rfl | (exfalso; simp at ht; done)
  ·rw [if_neg hk]
   have hk : kindB k = false := by simpa using hk
   rw [hk] at h3
   refine pc_walk pok Tryz.func69 chk69 ?_
   conv => whnf
   repeat' first | ((first | refine LookP.mk _ rfl ?_ | refine ShlP.mk _ (by first | (simp only [List.set, over, List.take, List.drop, List.append_eq, List.nil_append, List.cons_append, List.length]; rfl) | rfl) ?_ | refine pc_use h1 ?_ | refine pc_givec (h2 true) rfl ?_ | refine pc_use h3 ?_ | refine HpP.force ?_); conv => whnf) | (intro t ht; cases t <;> conv => whnf)
   all_goals first | exact fin rfl | (exfalso; simp at ht; done)
 ·rw [if_pos he]
  generalize gchk ⟨k, ws, u, b, f⟩ w 0 = e at h2 he ⊢
  refine pc_walk pok Tryz.func69 chk69 ?_
  conv => whnf
  repeat' first | ((first | refine LookP.mk _ rfl ?_ | refine ShlP.mk _ (by first | (simp only [List.set, over, List.take, List.drop, List.append_eq, List.nil_append, List.cons_append, List.length]; rfl) | rfl) ?_ | refine pc_use h1 ?_ | refine pc_givec (h2 true) rfl ?_ | refine HpP.force ?_); conv => whnf) | (intro t ht; cases t <;> conv => whnf)
  all_goals first | exact fin rfl | (exfalso; simp at ht; first | done | exact he ht)
theorem chk126 : chkFn Tryz.f126 = true := by kernel_rfl
theorem clifford126 (w bits : Int) (l : List Gt) (t : Bool) (hn : l.length ≤ 1000) (hws : ∀ g, g ∈ l → g.ws.length ≤ 1000) : PC Pr G 126 [circD w bits l t] (if cchk w bits l = 0 then .tup [.bool (l.all cliffB), iD 0] else .tup [.bool false, iD (cchk w bits l)]) := by
 have h1 := check129 (G := G) w bits l t hn hws
 have h2 := every206 (G := G) l t 144 [] [] cliffB hn fun g _ => cliff144 g
 generalize (l.all cliffB) = r at h2 ⊢
 generalize cchk w bits l = e at h1 ⊢
 by_cases he : e = 0
 ·subst he
  rw [if_pos rfl]
  refine pc_walk pok Tryz.func126 chk126 ?_
  conv => whnf
  repeat' first | ((first | refine LookP.mk _ rfl ?_ | refine pc_use h1 ?_ | refine pc_use h2 ?_); conv => whnf) | (intro t ht; cases t <;> conv => whnf)
  all_goals first | exact fin rfl | (exfalso; simp at ht; done)
 ·rw [if_neg he]
  refine pc_walk pok Tryz.func126 chk126 ?_
  conv => whnf
  repeat' first | ((first | refine LookP.mk _ rfl ?_ | refine pc_use h1 ?_); conv => whnf) | (intro t ht; cases t <;> conv => whnf)
  all_goals first | exact fin rfl | (exfalso; simp at ht; first | done | exact he ht)
end Go.Tz
namespace Go.Tz
open Go Go.AL Go.Proofs Go.Ma
variable {G : Nat → Option (List D)}
def appG (w : Nat) (g : Gt) (l : List Ps) : List Ps := redRows (l.map (thrG w g)) (2 * w)
theorem thrG_vl {w : Nat} (hw : w ≤ 12) {g : Gt} {bits : Int} (hg : gchk g w bits = 0) (hk : kindB g.k = true) {q : Ps} (hq : Vl w q) : Vl w (thrG w g q) := thr_vl hw (gR_of hg hk).1 hq
theorem thrG_all {w : Nat} (hw : w ≤ 12) {g : Gt} {bits : Int} (hg : gchk g w bits = 0) (hk : kindB g.k = true) {l : List Ps} (hv : ∀ q, q ∈ l → Vl w q) : ∀ q, q ∈ l.map (thrG w g) → Vl w q := fun q hq => by
 obtain ⟨r, hr, rfl⟩ := List.mem_map.1 hq
 exact thrG_vl hw hg hk (hv r hr)
theorem appG_len (w : Nat) (g : Gt) (l : List Ps) : (appG w g l).length = l.length := by simp [appG, redRows_len]
theorem appG_vl {w : Nat} (hw : w ≤ 12) {g : Gt} {bits : Int} (hg : gchk g w bits = 0) (hk : kindB g.k = true) {l : List Ps} (hv : ∀ q, q ∈ l → Vl w q) : ∀ q, q ∈ appG w g l → Vl w q := red_all_vl hw (thrG_all hw hg hk hv) _
theorem appG_sok {w : Nat} {g : Gt} {bits : Int} (hg : gchk g w bits = 0) (hk : kindB g.k = true) {l : List Ps} (h : SOk w l) : SOk w (appG w g l) := app_sok (gR_of hg hk).1 h
theorem chk125 : chkFn Tryz.f125 = true := by kernel_rfl
theorem applied125 {w : Nat} (hw : 1 ≤ w ∧ w ≤ 12) {k b i : Int} {ws : List Int} {u : Bool} (hg : gchk ⟨k, ws, u, b, 0⟩ w 0 = 0) (hk : kindB k = true) (l : List Ps) (t : Bool) (hn : l.length ≤ 1000) (hv : ∀ q, q ∈ l → Vl w q) :
  PO Pr G 125 [stD w l t, (Gt.mk k ws u b i).d] (.agg [.d (iD w), .sl 0 4 0 l.length l.length true]) [(0, some (dblk 4 ((appG w ⟨k, ws, u, b, 0⟩ l).map Ps.l)))] 1 := by
 have hwl : ws.length ≤ 1000 := by
  have h := (gchk_ok hg).2.1
  simp only at h
  have : arI k ≤ 3 := by unfold arI; split <;> (try split) <;> (try split) <;> omega
  omega
 have hgv := thrG_all hw.2 hg hk hv
 have hc := canon105o (G := G) hw (l.map (thrG w ⟨k, ws, u, b, 0⟩)) false (by simpa using hn) hgv
 have ht : ∀ q, Vl w q → PC Pr G 69 [q.d, (Gt.mk k ws u b 0).d] (.tup [(thrG w ⟨k, ws, u, b, 0⟩ q).d, iD 0]) := fun q hq => by
  have := through69 (G := G) hw ⟨k, ws, u, b, 0⟩ hwl hq
  unfold thrD at this
  rw [if_neg (fun h => h hg), if_pos hk] at this
  exact this
 show PO Pr G 125 _ _ [(0, some (dblk 4 ((redRows (l.map (thrG w ⟨k, ws, u, b, 0⟩)) (2 * w)).map Ps.l)))] 1
 generalize thrG w ⟨k, ws, u, b, 0⟩ = F at hc ht ⊢
 have hlen : (l.map F).length = l.length := by simp
 rw [hlen] at hc
 generalize redRows (l.map F) (2 * w) = R at hc ⊢
 refine ⟨isFn_of Tryz.func125 chk125, acall_sub (K := fun v H _ => v = .agg [.d (iD w), .sl 5 4 0 l.length l.length true] ∧ H.get 5 = some (dblk 4 (R.map Ps.l))) (fn_walk pok Tryz.func125 chk125 ?_) ?_⟩
 ·conv => whnf
  repeat' first | ((first | refine LookP.mk _ rfl ?_ | refine ShlP.mk _ (by first | (simp only [List.set, over, List.take, List.drop, List.append_eq, List.nil_append, List.cons_append, List.length]; rfl) | rfl) ?_ | refine HpP.force ?_); conv => whnf)
  refine for_use pok (fun j => ⟨[(3, .ptr 1 4 0 0), (4, .ptr 2 2 0 0), (5, .ptr 3 2 0 0), (15, .d (rowsD l t)), (16, .d (iD (l.map Ps.l).length)), (17, .d (iD j))], [(1, some (.arr 4 [[.d (iD k), .d (intsD ws u), .d (iD b), .d (iD 0)]])), (2, some (.arr 2 [[.d (iD 0), .d (.sl [] true)]])), (3, some (.arr 2 [[.d (iD w), .sl 4 4 0 j j false]])), (4, some (dblk 4 (((l.take j).map F).map Ps.l)))], 5⟩) (l.length) (fun _ => True) (trivial) ?_ (by kernel_rfl) ?_ ?_
  ·refine Sub.trans (sub_nilH2 (nm := 3) (S := 4) (Nat.zero_le _) rfl) ?_
   refine keep_env (by first | exact Nat.zero_le _ | exact Nat.le_of_ble_eq_true rfl) ?_ ?_ trivial
   ·repeat' first | exact trivial | refine ⟨⟨by first | rfl | assumption, rfl⟩, ?_⟩
   ·repeat' first | exact trivial | refine ⟨⟨ltB rfl, _, rfl, by first | rfl | assumption, by first | exact below1 rfl | exact below_dblk _ _ _ | exact below_arr rfl⟩, ?_⟩
  ·intro j A_j h_j I_j N_j
   have e_j : iadd .i64 (j : Int) 1 = ((j + 1 : Nat) : Int) := iadd_nat (by first | omega | (simp at *; omega))
   have hj := ht l[j] (hv _ (List.getElem_mem h_j))
   have hsn : ((l.take (j + 1)).map F).map Ps.l = ((l.take j).map F).map Ps.l ++ [(F l[j]).l] := by rw [take_snoc h_j, List.map_append, List.map_append]; rfl
   have hml : (((l.take j).map F).map Ps.l).length = j := by rw [List.length_map, List.length_map, List.length_take]; omega
   generalize ((l.take j).map F).map Ps.l = M at hsn hml
   generalize F l[j] = r at hj hsn
   conv => whnf
   repeat (refine LookP.mk _ rfl ?_; conv => whnf)
   intro t ht
   cases t
   ·exfalso; first | (simp at ht; done) | (simp at ht; omega)
   conv => whnf
   repeat' first | ((first | refine LookP.mk _ (by first | rfl | exact get_l h_j) ?_ | refine ShlP.mk _ (by first | (simp only [List.set, over, List.take, List.drop, List.append_eq, List.nil_append, List.cons_append, List.length]; rfl) | rfl) ?_ | (refine And.intro (by first | exact Nat.le_refl _ | exact ⟨by rw [List.length_map]; exact hml, by decide, by show (2 * (j + 1) + 192) * 32 ≤ 281474976710656; omega⟩ | assumption | exact ⟨by kernel_rfl, rfl⟩ | decide | omega) ?_) | refine pc_use hj ?_ | rw [nbeq] | refine HpP.force ?_); conv => whnf)
   refine N_j _ ?_ ?_
   ·first | trivial | assumption | omega
   ·first | refine ren_env [(4, 8)] ?_ ?_ ?_ trivial | refine ren_envB [(4, 8)] rfl rfl ?_ ?_ ?_ trivial
    ·repeat' first | exact trivial | refine ⟨⟨by first | rfl | assumption | exact congrArg (fun n => AV.d (iD n)) e_j, rfl⟩, ?_⟩
    ·repeat' first | exact trivial | refine ⟨⟨ltB rfl, _, rfl, by first | rfl | assumption | exact get_ren rfl (by first | rfl | assumption | exact get_ren rfl (by rw [hsn]; exact congrArg some (dblk_snoc rfl))) | exact get_ren rfl (by rw [hsn]; exact congrArg some (dblk_snoc rfl)), by first | exact below1 rfl | exact below_dblk _ _ _ | exact below_arr rfl⟩, ?_⟩
    ·repeat' first | exact trivial | (refine And.intro ?_ ?_) | (exact fun _ => rfl) | (exact fun h => absurd h (Nat.ne_of_beq_eq_false rfl))
  ·intro A_last I_last
   have hT : l.take l.length = l := List.take_of_length_le (Nat.le_refl _)
   rw [hT]
   conv => whnf
   repeat (refine LookP.mk _ rfl ?_; conv => whnf)
   intro t ht
   cases t
   rotate_left
   ·exfalso; first | (simp at ht; done) | (simp at ht; omega)
   conv => whnf
   repeat' first | ((first | refine LookP.mk _ rfl ?_ | refine ShlP.mk _ (by first | (simp only [List.set, over, List.take, List.drop, List.append_eq, List.nil_append, List.cons_append, List.length]; rfl) | rfl) ?_ | refine po_giveS hc rfl (by simp) ?_ | refine HpP.force ?_); conv => whnf)
   refine fin ⟨rfl, ?_⟩
   show some (Blk.ren _ (dblk 4 _)) = _
   rw [ren_dblk]
 ·rintro v H n ⟨rfl, h2⟩
  refine ⟨_, _, 1, ?_, rfl, rfl, rfl⟩
  first | refine ren_env [(0, 5)] ?_ ?_ ?_ trivial | refine ren_envB [(0, 5)] rfl rfl ?_ ?_ ?_ trivial
  ·repeat' first | exact trivial | refine ⟨⟨by first | rfl | assumption, rfl⟩, ?_⟩
  ·repeat' first | exact trivial | refine ⟨⟨ltB rfl, _, rfl, by first | rfl | assumption | exact get_ren rfl (by first | rfl | assumption | exact get_ren rfl h2) | exact get_ren rfl h2, by first | exact below1 rfl | exact below_dblk _ _ _ | exact below_arr rfl⟩, ?_⟩
  ·repeat' first | exact trivial | (refine And.intro ?_ ?_) | (exact fun _ => rfl) | (exact fun h => absurd h (Nat.ne_of_beq_eq_false rfl))
end Go.Tz
namespace Go.Tz
open Go Go.AL Go.Proofs Go.Ma
variable {G : Nat → Option (List D)}
theorem give_as2 {a e : D} {nm sz N : Nat} {t : Bool} {es : List (List D)} (hN : N = es.length) : ∀ (i : Nat) (v : AV) (d : D), [AV.agg [.d a, .sl nm sz 0 N N t], .d e][i]? = some v → [D.agg [a, .sl es t], e][i]? = some d → AsD [(nm, some (dblk sz es))] v d := fun i v d h1 h2 => by
 match i, h1, h2 with
 | 0, h1, h2 =>
  simp at h1 h2; subst h1 h2
  exact asD_agg2 (.d _) (asD_own (get_cons_same nm _ []) hN)
 | 1, h1, h2 => simp at h1 h2; subst h1 h2; exact .d _
 | i + 2, h1, _ => simp at h1
theorem po_giveS2 {f : FuncId} {a e : D} {nm sz N : Nat} {t : Bool} {es : List (List D)} {v : AV} {M : AHeap} {n : Nat} {H : AHeap} {nx : Nat} {k : AV → AHeap → Nat → Prop} (h : PO Pr G f [.agg [a, .sl es t], e] v M n) (hg : H.get nm = some (dblk sz es)) (hN : N = es.length)
  (hk : k (v.ren (· + nx)) (M.shift nx ++ dels [nm] H) (nx + n)) : CallVC Pr G f [.agg [.d a, .sl nm sz 0 N N t], .d e] H nx k := by
 refine ⟨h.fn, acall_give (HL := [(nm, some (dblk sz es))]) (L := [nm]) (acall_data h.call ?_) rfl (give_get hg) (give_as2 hN)⟩
 rintro v' N' m ⟨rfl, rfl, rfl⟩
 exact hk
def ofS (w : Nat) (gs : List Gt) : List Ps := gs.foldl (fun l g => appG w g l) (zeroS w)
theorem ofS_snoc {w : Nat} {gs : List Gt} {i : Nat} (h : i < gs.length) : ofS w (gs.take (i + 1)) = appG w gs[i] (ofS w (gs.take i)) := by
 unfold ofS; rw [take_snoc h, List.foldl_append]; rfl
theorem zeroS_len (w : Nat) : (zeroS w).length = w := by simp [zeroS]
theorem zeroS_vl (w : Nat) : ∀ q, q ∈ zeroS w → Vl w q := fun q hq => by
 obtain ⟨i, hi, rfl⟩ := List.mem_map.1 hq
 exact ⟨0, 2 ^ i, 0, rfl, Nat.two_pow_pos w, Nat.pow_lt_pow_right (by decide) (List.mem_range.1 hi), by decide⟩
theorem ofS_len (w : Nat) : ∀ (gs : List Gt) (l : List Ps), (gs.foldl (fun l g => appG w g l) l).length = l.length
 | [], _ => rfl
 | g :: gs, l => by rw [List.foldl_cons, ofS_len w gs, appG_len]
theorem ofS_vl {w : Nat} (hw : w ≤ 12) {bits : Int} : ∀ (gs : List Gt) (l : List Ps), (∀ g, g ∈ gs → gchk g w bits = 0 ∧ kindB g.k = true) → (∀ q, q ∈ l → Vl w q) → ∀ q, q ∈ gs.foldl (fun l g => appG w g l) l → Vl w q
 | [], _, _, hv => hv
 | g :: gs, l, hg, hv => ofS_vl hw gs (appG w g l) (fun x hx => hg x (List.mem_cons_of_mem _ hx)) (appG_vl hw (hg g (by simp)).1 (hg g (by simp)).2 hv)
end Go.Tz
namespace Go.Tz
open Go Go.AL Go.Proofs Go.Ma
variable {G : Nat → Option (List D)}
theorem gchk_bits {k b i : Int} {ws : List Int} {u : Bool} {w bits : Int} (hk : kindB k = true) (h : gchk ⟨k, ws, u, b, i⟩ w bits = 0) : gchk ⟨k, ws, u, b, 0⟩ w 0 = 0 := by
 obtain ⟨h1, h2, h3, h4, h5⟩ := gchk_ok h
 obtain ⟨b1, b2, b3, b4⟩ := bitE_ok h5
 have hk := of_decide_eq_true hk
 simp only at *
 unfold gchk
 simp only
 rw [if_neg h1, if_neg (by simpa using h2), if_neg (by rw [h3]; simp), if_neg (by rw [h4]; simp)]
 exact bitE0 (by simp only; omega) (by simp only; omega)
def ofE (w b : Int) (l : List Gt) : Int := if cchk w b l ≠ 0 then cchk w b l else if l.all cliffB = true then 0 else 7
theorem ofE_ok {w b : Int} {l : List Gt} (h : ofE w b l = 0) : cchk w b l = 0 ∧ l.all cliffB = true := by
 unfold ofE at h
 split at h
 ·contradiction
 ·rename_i h1
  split at h
  ·rename_i h2; exact ⟨by simpa using h1, h2⟩
  ·cases h
theorem gates_ok {w : Nat} {b : Int} {l : List Gt} (h : ofE w b l = 0) : (1 ≤ w ∧ w ≤ 12) ∧ ∀ g, g ∈ l → gchk g w b = 0 ∧ kindB g.k = true := by
 obtain ⟨h1, h2⟩ := ofE_ok h
 obtain ⟨a1, _, _, a4⟩ := cchk_ok h1
 refine ⟨by omega, fun g hg => ⟨a4 g hg, ?_⟩⟩
 have := List.all_eq_true.1 h2 g hg
 unfold cliffB at this
 simp at this
 exact this.2
def tfB : Nat → Bool
 | 0 => false
 | _ + 1 => true
theorem chk49 : chkFn Tryz.f49 = true := by kernel_rfl
theorem of49 {w : Nat} {b : Int} {l : List Gt} (h : ofE w b l = 0) (t : Bool) (hn : l.length ≤ 1000) (hws : ∀ g, g ∈ l → g.ws.length ≤ 1000) : PO Pr GG 49 [circD w b l t] (ownV w w (tfB l.length)) [(0, some (dblk 4 ((ofS w l).map Ps.l)))] 1 := by
 obtain ⟨hw, hgs⟩ := gates_ok h
 obtain ⟨h1, h2⟩ := ofE_ok h
 have c1 := clifford126 (G := GG) w b l t hn hws
 rw [if_pos h1, h2] at c1
 have c3 := zero110p hw
 refine ⟨isFn_of Tryz.func49 chk49, acall_sub (K := fun v H _ => v = .tup [.agg [.d (iD w), .sl 2 4 0 w w (tfB l.length)], .d (iD 0)] ∧ H.get 2 = some (dblk 4 ((ofS w l).map Ps.l))) (fn_walk pok Tryz.func49 chk49 ?_) ?_⟩
 ·conv => whnf
  repeat' first | ((first | refine LookP.mk _ rfl ?_ | refine ShlP.mk _ (by first | (simp only [List.set, over, List.take, List.drop, List.append_eq, List.nil_append, List.cons_append, List.length]; rfl) | rfl) ?_ | refine pc_use c1 ?_ | refine po_use c3 ?_ | refine HpP.force ?_); conv => whnf) | (intro t ht; cases t <;> conv => whnf)
  ·refine for_use pok (fun i => ⟨[(2, .ptr 1 2 0 0), (6, .ptr 3 2 0 0), (25, .d (gatesD l t)), (26, .d (iD (l.map Gt.l).length)), (27, .d (iD i))], [(1, some (.arr 2 [[.d (iD 0), .d (.sl [] true)]])), (2, some (dblk 4 ((ofS w (l.take i)).map Ps.l))), (3, some (.arr 2 [[.d (iD w), .sl 2 4 0 w w (tfB i)]]))], 4⟩) (l.length) (fun _ => True) (trivial) ?_ (by kernel_rfl) ?_ ?_
   ·refine keep_env (by first | exact Nat.zero_le _ | exact Nat.le_of_ble_eq_true rfl) ?_ ?_ trivial
    ·repeat' first | exact trivial | refine ⟨⟨by first | rfl | assumption, rfl⟩, ?_⟩
    ·repeat' first | exact trivial | refine ⟨⟨ltB rfl, _, rfl, by first | rfl | assumption | exact (show some (Blk.ren _ (dblk 4 ((zeroS w).map Ps.l))) = some (dblk 4 ((zeroS w).map Ps.l)) from by rw [ren_dblk]), by first | exact below1 rfl | exact below_dblk _ _ _ | exact below_arr rfl⟩, ?_⟩
   ·intro i A_i h_i I_i N_i
    have e_i : iadd .i64 (i : Int) 1 = ((i + 1 : Nat) : Int) := iadd_nat (by first | omega | (simp at *; omega))
    obtain ⟨g1, g2⟩ := hgs _ (List.getElem_mem h_i)
    have hlen : (ofS w (l.take i)).length = w := by unfold ofS; rw [ofS_len, zeroS_len]
    have hvl : ∀ q, q ∈ ofS w (l.take i) → Vl w q := ofS_vl hw.2 _ _ (fun g hg => hgs g (List.mem_of_mem_take hg)) (zeroS_vl w)
    have hsn := ofS_snoc (w := w) h_i
    have hgl : (l.map Gt.l)[(i : Int).toNat]? = some (l[i]).l := get_g h_i
    generalize l[i] = g at g1 g2 hsn hgl
    obtain ⟨gk, gws, gu, gb, gi⟩ := g
    have ha := applied125 (G := GG) hw (i := gi) (gchk_bits g2 g1) g2 (ofS w (l.take i)) (tfB i) (by omega) hvl
    have e : appG w ⟨gk, gws, gu, gb, 0⟩ (ofS w (l.take i)) = ofS w (l.take (i + 1)) := hsn.symm
    rw [e, hlen] at ha
    generalize ofS w (l.take i) = m at ha hlen ⊢
    have hml : w = (m.map Ps.l).length := by rw [List.length_map, hlen]
    conv => whnf
    repeat (refine LookP.mk _ rfl ?_; conv => whnf)
    intro t ht
    cases t
    ·exfalso; first | (simp at ht; done) | (simp at ht; omega)
    conv => whnf
    repeat' first | ((first | refine LookP.mk _ (by first | rfl | exact hgl) ?_ | refine ShlP.mk _ (by first | (simp only [List.set, over, List.take, List.drop, List.append_eq, List.nil_append, List.cons_append, List.length]; rfl) | rfl) ?_ | refine And.intro (by first | assumption | exact ⟨by kernel_rfl, rfl⟩ | decide | omega) ?_ | refine po_giveS2 ha rfl hml ?_ | refine HpP.force ?_); conv => whnf)
    refine N_i _ ?_ ?_
    ·first | trivial | assumption | omega
    ·first | refine ren_env [(2, 5)] ?_ ?_ ?_ trivial | refine ren_envB [(2, 5)] rfl rfl ?_ ?_ ?_ trivial
     ·repeat' first | exact trivial | refine ⟨⟨by first | rfl | assumption | exact congrArg (fun n => AV.d (iD n)) e_i, rfl⟩, ?_⟩
     ·repeat' first | exact trivial | refine ⟨⟨ltB rfl, _, rfl, by first | rfl | assumption | exact get_ren rfl (by first | rfl | assumption | exact get_ren rfl (show some (Blk.ren _ (dblk 4 _)) = _ from by rw [ren_dblk])) | exact get_ren rfl (show some (Blk.ren _ (dblk 4 _)) = _ from by rw [ren_dblk]), by first | exact below1 rfl | exact below_dblk _ _ _ | exact below_arr rfl⟩, ?_⟩
     ·repeat' first | exact trivial | (refine And.intro ?_ ?_) | (exact fun _ => rfl) | (exact fun h => absurd h (Nat.ne_of_beq_eq_false rfl))
   ·intro A_last I_last
    rw [List.take_length]
    conv => whnf
    repeat (refine LookP.mk _ rfl ?_; conv => whnf)
    intro t ht
    cases t
    rotate_left
    ·exfalso; first | (simp at ht; done) | (simp at ht; omega)
    conv => whnf
    repeat' first | ((first | refine LookP.mk _ rfl ?_ | refine ShlP.mk _ (by first | (simp only [List.set, over, List.take, List.drop, List.append_eq, List.nil_append, List.cons_append, List.length]; rfl) | rfl) ?_ | refine HpP.force ?_); conv => whnf)
    exact fin ⟨rfl, rfl⟩
  all_goals (exfalso; simp at ht; done)
 ·rintro v H n ⟨rfl, h2⟩
  refine ⟨_, _, 1, ?_, rfl, rfl, rfl⟩
  first | refine ren_env [(0, 2)] ?_ ?_ ?_ trivial | refine ren_envB [(0, 2)] rfl rfl ?_ ?_ ?_ trivial
  ·repeat' first | exact trivial | refine ⟨⟨by first | rfl | assumption, rfl⟩, ?_⟩
  ·repeat' first | exact trivial | refine ⟨⟨ltB rfl, _, rfl, by first | rfl | assumption | exact get_ren rfl (by first | rfl | assumption | exact get_ren rfl h2) | exact get_ren rfl h2, by first | exact below1 rfl | exact below_dblk _ _ _ | exact below_arr rfl⟩, ?_⟩
  ·repeat' first | exact trivial | (refine And.intro ?_ ?_) | (exact fun _ => rfl) | (exact fun h => absurd h (Nat.ne_of_beq_eq_false rfl))
end Go.Tz
namespace Go.Tz
open Go Go.AL Go.Proofs Go.Ma
variable {G : Nat → Option (List D)}
theorem sok_len {w : Nat} {l : List Ps} (h : SOk w l) : l.length ≤ 1000 := by have := h.len; have := h.hi; omega
def exS (w : Int) (l : List Ps) (p : Ps) : Int := if chkS w l ≠ 0 then chkS w l else if pckI p ≠ 0 then pckI p else if p.w ≠ w ∨ p.p.tmod 2 = 1 then 7 else 0
theorem pck_p {p : Ps} (h : pckI p = 0) : 0 ≤ p.p ∧ p.p ≤ 3 := by
 unfold pckI at h
 split at h
 ·cases h
 ·split at h
  ·cases h
  ·split at h
   ·cases h
   ·omega
theorem exS_ok {w : Int} {l : List Ps} {p : Ps} (h : exS w l p = 0) : ∃ W : Nat, w = W ∧ SOk W l ∧ Vl W p ∧ p.p.tmod 2 = 0 := by
 unfold exS at h
 split at h
 ·contradiction
 ·rename_i h1
  obtain ⟨W, rfl, hs⟩ := chk_ok (show chkS w l = 0 by simpa using h1)
  split at h
  ·contradiction
  ·rename_i h2
   have h2 : pckI p = 0 := by simpa using h2
   split at h
   ·cases h
   ·rename_i h3
    have hp := pck_p h2
    refine ⟨W, rfl, hs, vl_of (by rw [← pck_pchk]; exact h2) (by omega), ?_⟩
    rw [Int.tmod_eq_emod_of_nonneg hp.1] at h3 ⊢
    omega
theorem chk48 : chkFn Tryz.f48 = true := by kernel_rfl
theorem expect48 {w : Nat} {l : List Ps} {p : Ps} (h : exS w l p = 0) (t : Bool) : PC Pr GG 48 [stD w l t, p.d] (.tup [iD (expP l p), iD 0]) := by
 obtain ⟨W, hW, hs, hp, hpp⟩ := exS_ok h
 obtain rfl : W = w := by omega
 have c1 := check36 W l t (sok_len hs)
 rw [ok_chk hs] at c1
 have c2 := check111 (G := GG) p
 rw [pck_vl ⟨hs.lo, hs.hi⟩ hp] at c2
 have c3 := expected107 hs t hp
 have hpw := vl_w hp
 generalize expP l p = e at c3 ⊢
 obtain ⟨pw, px, pz, pp⟩ := p
 obtain rfl : pw = W := hpw
 have hpp : pp.tmod 2 = 0 := hpp
 refine pc_walk pok Tryz.func48 chk48 ?_
 conv => whnf
 repeat' first | ((first | refine LookP.mk _ rfl ?_ | refine And.intro (by first | assumption | exact ⟨by kernel_rfl, rfl⟩ | decide | omega) ?_ | refine pc_use c1 ?_ | refine pc_use c2 ?_ | refine pc_use c3 ?_); conv => whnf) | (intro t ht; cases t <;> conv => whnf)
 all_goals first | exact fin rfl | (exfalso; simp [hpp] at ht; done)
end Go.Tz
namespace Go.Tz
open Go Go.AL Go.Proofs Go.Ma
abbrev wkF (w nm : Nat) (F : FuncId) : Blk := .arr 3 [[.d (iD w), .sl nm 4 0 w w true, .fn F [.ptr 2 3 0 0] []]]
def rangesOf : Code → List (Code × Code)
 | .seq c d => rangesOf c ++ rangesOf d
 | .cond _ c d => rangesOf c ++ rangesOf d
 | .block _ c => rangesOf c
 | .scope c => rangesOf c
 | .rangeFunc _ _ a b => [(a, b)]
 | _ => []
noncomputable def rgI (f : Func) (i : Nat) : Code × Code := match f.body with
 | some c => (rangesOf c).getD i (.skip, .skip)
 | none => (.skip, .skip)
def prS (p : Ps) (rf : Nat → Ps) (a0 m j : Nat) : Ps := if j < m ∧ j ≠ a0 ∧ comV p (rf j) = false then mulS (rf j) (rf a0) else rf j
section
variable {p : Ps} {rf : Nat → Ps} {a0 m : Nat}
theorem prS_0 {j : Nat} : prS p rf a0 0 j = rf j := by unfold prS; rw [if_neg (by omega)]
theorem prS_at : prS p rf a0 m m = rf m := by unfold prS; rw [if_neg (by omega)]
theorem prS_a0 : prS p rf a0 m a0 = rf a0 := by unfold prS; rw [if_neg fun h => h.2.1 rfl]
theorem prS_new (h1 : m ≠ a0) (h2 : comV p (rf m) = false) : prS p rf a0 (m + 1) m = mulS (rf m) (rf a0) := by unfold prS; rw [if_pos ⟨by omega, h1, h2⟩]
theorem prS_step (j : Nat) : (if j = m then Ps.l (prS p rf a0 (m + 1) m) else Ps.l (prS p rf a0 m j)) = Ps.l (prS p rf a0 (m + 1) j) := by
 by_cases h : j = m
 ·rw [if_pos h, h]
 ·rw [if_neg h]
  unfold prS
  have e : (j < m + 1 ∧ j ≠ a0 ∧ comV p (rf j) = false) ↔ (j < m ∧ j ≠ a0 ∧ comV p (rf j) = false) := by constructor <;> (rintro ⟨a, b, c⟩; exact ⟨by omega, b, c⟩)
  simp only [e]
theorem prS_same (h : comV p (rf m) = true ∨ m = a0) : prS p rf a0 (m + 1) = prS p rf a0 m := by
 funext j
 unfold prS
 by_cases hj : j = m
 ·subst hj
  rw [if_neg, if_neg (by omega)]
  rintro ⟨_, h2, h3⟩
  rcases h with h | h
  ·rw [h] at h3; cases h3
  ·exact h2 h
 ·have e : (j < m + 1 ∧ j ≠ a0 ∧ comV p (rf j) = false) ↔ (j < m ∧ j ≠ a0 ∧ comV p (rf j) = false) := by constructor <;> (rintro ⟨a, b, c⟩; exact ⟨by omega, b, c⟩)
  simp only [e]
end
theorem bneT {a : Int} {k : Bool → Prop} (h : k false) : ∀ t, (a != a) = t → k t := fun t e => by
 have e2 : false = t := (show (a != a) = false by simp).symm.trans e
 exact e2 ▸ h
theorem bneF {a b : Int} (hne : a ≠ b) {k : Bool → Prop} (h : k true) : ∀ t, (a != b) = t → k t := fun t e => by
 have e2 : true = t := (show (a != b) = true by simpa using hne).symm.trans e
 exact e2 ▸ h
theorem chk136 : chkFn Tryz.f136 = true := by kernel_rfl
theorem measure136c {w n o : Nat} (hw : 1 ≤ w ∧ w ≤ 12) (hn : n < w) (ho : o ≤ 1) (F : FuncId) {rf : Nat → Ps} {a0 : Nat} {R : List Nat} (hpv : Vl w (zP w n o)) (hvl : ∀ j, j < w → Vl w (rf j)) (hA : antL (zP w n o) rf w = a0 :: R)
  (hx2 : PC Pr GG 107 [.agg [iD w, .sl ((List.range w).map fun j => Ps.l (rf j)) true], (zP w n o).d] (iD 0)) :
  ACall Pr GG 136 [.ptr 2 3 0 0, .d (iD n), .d (iD o)] [(2, some (wkF w 3 F)), (3, some (dblk 4 ((List.range w).map fun j => Ps.l (rf j))))] 12 fun v H n' => v = .d (.tup [iD 1, iD 0]) ∧ H.get 2 = some (wkF w 12 F) ∧ H.get 12 = some (dblk 4 ((redRows (rowsL w (prjF rf (zP w n o) a0 R)) (2 * w)).map Ps.l)) ∧ n' = 13 := by
 have hsh : ishl .i64 1 (n : Int) = ((2 ^ n : Nat) : Int) := pow_nat (by omega)
 have him : imul .i64 2 (o : Int) = ((2 * o : Nat) : Int) := imul_nat (a := 2) (by omega)
 have hPv := prjF_vl hw.2 hvl hpv (ant_spec hA).1 (R := R)
 have hcan := canon105o (G := GG) hw (rowsL w (prjF rf (zP w n o) a0 R)) true (by simp; omega) (fun q hq => by
  obtain ⟨j, hj, rfl⟩ := List.mem_map.1 hq
  exact hPv j (List.mem_range.1 hj))
 obtain ⟨sp1, sp2, sp3, sp4⟩ := ant_spec hA
 have hno : (∀ j, j < w → comV (zP w n o) (rf j) = true) → False := fun h => by
  have := h a0 sp1
  rw [sp2] at this; cases this
 have hcan2 : PO Pr GG 105 [.agg [iD w, .sl ((List.range w).map fun j => Ps.l (prjF rf (zP w n o) a0 R j)) true]] (.agg [.d (iD w), .sl 0 4 0 w w true]) [(0, some (dblk 4 ((redRows (rowsL w (prjF rf (zP w n o) a0 R)) (2 * w)).map Ps.l)))] 1 := by
  have eR : (rowsL w (prjF rf (zP w n o) a0 R)).map Ps.l = (List.range w).map fun j => Ps.l (prjF rf (zP w n o) a0 R j) := by unfold rowsL; rw [List.map_map]; rfl
  have eL : (rowsL w (prjF rf (zP w n o) a0 R)).length = w := by simp
  rw [← eR]
  rw [eL] at hcan
  exact hcan
 clear hcan
 have hRm : ∀ j, j ∈ R ↔ j < w ∧ j ≠ a0 ∧ comV (zP w n o) (rf j) = false := fun j => by
  have hm : j ∈ a0 :: R ↔ j < w ∧ comV (zP w n o) (rf j) = false := by
   rw [← hA]; unfold antL; rw [List.mem_filter, List.mem_range]; simp
  have hnd : (a0 :: R).Nodup := by rw [← hA]; exact (List.nodup_range).filter _
  have haR : a0 ∉ R := (List.nodup_cons.1 hnd).1
  constructor
  ·intro h
   have := hm.1 (List.mem_cons_of_mem _ h)
   exact ⟨this.1, fun q => haR (q ▸ h), this.2⟩
  ·rintro ⟨h1, h2, h3⟩
   rcases List.mem_cons.1 (hm.2 ⟨h1, h3⟩) with q | q
   ·exact absurd q h2
   ·exact q
 have hB0 : chkCode Tryz.f136.ntmps (rgI Tryz.f136 0).2 = true := by kernel_rfl
 have hB1 : chkCode Tryz.f136.ntmps (rgI Tryz.f136 1).2 = true := by kernel_rfl
 refine acall_sub (fn_walk pok Tryz.func136 chk136 (K := fun v H m => v = .d (.tup [iD 1, iD 0]) ∧ H.get 2 = some (wkF w 24 F) ∧ H.get 24 = some (dblk 4 ((redRows (rowsL w (prjF rf (zP w n o) a0 R)) (2 * w)).map Ps.l))) ?_) ?_
 ·conv => whnf
  repeat' first | ((first | refine LookP.mk _ (by first | rfl | exact lendW rfl (by simp)) ?_ | refine ShlP.mk _ (by first | (simp only [List.set, over, List.take, List.drop, List.append_eq, List.nil_append, List.cons_append, List.length]; rfl) | rfl) ?_ | refine And.intro (by first | assumption | exact ⟨by kernel_rfl, rfl⟩ | decide | omega) ?_ | rw [hsh] | rw [him] | refine spine_rd (l := [3]) (rd_call rfl rfl (show _ = some (dblk 4 ((List.range w).map fun j => Ps.l (rf j))) from rfl)) ?_ | refine pc_head hx2 ?_ | refine beqF1 rfl ?_ | refine HpP.force ?_); conv => whnf)
  refine call_walk pok Tryz.func195 chk195 ?_
  conv => whnf
  skip
  refine call_walk pok Tryz.func247 chk247 ?_
  conv => whnf
  repeat' first | (refine LookP.mk _ rfl ?_; conv => whnf)
  refine for_use pok (fun i => ⟨[(0, .yld 18), (4, .d (.fn 114 [.agg [iD w, iD 0, iD ((2 ^ n : Nat) : Int), iD ((2 * o : Nat) : Int)]] [])), (14, .sl 3 4 0 w w true), (15, .d (iD w)), (16, .d (iD i))], [(2, some (wkF w 3 F)), (3, some (dblk 4 ((List.range w).map fun j => Ps.l (rf j)))), (12, some (.arr 1 [[.ptr 2 3 0 0]])), (13, some (.arr 4 [[.d (iD w), .d (iD 0), .d (iD ((2 ^ n : Nat) : Int)), .d (iD ((2 * o : Nat) : Int))]])), (14, some (.arr 1 [[.d (iD (-1))]])), (15, some (.arr 1 [[.ptr 2 3 0 0]])), (16, some (.arr 4 [[.d (iD w), .d (iD 0), .d (iD ((2 ^ n : Nat) : Int)), .d (iD ((2 * o : Nat) : Int))]])), (17, some (.raw (.deferred (some [])))), (18, some (.lp [(34, .fn 247 [] [.ptr 16 4 0 0, .ptr 15 1 0 0]), (33, .d (.agg [iD w, iD 0, iD ((2 ^ n : Nat) : Int), iD ((2 * o : Nat) : Int)])), (32, .ptr 2 3 0 0), (9, .ptr 14 1 0 0), (30, .d (.bool false)), (31, .d (.bool false)), (28, .d (.bool false)), (29, .d (.bool false)), (27, .d (iD 0)), (26, .d (.agg [iD w, iD 0, iD ((2 ^ n : Nat) : Int), iD ((2 * o : Nat) : Int)])), (25, .agg [.d (iD w), .sl 3 4 0 w w true]), (24, .ptr 2 3 0 0), (23, .ptr 2 3 0 0), (22, .ptr 2 3 0 0), (8, .ptr 13 4 0 0), (21, .d (.agg [iD w, iD 0, iD ((2 ^ n : Nat) : Int), iD ((2 * o : Nat) : Int)])), (20, .d (iD ((2 * o : Nat) : Int))), (19, .d (iD o)), (18, .d (iD ((2 ^ n : Nat) : Int))), (17, .d (iD n)), (16, .d (iD w)), (15, .ptr 2 3 0 0), (14, .ptr 2 3 0 0), (13, .ptr 2 3 0 0), (12, .ptr 2 3 0 0), (7, .d (iD 0)), (6, .d (iD 0)), (3, .ptr 12 1 0 0), (0, .ptr 2 3 0 0), (1, .d (iD n)), (2, .d (iD o))] Tryz.f136.ntmps #[35] (rgI Tryz.f136 0).1 (rgI Tryz.f136 0).2 .ready none 17))], 19⟩) (w) (fun i => ∀ j, j < i → comV (zP w n o) (rf j) = true) (by omega) ?_ (by kernel_rfl) ?_ ?_
  ·refine keep_env (by first | exact Nat.zero_le _ | exact Nat.le_of_ble_eq_true rfl) ?_ ?_ trivial
   ·repeat' first | exact trivial | refine ⟨⟨by first | rfl | assumption, rfl⟩, ?_⟩
   ·repeat' first | exact trivial | refine ⟨⟨ltB rfl, _, rfl, by first | rfl | assumption, by first | exact below1 rfl | exact below_dblk _ _ _ | exact below_arr rfl | exact trivial | exact ⟨rfl, Nat.le_of_ble_eq_true rfl⟩⟩, ?_⟩
  ·intro i A_i h_i I_i N_i
   have e_i : iadd .i64 (i : Int) 1 = ((i + 1 : Nat) : Int) := iadd_nat (by first | omega | (simp at *; omega))
   have hc := with114 (G := GG) hw hpv (hvl i h_i)
   cases hb : comV (zP w n o) (rf i) with
   | true =>
    rw [hb] at hc
    conv => whnf
    repeat (refine LookP.mk _ rfl ?_; conv => whnf)
    intro t ht
    cases t
    ·exfalso; first | (simp at ht; done) | (simp at ht; omega)
    conv => whnf
    repeat' first | ((first | refine LookP.mk _ (by first | rfl | exact get_rw h_i) ?_ | refine ShlP.mk _ (by first | (simp only [List.set, over, List.take, List.drop, List.append_eq, List.nil_append, List.cons_append, List.length]; rfl) | rfl) ?_ | refine And.intro (by first | assumption | exact ⟨by kernel_rfl, rfl⟩ | decide | omega) ?_ | refine pc_use hc ?_ | refine HpP.force ?_); conv => whnf)
    refine N_i _ ?_ ?_
    ·(intro j hj; rcases Nat.lt_or_ge j i with h | h; exact I_i j h; rw [show j = i by omega]; exact hb)
    ·refine keep_env (by first | exact Nat.zero_le _ | exact Nat.le_of_ble_eq_true rfl) ?_ ?_ trivial
     ·repeat' first | exact trivial | refine ⟨⟨by first | rfl | assumption | exact congrArg (fun n => AV.d (iD n)) e_i, rfl⟩, ?_⟩
     ·repeat' first | exact trivial | refine ⟨⟨ltB rfl, _, rfl, by first | rfl | assumption, by first | exact below1 rfl | exact below_dblk _ _ _ | exact below_arr rfl | exact trivial | exact ⟨rfl, Nat.le_of_ble_eq_true rfl⟩⟩, ?_⟩
   | false =>
    rw [hb] at hc
    have hia : i = a0 := by
     rcases Nat.lt_trichotomy i a0 with q | q | q
     ·have := sp3 i q
      rw [hb] at this; cases this
     ·exact q
     ·have := I_i a0 q
      rw [sp2] at this; cases this
    conv => whnf
    repeat (refine LookP.mk _ rfl ?_; conv => whnf)
    intro t ht
    cases t
    ·exfalso; first | (simp at ht; done) | (simp at ht; omega)
    conv => whnf
    repeat' first | ((first | refine LookP.mk _ (by first | rfl | exact get_rw h_i) ?_ | refine ShlP.mk _ (by first | (simp only [List.set, over, List.take, List.drop, List.append_eq, List.nil_append, List.cons_append, List.length]; rfl) | rfl) ?_ | refine And.intro (by first | assumption | exact ⟨by kernel_rfl, rfl⟩ | decide | omega) ?_ | refine pc_use hc ?_ | refine HpP.force ?_); conv => whnf)
    refine round_walk pok ?_
    conv => whnf
    repeat' first | ((first | refine LookP.mk _ rfl ?_ | refine ShlP.mk _ (by first | (simp only [List.set, over, List.take, List.drop, List.append_eq, List.nil_append, List.cons_append, List.length]; rfl) | rfl) ?_ | refine HpP.force ?_); conv => whnf)
    refine call_walk pok Tryz.func195 chk195 ?_
    conv => whnf
    skip
    refine call_walk pok Tryz.func247 chk247 ?_
    conv => whnf
    repeat' first | (refine LookP.mk _ rfl ?_; conv => whnf)
    refine for_use pok (fun m => ⟨[(0, .yld 23), (4, .d (.fn 114 [.agg [iD w, iD 0, iD ((2 ^ n : Nat) : Int), iD ((2 * o : Nat) : Int)]] [])), (14, .sl 3 4 0 w w true), (15, .d (iD w)), (16, .d (iD m))], [(2, some (wkF w 3 F)), (3, some (dblk 4 ((List.range w).map fun j => Ps.l (prS (zP w n o) rf a0 m j)))), (12, some (.arr 1 [[.ptr 2 3 0 0]])), (13, some (.arr 4 [[.d (iD w), .d (iD 0), .d (iD ((2 ^ n : Nat) : Int)), .d (iD ((2 * o : Nat) : Int))]])), (14, some (.arr 1 [[.d (iD a0)]])), (17, some (.raw (.deferred (some [])))), (20, some (.arr 1 [[.ptr 2 3 0 0]])), (21, some (.arr 4 [[.d (iD w), .d (iD 0), .d (iD ((2 ^ n : Nat) : Int)), .d (iD ((2 * o : Nat) : Int))]])), (22, some (.raw (.deferred (some [])))), (23, some (.lp [(39, .fn 247 [] [.ptr 21 4 0 0, .ptr 20 1 0 0]), (38, .d (.agg [iD w, iD 0, iD ((2 ^ n : Nat) : Int), iD ((2 * o : Nat) : Int)])), (37, .ptr 2 3 0 0), (34, .fn 247 [] [.ptr 16 4 0 0, .ptr 15 1 0 0]), (33, .d (.agg [iD w, iD 0, iD ((2 ^ n : Nat) : Int), iD ((2 * o : Nat) : Int)])), (32, .ptr 2 3 0 0), (9, .ptr 14 1 0 0), (30, .d (.bool false)), (31, .d (.bool false)), (28, .d (.bool false)), (29, .d (.bool false)), (27, .d (iD 0)), (26, .d (.agg [iD w, iD 0, iD ((2 ^ n : Nat) : Int), iD ((2 * o : Nat) : Int)])), (25, .agg [.d (iD w), .sl 3 4 0 w w true]), (24, .ptr 2 3 0 0), (23, .ptr 2 3 0 0), (22, .ptr 2 3 0 0), (8, .ptr 13 4 0 0), (21, .d (.agg [iD w, iD 0, iD ((2 ^ n : Nat) : Int), iD ((2 * o : Nat) : Int)])), (20, .d (iD ((2 * o : Nat) : Int))), (19, .d (iD o)), (18, .d (iD ((2 ^ n : Nat) : Int))), (17, .d (iD n)), (16, .d (iD w)), (15, .ptr 2 3 0 0), (14, .ptr 2 3 0 0), (13, .ptr 2 3 0 0), (12, .ptr 2 3 0 0), (7, .d (iD 0)), (6, .d (iD 0)), (3, .ptr 12 1 0 0), (0, .ptr 2 3 0 0), (1, .d (iD n)), (2, .d (iD o))] Tryz.f136.ntmps #[40] (rgI Tryz.f136 1).1 (rgI Tryz.f136 1).2 .ready none 22))], 24⟩) (w) (fun _ => True) (trivial) ?_ (by kernel_rfl) ?_ ?_
    ·refine keep_env (by first | exact Nat.zero_le _ | exact Nat.le_of_ble_eq_true rfl) ?_ ?_ trivial
     ·repeat' first | exact trivial | refine ⟨⟨by first | rfl | assumption, rfl⟩, ?_⟩
     ·repeat' first | exact trivial | refine ⟨⟨ltB rfl, _, rfl, by first | rfl | assumption | exact congrArg some (psB_congr fun j => by rw [prS_0]) | (rw [hia]; rfl), by first | exact below1 rfl | exact below_dblk _ _ _ | exact below_arr rfl | exact trivial | exact ⟨rfl, Nat.le_of_ble_eq_true rfl⟩⟩, ?_⟩
    ·intro m A_m h_m I_m N_m
     have e_m : iadd .i64 (m : Int) 1 = ((m + 1 : Nat) : Int) := iadd_nat (by first | omega | (simp at *; omega))
     have hcm := with114 (G := GG) hw hpv (hvl m h_m)
     have hst : ∀ j, (if j = m then Ps.l (prS (zP w n o) rf a0 (m + 1) m) else Ps.l (prS (zP w n o) rf a0 m j)) = Ps.l (prS (zP w n o) rf a0 (m + 1) j) := fun j => prS_step j
     have hgm : (fun j => Ps.l (prS (zP w n o) rf a0 m j)) m = Ps.l (rf m) := by dsimp only; rw [prS_at]
     cases hbm : comV (zP w n o) (rf m) with
     | true =>
      rw [hbm] at hcm
      have hsame : ∀ j, Ps.l (prS (zP w n o) rf a0 m j) = Ps.l (prS (zP w n o) rf a0 (m + 1) j) := fun j => by rw [prS_same (.inl hbm)]
      generalize prS (zP w n o) rf a0 m = g at hgm hsame hst
      conv => whnf
      repeat (refine LookP.mk _ rfl ?_; conv => whnf)
      intro t ht
      cases t
      ·exfalso; first | (simp at ht; done) | (simp at ht; omega)
      conv => whnf
      repeat' first | ((first | refine LookP.mk _ (by first | rfl | exact get_rwE h_m hgm) ?_ | refine ShlP.mk _ (by first | (simp only [List.set, over, List.take, List.drop, List.append_eq, List.nil_append, List.cons_append, List.length]; rfl) | rfl) ?_ | refine And.intro (by first | assumption | exact ⟨by kernel_rfl, rfl⟩ | decide | omega) ?_ | refine pc_use hcm ?_ | refine HpP.force ?_); conv => whnf)
      refine N_m _ ?_ ?_
      ·first | trivial | assumption | omega
      ·refine keep_env (by first | exact Nat.zero_le _ | exact Nat.le_of_ble_eq_true rfl) ?_ ?_ trivial
       ·repeat' first | exact trivial | refine ⟨⟨by first | rfl | assumption | exact congrArg (fun n => AV.d (iD n)) e_m, rfl⟩, ?_⟩
       ·repeat' first | exact trivial | refine ⟨⟨ltB rfl, _, rfl, by first | rfl | assumption | exact congrArg some (psB_congr hsame), by first | exact below1 rfl | exact below_dblk _ _ _ | exact below_arr rfl | exact trivial | exact ⟨rfl, Nat.le_of_ble_eq_true rfl⟩⟩, ?_⟩
     | false =>
      rw [hbm] at hcm
      by_cases hma : m = a0
      ·have hsame : ∀ j, Ps.l (prS (zP w n o) rf a0 m j) = Ps.l (prS (zP w n o) rf a0 (m + 1) j) := fun j => by rw [prS_same (.inr hma)]
       generalize prS (zP w n o) rf a0 m = g at hgm hsame hst
       generalize prS (zP w n o) rf a0 (m + 1) = g' at hsame hst N_m
       subst hma
       conv => whnf
       repeat (refine LookP.mk _ rfl ?_; conv => whnf)
       intro t ht
       cases t
       ·exfalso; first | (simp at ht; done) | (simp at ht; omega)
       conv => whnf
       repeat' first | ((first | refine LookP.mk _ (by first | rfl | exact get_rwE h_m hgm) ?_ | refine ShlP.mk _ (by first | (simp only [List.set, over, List.take, List.drop, List.append_eq, List.nil_append, List.cons_append, List.length]; rfl) | rfl) ?_ | refine And.intro (by first | assumption | exact ⟨by kernel_rfl, rfl⟩ | decide | omega) ?_ | refine pc_use hcm ?_ | refine HpP.force ?_); conv => whnf)
       refine round_walk pok ?_
       conv => whnf
       repeat' first | ((first | refine LookP.mk _ rfl ?_ | rw [hB1] | refine bneT ?_); conv => whnf)
       refine N_m _ ?_ ?_
       ·first | trivial | assumption | omega
       ·refine keep_env (by first | exact Nat.zero_le _ | exact Nat.le_of_ble_eq_true rfl) ?_ ?_ trivial
        ·repeat' first | exact trivial | refine ⟨⟨by first | rfl | assumption | exact congrArg (fun n => AV.d (iD n)) e_m, rfl⟩, ?_⟩
        ·repeat' first | exact trivial | refine ⟨⟨ltB rfl, _, rfl, by first | rfl | assumption | exact congrArg some (psB_congr hsame), by first | exact below1 rfl | exact below_dblk _ _ _ | exact below_arr rfl | exact trivial | exact ⟨rfl, Nat.le_of_ble_eq_true rfl⟩⟩, ?_⟩
      ·have hma' : (m : Int) ≠ a0 := by omega
       have hta := times183v (G := GG) hw (rf m) [rf a0] true (by simp) (hvl m h_m) (by intro r hr; rw [List.mem_singleton.1 hr]; exact hvl a0 sp1)
       have hme2 : ([rf a0].foldl mulS (rf m)) = prS (zP w n o) rf a0 (m + 1) m := (prS_new hma hbm).symm
       rw [hme2] at hta
       have hga : prS (zP w n o) rf a0 m a0 = rf a0 := prS_a0
       generalize prS (zP w n o) rf a0 m = g at hgm hst hga
       generalize hg1 : prS (zP w n o) rf a0 (m + 1) = g' at hst hta N_m
       generalize hr' : g' m = r' at hta hst
       have hst2 : ∀ j, (if j = m then [iD r'.w, iD r'.x, iD r'.z, iD r'.p] else Ps.l (g j)) = Ps.l (g' j) := hst
       have hgA : (fun j => Ps.l (g j)) a0 = Ps.l (rf a0) := by dsimp only; rw [hga]
       conv => whnf
       repeat (refine LookP.mk _ rfl ?_; conv => whnf)
       intro t ht
       cases t
       ·exfalso; first | (simp at ht; done) | (simp at ht; omega)
       conv => whnf
       repeat' first | ((first | refine LookP.mk _ (by first | rfl | exact get_rwE h_m hgm) ?_ | refine ShlP.mk _ (by first | (simp only [List.set, over, List.take, List.drop, List.append_eq, List.nil_append, List.cons_append, List.length]; rfl) | rfl) ?_ | refine And.intro (by first | assumption | exact ⟨by kernel_rfl, rfl⟩ | decide | omega) ?_ | refine pc_use hcm ?_ | refine HpP.force ?_); conv => whnf)
       refine round_walk pok ?_
       conv => whnf
       repeat' first | ((first | refine LookP.mk _ (by first | rfl | exact get_rwE h_m hgm | exact get_rwE sp1 hgA) ?_ | refine ShlP.mk _ (by first | exact set_rw (x := [_, _, _, _]) h_m | (simp only [List.set, over, List.take, List.drop, List.append_eq, List.nil_append, List.cons_append, List.length]; rfl) | rfl) ?_ | refine And.intro (by first | exact ⟨Int.natCast_nonneg _, by omega⟩ | assumption | exact ⟨by kernel_rfl, rfl⟩ | decide | omega) ?_ | rw [hB1] | refine bneF hma' ?_ | refine pc_head hta ?_ | refine HpP.force ?_); conv => whnf)
       refine N_m _ ?_ ?_
       ·first | trivial | assumption | omega
       ·refine keep_env (by first | exact Nat.zero_le _ | exact Nat.le_of_ble_eq_true rfl) ?_ ?_ trivial
        ·repeat' first | exact trivial | refine ⟨⟨by first | rfl | assumption | exact congrArg (fun n => AV.d (iD n)) e_m, rfl⟩, ?_⟩
        ·repeat' first | exact trivial | refine ⟨⟨ltB rfl, _, rfl, by first | rfl | assumption | exact congrArg some (psB_congr hst2), by first | exact below1 rfl | exact below_dblk _ _ _ | exact below_arr rfl | exact trivial | exact ⟨rfl, Nat.le_of_ble_eq_true rfl⟩⟩, ?_⟩
    ·intro A_last I_last
     have hfin : ∀ j, (if j = a0 then [iD w, iD 0, iD ((2 ^ n : Nat) : Int), iD ((2 * o : Nat) : Int)] else Ps.l (prS (zP w n o) rf a0 w j)) = Ps.l (prjF rf (zP w n o) a0 R j) := fun j => by
      unfold prjF prjR prS
      by_cases h : j = a0
      ·rw [if_pos h, if_pos h]; rfl
      ·rw [if_neg h, if_neg h]
       by_cases hr : j ∈ R
       ·rw [if_pos hr, if_pos ((hRm j).1 hr)]
       ·rw [if_neg hr, if_neg fun q => hr ((hRm j).2 q)]
     have hgA : (fun j => Ps.l (prS (zP w n o) rf a0 w j)) a0 = Ps.l (rf a0) := by dsimp only; rw [prS_a0]
     generalize prS (zP w n o) rf a0 w = g at hfin hgA
     generalize prjF rf (zP w n o) a0 R = g' at hfin hcan2 ⊢
     conv => whnf
     repeat (refine LookP.mk _ rfl ?_; conv => whnf)
     intro t ht
     cases t
     rotate_left
     ·exfalso; first | (simp at ht; done) | (simp at ht; omega)
     conv => whnf
     repeat' first | ((first | refine LookP.mk _ (by first | rfl | exact get_rwE sp1 hgA | exact lendA (congrArg some (psB_congr hfin)) (by simp)) ?_ | refine ShlP.mk _ (by first | exact set_rw (x := [_, _, _, _]) sp1 | (simp only [List.set, over, List.take, List.drop, List.append_eq, List.nil_append, List.cons_append, List.length]; rfl) | rfl) ?_ | refine And.intro (by first | exact ⟨Int.natCast_nonneg _, by omega⟩ | assumption | exact ⟨by kernel_rfl, rfl⟩ | decide | omega) ?_ | refine spine_rd (l := [3]) (rd_call rfl rfl (show _ = some (dblk 4 ((List.range w).map fun j => Ps.l (g' j))) from congrArg some (psB_congr hfin))) ?_ | refine po_head hcan2 ?_ | rw [flOf_rows] | refine ShhP.mk _ rfl ?_ | refine HpP.force ?_); conv => whnf)
     refine fin ⟨rfl, rfl, ?_⟩
     show some (Blk.ren _ (dblk 4 _)) = _
     rw [ren_dblk]
  ·intro A_last I_last
   exact (hno I_last).elim
 ·rintro v H m ⟨rfl, h2, h3⟩
  refine ⟨.d (.tup [iD 1, iD 0]), [(2, some (wkF w 12 F)), (12, some (dblk 4 ((redRows (rowsL w (prjF rf (zP w n o) a0 R)) (2 * w)).map Ps.l)))], 13, ?_, rfl, rfl, rfl, rfl⟩
  first | refine ren_env [(2, 2), (12, 24)] ?_ ?_ ?_ trivial | refine ren_envB [(2, 2), (12, 24)] rfl rfl ?_ ?_ ?_ trivial
  ·repeat' first | exact trivial | refine ⟨⟨by first | rfl | assumption, rfl⟩, ?_⟩
  ·repeat' first | exact trivial | refine ⟨⟨ltB rfl, _, rfl, by first | rfl | assumption | exact get_ren rfl (by first | rfl | assumption | exact h2 | exact get_ren rfl h3 | exact get_ren rfl h2) | exact h2 | exact get_ren rfl h3 | exact get_ren rfl h2, by first | exact below1 rfl | exact below_dblk _ _ _ | exact below_arr rfl⟩, ?_⟩
  ·repeat' first | exact trivial | (refine And.intro ?_ ?_) | (exact fun _ => rfl) | (exact fun h => absurd h (Nat.ne_of_beq_eq_false rfl))
end Go.Tz
namespace Go.Tz
open Go Go.AL Go.Proofs Go.Ma
abbrev mK (w : Nat) (F : FuncId) (v : AV) (nm : Nat) (R : List Ps) : AV → AHeap → Nat → Prop := fun v' H n' => v' = v ∧ H.get 2 = some (wkF w nm F) ∧ H.get nm = some (dblk 4 (R.map Ps.l)) ∧ n' = 13
abbrev mA (w : Nat) (F : FuncId) (L : List Ps) : AHeap := [(2, some (wkF w 3 F)), (3, some (dblk 4 (L.map Ps.l)))]
abbrev rV (n e : Int) : AV := .d (.tup [iD n, iD e])
theorem measure136s {w n o : Nat} {L : List Ps} (hs : SOk w L) (hn : n < w) (ho : o ≤ 1) (F : FuncId) {e r : Int} (he : expP L (zP w n o) = e) (h : (e = 1 ∧ r = 0) ∨ (e = -1 ∧ r = 6)) :
  ACall Pr GG 136 [.ptr 2 3 0 0, .d (iD n), .d (iD o)] (mA w F L) 12 (mK w F (rV 0 r) 3 L) := by
 have hlen := hs.len
 have hhi := hs.hi
 have hpv := zP_vl hn ho
 have hx := expected107 hs true hpv
 rw [he] at hx
 have hsh : ishl .i64 1 (n : Int) = ((2 ^ n : Nat) : Int) := pow_nat (by omega)
 have him : imul .i64 2 (o : Int) = ((2 * o : Nat) : Int) := imul_nat (a := 2) (by omega)
 have hx2 : PC Pr GG 107 [.agg [iD w, .sl (L.map Ps.l) true], (zP w n o).d] (iD e) := hx
 clear he hx
 rcases h with ⟨rfl, rfl⟩ | ⟨rfl, rfl⟩
 ·refine acall_sub (fn_walk pok Tryz.func136 chk136 (K := fun v H m => v = rV 0 0 ∧ H.get 2 = some (wkF w 3 F) ∧ H.get 3 = some (dblk 4 (L.map Ps.l))) ?_) ?_
  ·conv => whnf
   repeat' first | ((first | refine LookP.mk _ (by first | rfl | exact lendW rfl (by rw [List.length_map, hlen])) ?_ | refine ShlP.mk _ (by first | (simp only [List.set, over, List.take, List.drop, List.append_eq, List.nil_append, List.cons_append, List.length]; rfl) | rfl) ?_ | refine And.intro (by first | assumption | exact ⟨by kernel_rfl, rfl⟩ | decide | omega) ?_ | rw [hsh] | rw [him] | refine spine_rd (l := [3]) (rd_call rfl rfl (show _ = some (dblk 4 (L.map Ps.l)) from rfl)) ?_ | refine pc_head hx2 ?_ | refine beqT1 ?_ | refine HpP.force ?_); conv => whnf)
   exact fin ⟨rfl, rfl, rfl⟩
  ·rintro v H m ⟨rfl, h2, h3⟩
   refine ⟨rV 0 0, mA w F L, 13, ?_, rfl, rfl, rfl, rfl⟩
   first | refine ren_env [(2, 2), (3, 3)] ?_ ?_ ?_ trivial | refine ren_envB [(2, 2), (3, 3)] rfl rfl ?_ ?_ ?_ trivial
   ·repeat' first | exact trivial | refine ⟨⟨by first | rfl | assumption, rfl⟩, ?_⟩
   ·repeat' first | exact trivial | refine ⟨⟨ltB rfl, _, rfl, by first | rfl | assumption | exact get_ren rfl (by first | rfl | assumption | exact get_ren rfl h3 | exact get_ren rfl h2) | exact get_ren rfl h3 | exact get_ren rfl h2, by first | exact below1 rfl | exact below_dblk _ _ _ | exact below_arr rfl⟩, ?_⟩
   ·repeat' first | exact trivial | (refine And.intro ?_ ?_) | (exact fun _ => rfl) | (exact fun h => absurd h (Nat.ne_of_beq_eq_false rfl))
 ·refine acall_sub (fn_walk pok Tryz.func136 chk136 (K := fun v H m => v = rV 0 6 ∧ H.get 2 = some (wkF w 3 F) ∧ H.get 3 = some (dblk 4 (L.map Ps.l))) ?_) ?_
  ·conv => whnf
   repeat' first | ((first | refine LookP.mk _ (by first | rfl | exact lendW rfl (by rw [List.length_map, hlen])) ?_ | refine ShlP.mk _ (by first | (simp only [List.set, over, List.take, List.drop, List.append_eq, List.nil_append, List.cons_append, List.length]; rfl) | rfl) ?_ | refine And.intro (by first | assumption | exact ⟨by kernel_rfl, rfl⟩ | decide | omega) ?_ | rw [hsh] | rw [him] | refine spine_rd (l := [3]) (rd_call rfl rfl (show _ = some (dblk 4 (L.map Ps.l)) from rfl)) ?_ | refine pc_head hx2 ?_ | refine beqT1 ?_ | refine beqF1 rfl ?_ | refine HpP.force ?_); conv => whnf)
   exact fin ⟨rfl, rfl, rfl⟩
  ·rintro v H m ⟨rfl, h2, h3⟩
   refine ⟨rV 0 6, mA w F L, 13, ?_, rfl, rfl, rfl, rfl⟩
   first | refine ren_env [(2, 2), (3, 3)] ?_ ?_ ?_ trivial | refine ren_envB [(2, 2), (3, 3)] rfl rfl ?_ ?_ ?_ trivial
   ·repeat' first | exact trivial | refine ⟨⟨by first | rfl | assumption, rfl⟩, ?_⟩
   ·repeat' first | exact trivial | refine ⟨⟨ltB rfl, _, rfl, by first | rfl | assumption | exact get_ren rfl (by first | rfl | assumption | exact get_ren rfl h3 | exact get_ren rfl h2) | exact get_ren rfl h3 | exact get_ren rfl h2, by first | exact below1 rfl | exact below_dblk _ _ _ | exact below_arr rfl⟩, ?_⟩
   ·repeat' first | exact trivial | (refine And.intro ?_ ?_) | (exact fun _ => rfl) | (exact fun h => absurd h (Nat.ne_of_beq_eq_false rfl))
theorem measure136f {w n o : Nat} {L : List Ps} (hs : SOk w L) (hn : n < w) (ho : o ≤ 1) (F : FuncId) {a0 : Nat} {R : List Nat} (he : expP L (zP w n o) = 0) (hA : antL (zP w n o) (fun j => L.getD j Ps.z0) w = a0 :: R) :
  ACall Pr GG 136 [.ptr 2 3 0 0, .d (iD n), .d (iD o)] (mA w F L) 12 (mK w F (rV 1 0) 12 (redRows (rowsL w (prjF (fun j => L.getD j Ps.z0) (zP w n o) a0 R)) (2 * w))) := by
 have hlen := hs.len
 have hpv := zP_vl hn ho
 have hx := expected107 hs true hpv
 rw [he] at hx
 have hvl : ∀ j, j < w → Vl w (L.getD j Ps.z0) := fun j hj => by
  rw [List.getD_eq_getElem?_getD, List.getElem?_eq_getElem (by rw [hlen]; exact hj), Option.getD_some]
  exact hs.vl _ (List.getElem_mem _)
 have hLm : L.map Ps.l = (List.range w).map fun j => Ps.l ((fun j => L.getD j Ps.z0) j) := by
  have := rowsL_get L hlen
  conv => lhs; rw [← this]
  unfold rowsL; rw [List.map_map]; rfl
 have hx2 : PC Pr GG 107 [.agg [iD w, .sl (L.map Ps.l) true], (zP w n o).d] (iD 0) := hx
 unfold mA
 rw [hLm] at hx2 ⊢
 exact measure136c ⟨hs.lo, hs.hi⟩ hn ho F hpv hvl hA hx2
structure WC (f : FuncId) (args : List AV) (w : Nat) (F : FuncId) (L : List Ps) (v : AV) (nm : Nat) (R : List Ps) : Prop where
 fn : IsFn Pr f
 call : ACall Pr GG f args (mA w F L) 12 (mK w F v nm R)
theorem work_call {f : FuncId} {args : List AV} {w nm nx : Nat} {F : FuncId} {L R : List Ps} {v : AV} {H : AHeap} {k : AV → AHeap → Nat → Prop} (h : WC f args w F L v nm R) (hn : nx ≤ 12)
  (h2 : H.get 2 = some (wkF w 3 F)) (h3 : H.get 3 = some (dblk 4 (L.map Ps.l))) (hk : k v ((2, some (wkF w nm F)) :: (nm, some (dblk 4 (R.map Ps.l))) :: AHeap.del H 3) 13) : CallVC Pr GG f args H nx k := by
 refine ⟨h.fn, acall_frame h.call hn (fun m b hg => ?_) ?_⟩
 ·rw [get_consI, get_consI] at hg
  by_cases e2 : m = 2
  ·rw [if_pos e2] at hg; rw [e2, h2, hg]
  ·rw [if_neg e2] at hg
   by_cases e3 : m = 3
   ·rw [if_pos e3] at hg; rw [e3, h3, hg]
   ·rw [if_neg e3] at hg; cases hg
 ·rintro v' H1 n' ⟨rfl, g2, g3, rfl⟩
  refine ⟨_, fun m b hg => ?_, hk⟩
  rw [get_consI, get_consI] at hg
  by_cases e2 : m = 2
  ·rw [if_pos e2] at hg; exact .inl (by rw [e2, g2, hg])
  ·rw [if_neg e2] at hg
   by_cases e3 : m = nm
   ·rw [if_pos e3] at hg; exact .inl (by rw [e3, g3, hg])
   ·rw [if_neg e3, get_del] at hg
    by_cases e4 : m = 3
    ·rw [if_pos e4] at hg; cases hg
    ·rw [if_neg e4] at hg
     refine .inr ⟨?_, hg⟩
     rw [get_consI, get_consI, if_neg e2, if_neg e4]; rfl
theorem asD_agg4 {H : AHeap} {v1 v2 v3 v4 : AV} {d1 d2 d3 d4 : D} (h1 : AsD H v1 d1) (h2 : AsD H v2 d2) (h3 : AsD H v3 d3) (h4 : AsD H v4 d4) : AsD H (.agg [v1, v2, v3, v4]) (.agg [d1, d2, d3, d4]) := by
 refine .agg _ _ rfl fun j v d hv hd => ?_
 match j, hv, hd with
 | 0, hv, hd => simp at hv hd; subst hv hd; exact h1
 | 1, hv, hd => simp at hv hd; subst hv hd; exact h2
 | 2, hv, hd => simp at hv hd; subst hv hd; exact h3
 | 3, hv, hd => simp at hv hd; subst hv hd; exact h4
 | j + 4, hv, _ => simp at hv
theorem po_giveS3 {f : FuncId} {a c b i x : D} {nm sz N m : Nat} {t : Bool} {es : List (List D)} {v : AV} {M : AHeap} {n : Nat} {H : AHeap} {nx : Nat} {k : AV → AHeap → Nat → Prop} (h : PO Pr GG f [.agg [a, .sl es t], .agg [c, .sl [[x]] true, b, i]] v M n) (hg : H.get nm = some (dblk sz es)) (hm : H.get m = some (.arr 1 [[.d x]])) (hne : nm ≠ m) (hN : N = es.length)
  (hk : k (v.ren (· + nx)) (M.shift nx ++ dels [nm, m] H) (nx + n)) : CallVC Pr GG f [.agg [.d a, .sl nm sz 0 N N t], .agg [.d c, .sl m 1 0 1 1 true, .d b, .d i]] H nx k := by
 have g1 : AHeap.get [(nm, some (dblk sz es)), (m, some (dblk 1 [[x]]))] nm = some (dblk sz es) := get_cons_same _ _ _
 have g2 : AHeap.get [(nm, some (dblk sz es)), (m, some (dblk 1 [[x]]))] m = some (dblk 1 [[x]]) := by rw [get_cons_ne _ _ (Ne.symm hne), get_cons_same]
 refine ⟨h.fn, acall_give (HL := [(nm, some (dblk sz es)), (m, some (dblk 1 [[x]]))]) (L := [nm, m]) (acall_data h.call ?_) rfl (fun q bl hq => ?_) (fun j u d h1 h2 => ?_)⟩
 ·rintro v' N' m' ⟨rfl, rfl, rfl⟩
  exact hk
 ·rw [get_consI, get_consI] at hq
  by_cases e1 : q = nm
  ·rw [if_pos e1] at hq; exact ⟨by simp [e1], by rw [e1, hg, hq]⟩
  ·rw [if_neg e1] at hq
   by_cases e2 : q = m
   ·rw [if_pos e2] at hq; refine ⟨by simp [e2], ?_⟩; rw [e2, hm, ← hq]; rfl
   ·rw [if_neg e2] at hq; cases hq
 ·match j, h1, h2 with
  | 0, h1, h2 =>
   simp at h1 h2; subst h1 h2
   exact asD_agg2 (.d _) (asD_own g1 hN)
  | 1, h1, h2 =>
   simp at h1 h2; subst h1 h2
   exact asD_agg4 (.d _) (asD_own g2 rfl) (.d _) (.d _)
  | j + 2, h1, _ => simp at h1
def xG (n : Nat) : Gt := ⟨1, [(n : Int)], true, 0, 0⟩
theorem xG_ok {w n : Nat} (hn : n < w) : gchk (xG n) w 0 = 0 ∧ kindB (xG n).k = true := by
 refine ⟨?_, rfl⟩
 unfold gchk xG
 simp only
 rw [if_neg (by decide), if_neg (by simp [arI]), if_neg ?_, if_neg ?_]
 ·rfl
 ·simp [dupB, dupAt]
 ·rw [out_no]
  ·simp
  ·intro m hm
   rw [List.mem_singleton.1 hm]; omega
end Go.Tz
namespace Go.Tz
open Go Go.AL Go.Proofs Go.Ma
theorem chk137 : chkFn Tryz.f137 = true := by kernel_rfl
theorem reset137n {w n o : Nat} {L M : List Ps} {F : FuncId} {nm : Nat} {c x : Int} (hM : WC 136 [.ptr 2 3 0 0, .d (iD n), .d (iD o)] w F L (rV c x) nm M) (hnm : nm = 3 ∨ nm = 12) (h : (x = 6) ∨ (x = 0 ∧ o = 0)) :
  WC 137 [.ptr 2 3 0 0, .d (iD n), .d (iD o)] w F L (rV c x) nm M := by
 refine ⟨isFn_of Tryz.func137 chk137, ?_⟩
 rcases hnm with rfl | rfl
 ·refine acall_sub (fn_walk pok Tryz.func137 chk137 (K := fun v H m => v = rV c x ∧ H.get 2 = some (wkF w 3 F) ∧ H.get 3 = some (dblk 4 (M.map Ps.l))) ?_) ?_
  ·conv => whnf
   rcases h with rfl | ⟨rfl, rfl⟩
   all_goals
    repeat' first | ((first | refine work_call hM (Nat.le_refl 12) rfl rfl ?_ | refine beqT1 ?_ | refine beqF1 rfl ?_); conv => whnf)
    exact fin ⟨rfl, rfl, rfl⟩
  ·rintro v H m ⟨rfl, h2, h3⟩
   refine ⟨rV c x, mA w F M, 13, ?_, rfl, rfl, rfl, rfl⟩
   first | refine ren_env [(2, 2), (3, 3)] ?_ ?_ ?_ trivial | refine ren_envB [(2, 2), (3, 3)] rfl rfl ?_ ?_ ?_ trivial
   ·repeat' first | exact trivial | refine ⟨⟨by first | rfl | assumption, rfl⟩, ?_⟩
   ·repeat' first | exact trivial | refine ⟨⟨ltB rfl, _, rfl, by first | rfl | assumption | exact get_ren rfl (by first | rfl | assumption | exact get_ren rfl h3 | exact get_ren rfl h2) | exact get_ren rfl h3 | exact get_ren rfl h2, by first | exact below1 rfl | exact below_dblk _ _ _ | exact below_arr rfl⟩, ?_⟩
   ·repeat' first | exact trivial | (refine And.intro ?_ ?_) | (exact fun _ => rfl) | (exact fun h => absurd h (Nat.ne_of_beq_eq_false rfl))
 ·refine acall_sub (fn_walk pok Tryz.func137 chk137 (K := fun v H m => v = rV c x ∧ H.get 2 = some (wkF w 12 F) ∧ H.get 12 = some (dblk 4 (M.map Ps.l))) ?_) ?_
  ·conv => whnf
   rcases h with rfl | ⟨rfl, rfl⟩
   all_goals
    repeat' first | ((first | refine work_call hM (Nat.le_refl 12) rfl rfl ?_ | refine beqT1 ?_ | refine beqF1 rfl ?_); conv => whnf)
    exact fin ⟨rfl, rfl, rfl⟩
  ·rintro v H m ⟨rfl, h2, h3⟩
   refine ⟨rV c x, [(2, some (wkF w 12 F)), (12, some (dblk 4 (M.map Ps.l)))], 13, ?_, rfl, rfl, rfl, rfl⟩
   first | refine ren_env [(2, 2), (12, 12)] ?_ ?_ ?_ trivial | refine ren_envB [(2, 2), (12, 12)] rfl rfl ?_ ?_ ?_ trivial
   ·repeat' first | exact trivial | refine ⟨⟨by first | rfl | assumption, rfl⟩, ?_⟩
   ·repeat' first | exact trivial | refine ⟨⟨ltB rfl, _, rfl, by first | rfl | assumption | exact get_ren rfl (by first | rfl | assumption | exact get_ren rfl h3 | exact get_ren rfl h2) | exact get_ren rfl h3 | exact get_ren rfl h2, by first | exact below1 rfl | exact below_dblk _ _ _ | exact below_arr rfl⟩, ?_⟩
   ·repeat' first | exact trivial | (refine And.intro ?_ ?_) | (exact fun _ => rfl) | (exact fun h => absurd h (Nat.ne_of_beq_eq_false rfl))
theorem reset137x {w n : Nat} {L M : List Ps} {F : FuncId} {nm : Nat} {c : Int} (hw : 1 ≤ w ∧ w ≤ 12) (hn : n < w) (hM : WC 136 [.ptr 2 3 0 0, .d (iD n), .d (iD 1)] w F L (rV c 0) nm M) (hnm : nm = 3 ∨ nm = 12) (hlen : M.length = w) (hv : ∀ q, q ∈ M → Vl w q) :
  WC 137 [.ptr 2 3 0 0, .d (iD n), .d (iD 1)] w F L (rV c 0) 12 (appG w (xG n) M) := by
 refine ⟨isFn_of Tryz.func137 chk137, ?_⟩
 have ha := applied125 (G := GG) hw (i := 0) (xG_ok hn).1 (xG_ok hn).2 M true (by omega) hv
 have e : appG w ⟨1, [(n : Int)], true, 0, 0⟩ M = appG w (xG n) M := rfl
 have ha : PO Pr GG 125 [.agg [iD w, .sl (M.map Ps.l) true], .agg [iD 1, .sl [[iD n]] true, iD 0, iD 0]] (.agg [.d (iD w), .sl 0 4 0 w w true]) [(0, some (dblk 4 ((appG w (xG n) M).map Ps.l)))] 1 := by
  rw [hlen] at ha
  exact ha
 have hml : w = (M.map Ps.l).length := by rw [List.length_map, hlen]
 generalize appG w (xG n) M = Q at ha ⊢
 rcases hnm with rfl | rfl
 ·refine acall_sub (fn_walk pok Tryz.func137 chk137 (K := fun v H m => v = rV c 0 ∧ H.get 2 = some (wkF w 14 F) ∧ H.get 14 = some (dblk 4 (Q.map Ps.l))) ?_) ?_
  ·conv => whnf
   repeat' first | ((first | refine LookP.mk _ rfl ?_ | refine ShlP.mk _ (by first | (simp only [List.set, over, List.take, List.drop, List.append_eq, List.nil_append, List.cons_append, List.length]; rfl) | rfl) ?_ | refine work_call hM (Nat.le_refl 12) rfl rfl ?_ | refine beqT1 ?_ | refine po_giveS3 ha rfl rfl (by decide) hml ?_ | refine HpP.force ?_); conv => whnf)
   refine fin ⟨rfl, rfl, ?_⟩
   show some (Blk.ren _ (dblk 4 _)) = _
   rw [ren_dblk]
  ·rintro v H m ⟨rfl, h2, h3⟩
   refine ⟨rV c 0, [(2, some (wkF w 12 F)), (12, some (dblk 4 (Q.map Ps.l)))], 13, ?_, rfl, rfl, rfl, rfl⟩
   first | refine ren_env [(2, 2), (12, 14)] ?_ ?_ ?_ trivial | refine ren_envB [(2, 2), (12, 14)] rfl rfl ?_ ?_ ?_ trivial
   ·repeat' first | exact trivial | refine ⟨⟨by first | rfl | assumption, rfl⟩, ?_⟩
   ·repeat' first | exact trivial | refine ⟨⟨ltB rfl, _, rfl, by first | rfl | assumption | exact get_ren rfl (by first | rfl | assumption | exact get_ren rfl h3 | exact get_ren rfl h2 | exact h2) | exact get_ren rfl h3 | exact get_ren rfl h2 | exact h2, by first | exact below1 rfl | exact below_dblk _ _ _ | exact below_arr rfl⟩, ?_⟩
   ·repeat' first | exact trivial | (refine And.intro ?_ ?_) | (exact fun _ => rfl) | (exact fun h => absurd h (Nat.ne_of_beq_eq_false rfl))
 ·refine acall_sub (fn_walk pok Tryz.func137 chk137 (K := fun v H m => v = rV c 0 ∧ H.get 2 = some (wkF w 14 F) ∧ H.get 14 = some (dblk 4 (Q.map Ps.l))) ?_) ?_
  ·conv => whnf
   repeat' first | ((first | refine LookP.mk _ rfl ?_ | refine ShlP.mk _ (by first | (simp only [List.set, over, List.take, List.drop, List.append_eq, List.nil_append, List.cons_append, List.length]; rfl) | rfl) ?_ | refine work_call hM (Nat.le_refl 12) rfl rfl ?_ | refine beqT1 ?_ | refine po_giveS3 ha rfl rfl (by decide) hml ?_ | refine HpP.force ?_); conv => whnf)
   refine fin ⟨rfl, rfl, ?_⟩
   show some (Blk.ren _ (dblk 4 _)) = _
   rw [ren_dblk]
  ·rintro v H m ⟨rfl, h2, h3⟩
   refine ⟨rV c 0, [(2, some (wkF w 12 F)), (12, some (dblk 4 (Q.map Ps.l)))], 13, ?_, rfl, rfl, rfl, rfl⟩
   first | refine ren_env [(2, 2), (12, 14)] ?_ ?_ ?_ trivial | refine ren_envB [(2, 2), (12, 14)] rfl rfl ?_ ?_ ?_ trivial
   ·repeat' first | exact trivial | refine ⟨⟨by first | rfl | assumption, rfl⟩, ?_⟩
   ·repeat' first | exact trivial | refine ⟨⟨ltB rfl, _, rfl, by first | rfl | assumption | exact get_ren rfl (by first | rfl | assumption | exact get_ren rfl h3 | exact get_ren rfl h2 | exact h2) | exact get_ren rfl h3 | exact get_ren rfl h2 | exact h2, by first | exact below1 rfl | exact below_dblk _ _ _ | exact below_arr rfl⟩, ?_⟩
   ·repeat' first | exact trivial | (refine And.intro ?_ ?_) | (exact fun _ => rfl) | (exact fun h => absurd h (Nat.ne_of_beq_eq_false rfl))
end Go.Tz
namespace Go.Tz
open Go Go.AL Go.Proofs Go.Ma
abbrev wA (n o : Nat) : List AV := [.ptr 2 3 0 0, .d (iD n), .d (iD o)]
theorem meas {w n o : Nat} {l r : List Ps} (h : SOk w l) (h' : SOk w r) (hg : SameG (r.map nf) (l.map nf)) (hn : n < w) (ho : o ≤ 1) (F : FuncId) :
  (expR w l (zP w n o) = 1 ∧ WC 136 (wA n o) w F r (rV 0 0) 3 r) ∨ (expR w l (zP w n o) = -1 ∧ WC 136 (wA n o) w F r (rV 0 6) 3 r) ∨
  (expR w l (zP w n o) = 0 ∧ SOk w (prjL (zP w n o) l) ∧ WC 136 (wA n o) w F r (rV 1 0) 12 (redRows (prjL (zP w n o) l) (2 * w))) := by
 have hpv := zP_vl hn ho
 have hok := zP_ok h.hi hn ho
 obtain ⟨e1, e2⟩ := mea_gen h h' hg hpv hok
 have hf := isFn_of Tryz.func136 chk136
 rcases expOk_cases (expR_ok h hpv hok) with ⟨a, _⟩ | ⟨a, _⟩ | ⟨a, _⟩
 ·exact .inl ⟨a, hf, measure136s h' hn ho F (e1.trans a) (.inl ⟨rfl, rfl⟩)⟩
 ·exact .inr (.inl ⟨a, hf, measure136s h' hn ho F (e1.trans a) (.inr ⟨rfl, rfl⟩)⟩)
 ·obtain ⟨b, a0, R, hA, _, hR⟩ := e2 a
  refine .inr (.inr ⟨a, b, hf, ?_⟩)
  rw [← hR]
  exact measure136f h' hn ho F (e1.trans a) hA
theorem rese {w n o : Nat} {l r : List Ps} (h : SOk w l) (h' : SOk w r) (hg : SameG (r.map nf) (l.map nf)) (hn : n < w) (ho : o ≤ 1) (F : FuncId) :
  (expR w l (zP w n o) = 1 ∧ ∃ nm, (nm = 3 ∨ nm = 12) ∧ WC 137 (wA n o) w F r (rV 0 0) nm (if o = 1 then appG w (xG n) r else r)) ∨ (expR w l (zP w n o) = -1 ∧ WC 137 (wA n o) w F r (rV 0 6) 3 r) ∨
  (expR w l (zP w n o) = 0 ∧ SOk w (prjL (zP w n o) l) ∧ WC 137 (wA n o) w F r (rV 1 0) 12 (if o = 1 then appG w (xG n) (redRows (prjL (zP w n o) l) (2 * w)) else redRows (prjL (zP w n o) l) (2 * w))) := by
 have hw : 1 ≤ w ∧ w ≤ 12 := ⟨h.lo, h.hi⟩
 have h01 : o = 0 ∨ o = 1 := by omega
 rcases meas h h' hg hn ho F with ⟨a, b⟩ | ⟨a, b⟩ | ⟨a, s, b⟩
 ·refine .inl ⟨a, ?_⟩
  rcases h01 with rfl | rfl
  ·exact ⟨3, .inl rfl, reset137n b (.inl rfl) (.inr ⟨rfl, rfl⟩)⟩
  ·exact ⟨12, .inr rfl, reset137x hw hn b (.inl rfl) h'.len h'.vl⟩
 ·exact .inr (.inl ⟨a, reset137n b (.inl rfl) (.inl rfl)⟩)
 ·refine .inr (.inr ⟨a, s, ?_⟩)
  have hS := (redRows_ok s).1
  rcases h01 with rfl | rfl
  ·exact reset137n b (.inr rfl) (.inr ⟨rfl, rfl⟩)
  ·exact reset137x hw hn b (.inr rfl) hS.len hS.vl
theorem chk128 : chkFn Tryz.f128 = true := by kernel_rfl
abbrev own3 (w : Nat) (c : Int) : AV := .tup [.agg [.d (iD w), .sl 0 4 0 w w true], .d (iD c), .d (iD 0)]
theorem found_ok {w n o : Nat} {l R : List Ps} (t : Bool) (hs : SOk w l) (hn : n < w) (ho : o ≤ 1) {f : FuncId} {rs : Bool} (hf : (f = 136 ∧ rs = false) ∨ (f = 137 ∧ rs = true)) {c : Int} {nm : Nat} (hnm : nm = 3 ∨ nm = 12)
  (hM : WC f (wA n o) w f (redRows l (2 * w)) (rV c 0) nm R) : PO Pr GG 128 [stD w l t, iD n, iD o, .bool rs] (own3 w c) [(0, some (dblk 4 (R.map Ps.l)))] 1 := by
 have c1 := check36 w l t (sok_len hs)
 rw [ok_chk hs] at c1
 have c2 := opened95 (G := GG) ⟨hs.lo, hs.hi⟩ l t (sok_len hs) hs.vl
 rw [hs.len] at c2
 generalize redRows l (2 * w) = L at c2 hM
 refine ⟨isFn_of Tryz.func128 chk128, acall_sub (K := fun v H _ => v = .tup [.agg [.d (iD w), .sl nm 4 0 w w true], .d (iD c), .d (iD 0)] ∧ H.get nm = some (dblk 4 (R.map Ps.l))) (fn_walk pok Tryz.func128 chk128 ?_) ?_⟩
 ·conv => whnf
  rcases hf with ⟨rfl, rfl⟩ | ⟨rfl, rfl⟩ <;> rcases hnm with rfl | rfl
  all_goals
   repeat' first | ((first | refine LookP.mk _ rfl ?_ | refine ShlP.mk _ (by first | (simp only [List.set, over, List.take, List.drop, List.append_eq, List.nil_append, List.cons_append, List.length]; rfl) | rfl) ?_ | refine bneT ?_ | refine pc_use c1 ?_ | refine po_use c2 ?_ | refine work_call hM (by decide) rfl (show some (Blk.ren _ (dblk 4 (L.map Ps.l))) = _ from by rw [ren_dblk]) ?_ | refine HpP.force ?_); conv => whnf) | (intro t ht; cases t <;> conv => whnf)
   all_goals first | exact fin ⟨rfl, rfl⟩ | (exfalso; simp at ht; done) | (exfalso; simp at ht; omega)
 ·rintro v H n ⟨rfl, h2⟩
  refine ⟨_, _, 1, ?_, rfl, rfl, rfl⟩
  rcases hnm with rfl | rfl
  ·first | refine ren_env [(0, 3)] ?_ ?_ ?_ trivial | refine ren_envB [(0, 3)] rfl rfl ?_ ?_ ?_ trivial
   ·repeat' first | exact trivial | refine ⟨⟨by first | rfl | assumption, rfl⟩, ?_⟩
   ·repeat' first | exact trivial | refine ⟨⟨ltB rfl, _, rfl, by first | rfl | assumption | exact get_ren rfl (by first | rfl | assumption | exact get_ren rfl h2) | exact get_ren rfl h2, by first | exact below1 rfl | exact below_dblk _ _ _ | exact below_arr rfl⟩, ?_⟩
   ·repeat' first | exact trivial | (refine And.intro ?_ ?_) | (exact fun _ => rfl) | (exact fun h => absurd h (Nat.ne_of_beq_eq_false rfl))
  ·first | refine ren_env [(0, 12)] ?_ ?_ ?_ trivial | refine ren_envB [(0, 12)] rfl rfl ?_ ?_ ?_ trivial
   ·repeat' first | exact trivial | refine ⟨⟨by first | rfl | assumption, rfl⟩, ?_⟩
   ·repeat' first | exact trivial | refine ⟨⟨ltB rfl, _, rfl, by first | rfl | assumption | exact get_ren rfl (by first | rfl | assumption | exact get_ren rfl h2) | exact get_ren rfl h2, by first | exact below1 rfl | exact below_dblk _ _ _ | exact below_arr rfl⟩, ?_⟩
   ·repeat' first | exact trivial | (refine And.intro ?_ ?_) | (exact fun _ => rfl) | (exact fun h => absurd h (Nat.ne_of_beq_eq_false rfl))
end Go.Tz
namespace Go.Tz
open Go Go.AL Go.Proofs Go.Ma
abbrev no3 (e : Int) : D := .tup [stD 0 [] true, iD 0, iD e]
theorem found_none {w n o : Nat} {l R : List Ps} (t : Bool) (hs : SOk w l) (hn : n < w) (ho : o ≤ 1) {f : FuncId} {rs : Bool} (hf : (f = 136 ∧ rs = false) ∨ (f = 137 ∧ rs = true))
  (hM : WC f (wA n o) w f (redRows l (2 * w)) (rV 0 6) 3 R) : PC Pr GG 128 [stD w l t, iD n, iD o, .bool rs] (no3 6) := by
 have c1 := check36 w l t (sok_len hs)
 rw [ok_chk hs] at c1
 have c2 := opened95 (G := GG) ⟨hs.lo, hs.hi⟩ l t (sok_len hs) hs.vl
 rw [hs.len] at c2
 generalize redRows l (2 * w) = L at c2 hM
 rcases hf with ⟨rfl, rfl⟩ | ⟨rfl, rfl⟩
 all_goals
  refine pc_walk pok Tryz.func128 chk128 ?_
  conv => whnf
  repeat' first | ((first | refine LookP.mk _ rfl ?_ | refine ShlP.mk _ (by first | (simp only [List.set, over, List.take, List.drop, List.append_eq, List.nil_append, List.cons_append, List.length]; rfl) | rfl) ?_ | refine bneT ?_ | refine pc_use c1 ?_ | refine po_use c2 ?_ | refine work_call hM (by decide) rfl (show some (Blk.ren _ (dblk 4 (L.map Ps.l))) = _ from by rw [ren_dblk]) ?_ | refine HpP.force ?_); conv => whnf) | (intro t ht; cases t <;> conv => whnf)
  all_goals first | exact fin rfl | (exfalso; simp at ht; done) | (exfalso; simp at ht; omega)
theorem chk56 : chkFn Tryz.f56 = true := by kernel_rfl
theorem chk57 : chkFn Tryz.f57 = true := by kernel_rfl
theorem measure56 {w : Nat} {n o : Int} {l R : List Ps} {t : Bool} {c : Int} (h : PO Pr GG 128 [stD w l t, iD n, iD o, .bool false] (own3 w c) [(0, some (dblk 4 (R.map Ps.l)))] 1) : PO Pr GG 56 [stD w l t, iD n, iD o] (own3 w c) [(0, some (dblk 4 (R.map Ps.l)))] 1 := by
 refine ⟨isFn_of Tryz.func56 chk56, acall_sub (K := fun v H _ => v = .tup [.agg [.d (iD w), .sl 2 4 0 w w true], .d (iD c), .d (iD 0)] ∧ H.get 2 = some (dblk 4 (R.map Ps.l))) (fn_walk pok Tryz.func56 chk56 ?_) ?_⟩
 ·conv => whnf
  repeat' first | ((first | refine LookP.mk _ rfl ?_ | refine ShlP.mk _ (by first | (simp only [List.set, over, List.take, List.drop, List.append_eq, List.nil_append, List.cons_append, List.length]; rfl) | rfl) ?_ | refine po_use h ?_ | refine HpP.force ?_); conv => whnf)
  refine fin ⟨rfl, ?_⟩
  show some (Blk.ren _ (dblk 4 _)) = _
  rw [ren_dblk]
 ·rintro v H n ⟨rfl, h2⟩
  refine ⟨_, _, 1, ?_, rfl, rfl, rfl⟩
  first | refine ren_env [(0, 2)] ?_ ?_ ?_ trivial | refine ren_envB [(0, 2)] rfl rfl ?_ ?_ ?_ trivial
  ·repeat' first | exact trivial | refine ⟨⟨by first | rfl | assumption, rfl⟩, ?_⟩
  ·repeat' first | exact trivial | refine ⟨⟨ltB rfl, _, rfl, by first | rfl | assumption | exact get_ren rfl (by first | rfl | assumption | exact get_ren rfl h2) | exact get_ren rfl h2, by first | exact below1 rfl | exact below_dblk _ _ _ | exact below_arr rfl⟩, ?_⟩
  ·repeat' first | exact trivial | (refine And.intro ?_ ?_) | (exact fun _ => rfl) | (exact fun h => absurd h (Nat.ne_of_beq_eq_false rfl))
theorem reset57 {w : Nat} {n o : Int} {l R : List Ps} {t : Bool} {c : Int} (h : PO Pr GG 128 [stD w l t, iD n, iD o, .bool true] (own3 w c) [(0, some (dblk 4 (R.map Ps.l)))] 1) : PO Pr GG 57 [stD w l t, iD n, iD o] (own3 w c) [(0, some (dblk 4 (R.map Ps.l)))] 1 := by
 refine ⟨isFn_of Tryz.func57 chk57, acall_sub (K := fun v H _ => v = .tup [.agg [.d (iD w), .sl 2 4 0 w w true], .d (iD c), .d (iD 0)] ∧ H.get 2 = some (dblk 4 (R.map Ps.l))) (fn_walk pok Tryz.func57 chk57 ?_) ?_⟩
 ·conv => whnf
  repeat' first | ((first | refine LookP.mk _ rfl ?_ | refine ShlP.mk _ (by first | (simp only [List.set, over, List.take, List.drop, List.append_eq, List.nil_append, List.cons_append, List.length]; rfl) | rfl) ?_ | refine po_use h ?_ | refine HpP.force ?_); conv => whnf)
  refine fin ⟨rfl, ?_⟩
  show some (Blk.ren _ (dblk 4 _)) = _
  rw [ren_dblk]
 ·rintro v H n ⟨rfl, h2⟩
  refine ⟨_, _, 1, ?_, rfl, rfl, rfl⟩
  first | refine ren_env [(0, 2)] ?_ ?_ ?_ trivial | refine ren_envB [(0, 2)] rfl rfl ?_ ?_ ?_ trivial
  ·repeat' first | exact trivial | refine ⟨⟨by first | rfl | assumption, rfl⟩, ?_⟩
  ·repeat' first | exact trivial | refine ⟨⟨ltB rfl, _, rfl, by first | rfl | assumption | exact get_ren rfl (by first | rfl | assumption | exact get_ren rfl h2) | exact get_ren rfl h2, by first | exact below1 rfl | exact below_dblk _ _ _ | exact below_arr rfl⟩, ?_⟩
  ·repeat' first | exact trivial | (refine And.intro ?_ ?_) | (exact fun _ => rfl) | (exact fun h => absurd h (Nat.ne_of_beq_eq_false rfl))
theorem measure56e {w n o e : Int} {l : List Ps} {t : Bool} (h : PC Pr GG 128 [stD w l t, iD n, iD o, .bool false] (no3 e)) : PC Pr GG 56 [stD w l t, iD n, iD o] (no3 e) := by
 refine pc_walk pok Tryz.func56 chk56 ?_
 conv => whnf
 repeat' first | ((first | refine LookP.mk _ rfl ?_ | refine ShlP.mk _ (by first | (simp only [List.set, over, List.take, List.drop, List.append_eq, List.nil_append, List.cons_append, List.length]; rfl) | rfl) ?_ | refine pc_use h ?_ | refine HpP.force ?_); conv => whnf)
 exact fin rfl
theorem reset57e {w n o e : Int} {l : List Ps} {t : Bool} (h : PC Pr GG 128 [stD w l t, iD n, iD o, .bool true] (no3 e)) : PC Pr GG 57 [stD w l t, iD n, iD o] (no3 e) := by
 refine pc_walk pok Tryz.func57 chk57 ?_
 conv => whnf
 repeat' first | ((first | refine LookP.mk _ rfl ?_ | refine ShlP.mk _ (by first | (simp only [List.set, over, List.take, List.drop, List.append_eq, List.nil_append, List.cons_append, List.length]; rfl) | rfl) ?_ | refine pc_use h ?_ | refine HpP.force ?_); conv => whnf)
 exact fin rfl
end Go.Tz
namespace Go.Tz
open Go Go.AL Go.Proofs Go.Ma
theorem chk53 : chkFn Tryz.f53 = true := by kernel_rfl
abbrev mD (w : Int) (l : List Ps) (t : Bool) (c e : Int) : D := .tup [stD w l t, iD c, iD e]
theorem canonR {w : Nat} {l : List Ps} (hs : SOk w l) (t : Bool) : PC Pr GG 26 [stD w l t] (stD w (redRows l (2 * w)) false) := by
 have h := canon26 (G := GG) w l t w (sok_len hs) (by have := hs.len; have := hs.lo; omega) (fun q hq => vl_w (hs.vl q hq)) (by have := hs.lo; omega) (by have := hs.hi; omega)
 simpa using h
theorem measure53a {w n o : Nat} {l : List Ps} (hs : SOk w l) (hn : n < w) (ho : o ≤ 1) (t : Bool) (h : expR w l (zP w n o) = 1) : PC Pr GG 53 [stD w l t, iD n, iD o] (mD w (redRows l (2 * w)) false 0 0) := by
 have hsh : ishl .i64 1 (n : Int) = ((2 ^ n : Nat) : Int) := pow_nat (by have := hs.hi; omega)
 have him : imul .i64 2 (o : Int) = ((2 * o : Nat) : Int) := imul_nat (a := 2) (by omega)
 have hx := expect45 (G := GG) hs t (zP_vl hn ho)
 rw [h] at hx
 have hc := canonR hs t
 generalize redRows l (2 * w) = R at hc ⊢
 refine pc_walk pok Tryz.func53 chk53 ?_
 conv => whnf
 repeat' first | ((first | refine LookP.mk _ rfl ?_ | refine ShlP.mk _ (by first | (simp only [List.set, over, List.take, List.drop, List.append_eq, List.nil_append, List.cons_append, List.length]; rfl) | rfl) ?_ | refine And.intro (by first | assumption | exact ⟨by kernel_rfl, rfl⟩ | decide | omega) ?_ | rw [hsh] | rw [him] | refine beqT1 ?_ | refine pc_use hx ?_ | refine pc_use hc ?_ | refine HpP.force ?_); conv => whnf)
 exact fin rfl
theorem measure53b {w n o : Nat} {l : List Ps} (hs : SOk w l) (hn : n < w) (ho : o ≤ 1) (t : Bool) (h : expR w l (zP w n o) = -1) : PC Pr GG 53 [stD w l t, iD n, iD o] (mD 0 [] true 0 6) := by
 have hsh : ishl .i64 1 (n : Int) = ((2 ^ n : Nat) : Int) := pow_nat (by have := hs.hi; omega)
 have him : imul .i64 2 (o : Int) = ((2 * o : Nat) : Int) := imul_nat (a := 2) (by omega)
 have hx := expect45 (G := GG) hs t (zP_vl hn ho)
 rw [h] at hx
 refine pc_walk pok Tryz.func53 chk53 ?_
 conv => whnf
 repeat' first | ((first | refine LookP.mk _ rfl ?_ | refine ShlP.mk _ (by first | (simp only [List.set, over, List.take, List.drop, List.append_eq, List.nil_append, List.cons_append, List.length]; rfl) | rfl) ?_ | refine And.intro (by first | assumption | exact ⟨by kernel_rfl, rfl⟩ | decide | omega) ?_ | rw [hsh] | rw [him] | refine beqT1 ?_ | refine beqF1 rfl ?_ | refine pc_use hx ?_ | refine HpP.force ?_); conv => whnf)
 exact fin rfl
theorem measure53c {w n o : Nat} {l : List Ps} (hs : SOk w l) (hn : n < w) (ho : o ≤ 1) (t : Bool) (h : expR w l (zP w n o) = 0) (hP : SOk w (prjL (zP w n o) l)) : PC Pr GG 53 [stD w l t, iD n, iD o] (mD w (redRows (prjL (zP w n o) l) (2 * w)) false 1 0) := by
 have hsh : ishl .i64 1 (n : Int) = ((2 ^ n : Nat) : Int) := pow_nat (by have := hs.hi; omega)
 have him : imul .i64 2 (o : Int) = ((2 * o : Nat) : Int) := imul_nat (a := 2) (by omega)
 have hx := expect45 (G := GG) hs t (zP_vl hn ho)
 rw [h] at hx
 have hc := canonR hP false
 generalize redRows (prjL (zP w n o) l) (2 * w) = R at hc ⊢
 have hhi := hs.hi
 have hSl := hs.len
 have hSv := hs.vl
 have hpv := zP_vl hn ho
 have hpd : AV.agg [.d (iD w), .d (iD 0), .d (iD (2 ^ n : Nat)), .d (iD (2 * o : Nat))] = AV.agg ((zP w n o).l.map AV.d) := rfl
 refine pc_walk pok Tryz.func53 chk53 ?_
 conv => whnf
 repeat' first | ((first | refine LookP.mk _ rfl ?_ | refine ShlP.mk _ (by first | (simp only [List.set, over, List.take, List.drop, List.append_eq, List.nil_append, List.cons_append, List.length]; rfl) | rfl) ?_ | refine And.intro (by first | assumption | exact ⟨by kernel_rfl, rfl⟩ | decide | omega) ?_ | rw [hsh] | rw [him] | refine beqF1 rfl ?_ | refine pc_use hx ?_ | refine HpP.force ?_); conv => whnf)
 clear hsh him hpd
 refine for_use pok (fun j => ⟨[(3, .ptr 0 2 0 0), (6, .ptr 1 2 0 0), (9, .ptr 2 4 0 0), (10, .d (iD (idxI (fun q => !comV q (zP w n o)) (l.take j)))), (11, .ptr 3 2 0 0), (12, .d (iD j))], [(0, some (.arr 2 [[.d (iD w), .d (rowsD l t)]])), (1, some (.arr 2 [[.d (iD 0), .d (.sl [] true)]])), (2, some (.arr 4 [(zP w n o).l.map AV.d])), (3, some (.arr 2 [[.d (iD w), .sl 4 4 0 j j false]])), (4, some (dblk 4 ((prjL (zP w n o) (l.take j)).map Ps.l)))], 5⟩) (l.length) (fun _ => True) (trivial) ?_ (by kernel_rfl) ?_ ?_
 ·refine Sub.trans (sub_nilH2 (nm := 3) (S := 4) (Nat.zero_le _) rfl) ?_
  refine keep_env (by first | exact Nat.zero_le _ | exact Nat.le_of_ble_eq_true rfl) ?_ ?_ trivial
  ·repeat' first | exact trivial | refine ⟨⟨by first | rfl | assumption, rfl⟩, ?_⟩
  ·repeat' first | exact trivial | refine ⟨⟨ltB rfl, _, rfl, by first | rfl | assumption, by first | exact below1 rfl | exact below_dblk _ _ _ | exact below_arr rfl⟩, ?_⟩
 ·intro j A_j h_j I_j N_j
  have e_j : iadd .i64 (j : Int) 1 = ((j + 1 : Nat) : Int) := iadd_nat (by first | omega | (simp at *; omega))
  generalize zP w n o = p at *
  have hqv := hSv _ (List.getElem_mem h_j)
  have hcm := commute89 (G := GG) l[j] p (by rw [vl_w hqv]; omega) (by rw [vl_w hqv, vl_w hpv])
  rw [com_mul hhi hqv hpv] at hcm
  have hgq : (l.map Ps.l)[(j : Int).toNat]? = some (l[j]).l := get_l h_j
  have hsn : (prjL p (l.take (j + 1))).map Ps.l = (prjL p (l.take j)).map Ps.l ++ [(if comV l[j] p = true then l[j] else match (l.take j).find? (fun r => !comV r p) with
    | some f => mulS f l[j]
    | none => p).l] := by
   rw [take_snoc h_j, prjL_snoc, List.map_append]; rfl
  have hml : ((prjL p (l.take j)).map Ps.l).length = j := by rw [List.length_map, prjL_len, List.length_take]; omega
  generalize (prjL p (l.take j)).map Ps.l = M at hsn hml
  cases hcc : comV l[j] p with
  | true =>
   rw [hcc] at hcm hsn
   rw [if_pos rfl] at hsn
   have hix : idxI (fun q => !comV q p) (l.take (j + 1)) = idxI (fun q => !comV q p) (l.take j) := idxI_snocF h_j (by simp [hcc])
   generalize idxI (fun q => !comV q p) (l.take j) = fi at hix ⊢
   generalize l[j] = q at hsn hgq hcm
   conv => whnf
   repeat (refine LookP.mk _ rfl ?_; conv => whnf)
   intro t ht
   cases t
   ·exfalso; first | (simp at ht; done) | (simp at ht; omega)
   conv => whnf
   repeat' first | ((first | refine LookP.mk _ (by first | rfl | exact hgq) ?_ | refine ShlP.mk _ (by first | (simp only [List.set, over, List.take, List.drop, List.append_eq, List.nil_append, List.cons_append, List.length]; rfl) | rfl) ?_ | (refine And.intro (by first | exact Nat.le_refl _ | exact ⟨by rw [List.length_map]; exact hml, by decide, by show (2 * (j + 1) + 192) * 32 ≤ 281474976710656; omega⟩ | assumption | exact ⟨by kernel_rfl, rfl⟩ | decide | omega) ?_) | refine pc_use hcm ?_ | rw [nbeq] | refine HpP.force ?_); conv => whnf)
   refine N_j _ ?_ ?_
   ·first | trivial | assumption | omega
   ·first | refine ren_env [(4, 7)] ?_ ?_ ?_ trivial | refine ren_envB [(4, 7)] rfl rfl ?_ ?_ ?_ trivial
    ·repeat' first | exact trivial | refine ⟨⟨by first | rfl | assumption | exact congrArg (fun n => AV.d (iD n)) e_j | exact congrArg (fun n => AV.d (iD n)) hix.symm, rfl⟩, ?_⟩
    ·repeat' first | exact trivial | refine ⟨⟨ltB rfl, _, rfl, by first | rfl | assumption | exact get_ren rfl (by first | rfl | assumption | exact get_ren rfl (by rw [hsn]; exact congrArg some (dblk_snoc rfl))) | exact get_ren rfl (by rw [hsn]; exact congrArg some (dblk_snoc rfl)), by first | exact below1 rfl | exact below_dblk _ _ _ | exact below_arr rfl⟩, ?_⟩
    ·repeat' first | exact trivial | (refine And.intro ?_ ?_) | (exact fun _ => rfl) | (exact fun h => absurd h (Nat.ne_of_beq_eq_false rfl))
  | false =>
   rw [hcc] at hcm hsn
   rw [if_neg (by decide)] at hsn
   rcases idx_case (fun q => !comV q p) (l.take j) with ⟨hf, hi2⟩ | ⟨i, hil, hi2, hf⟩
   ·rw [hf] at hsn
    dsimp only at hsn
    have hix : idxI (fun q => !comV q p) (l.take (j + 1)) = j := idxI_new h_j (by simp [hcc]) hi2
    rw [hi2]
    generalize l[j] = q at hsn hgq hcm
    conv => whnf
    repeat (refine LookP.mk _ rfl ?_; conv => whnf)
    intro t ht
    cases t
    ·exfalso; first | (simp at ht; done) | (simp at ht; omega)
    conv => whnf
    repeat' first | ((first | refine LookP.mk _ (by first | rfl | exact hgq) ?_ | refine ShlP.mk _ (by first | (simp only [List.set, over, List.take, List.drop, List.append_eq, List.nil_append, List.cons_append, List.length]; rfl) | rfl) ?_ | (refine And.intro (by first | exact Nat.le_refl _ | exact ⟨by rw [List.length_map]; exact hml, by decide, by show (2 * (j + 1) + 192) * 32 ≤ 281474976710656; omega⟩ | assumption | exact ⟨by kernel_rfl, rfl⟩ | decide | omega) ?_) | refine pc_use hcm ?_ | rw [nbeq] | refine HpP.force ?_); conv => whnf) | (intro t ht; cases t <;> conv => whnf)
    ·exact absurd ht (by decide)
    ·refine N_j _ ?_ ?_
     ·first | trivial | assumption | omega
     ·first | refine ren_env [(4, 7)] ?_ ?_ ?_ trivial | refine ren_envB [(4, 7)] rfl rfl ?_ ?_ ?_ trivial
      ·repeat' first | exact trivial | refine ⟨⟨by first | rfl | assumption | exact congrArg (fun n => AV.d (iD n)) e_j | exact congrArg (fun n => AV.d (iD n)) hix.symm, rfl⟩, ?_⟩
      ·repeat' first | exact trivial | refine ⟨⟨ltB rfl, _, rfl, by first | rfl | assumption | exact get_ren rfl (by first | rfl | assumption | exact get_ren rfl (by rw [hsn]; exact congrArg some (dblk_snoc rfl))) | exact get_ren rfl (by rw [hsn]; exact congrArg some (dblk_snoc rfl)), by first | exact below1 rfl | exact below_dblk _ _ _ | exact below_arr rfl⟩, ?_⟩
      ·repeat' first | exact trivial | (refine And.intro ?_ ?_) | (exact fun _ => rfl) | (exact fun h => absurd h (Nat.ne_of_beq_eq_false rfl))
   ·rw [hf] at hsn
    dsimp only at hsn
    have hix := idxI_old (p := fun q => !comV q p) h_j hi2
    have hij : i < j := by rw [List.length_take] at hil; omega
    have hiL : i < l.length := by omega
    have eL : (l.take j)[i] = l[i] := by simp
    rw [eL] at hsn
    have hfv := hSv _ (List.getElem_mem hiL)
    have hmul := mulS_c (G := GG) l[i] l[j] (by rw [vl_w hfv]; omega) (by rw [vl_w hqv, vl_w hfv])
    have hgf : (l.map Ps.l)[((i : Nat) : Int).toNat]? = some (l[i]).l := get_l hiL
    rw [hi2]
    generalize l[j] = q at hsn hgq hcm hmul
    generalize l[i] = f at hsn hgf hmul
    generalize mulS f q = r at hsn hmul
    conv => whnf
    repeat (refine LookP.mk _ rfl ?_; conv => whnf)
    intro t ht
    cases t
    ·exfalso; first | (simp at ht; done) | (simp at ht; omega)
    conv => whnf
    repeat' first | ((first | refine LookP.mk _ (by first | rfl | exact hgq | exact hgf) ?_ | refine ShlP.mk _ (by first | (simp only [List.set, over, List.take, List.drop, List.append_eq, List.nil_append, List.cons_append, List.length]; rfl) | rfl) ?_ | (refine And.intro (by first | exact Nat.le_refl _ | exact ⟨by rw [List.length_map]; exact hml, by decide, by show (2 * (j + 1) + 192) * 32 ≤ 281474976710656; omega⟩ | assumption | exact ⟨by kernel_rfl, rfl⟩ | decide | omega) ?_) | refine pc_use hcm ?_ | refine pc_head hmul ?_ | rw [nbeq] | refine HpP.force ?_); conv => whnf) | (intro t ht; cases t <;> conv => whnf)
    ·refine N_j _ ?_ ?_
     ·first | trivial | assumption | omega
     ·first | refine ren_env [(4, 7)] ?_ ?_ ?_ trivial | refine ren_envB [(4, 7)] rfl rfl ?_ ?_ ?_ trivial
      ·repeat' first | exact trivial | refine ⟨⟨by first | rfl | assumption | exact congrArg (fun n => AV.d (iD n)) e_j | exact congrArg (fun n => AV.d (iD n)) hix.symm, rfl⟩, ?_⟩
      ·repeat' first | exact trivial | refine ⟨⟨ltB rfl, _, rfl, by first | rfl | assumption | exact get_ren rfl (by first | rfl | assumption | exact get_ren rfl (by rw [hsn]; exact congrArg some (dblk_snoc rfl))) | exact get_ren rfl (by rw [hsn]; exact congrArg some (dblk_snoc rfl)), by first | exact below1 rfl | exact below_dblk _ _ _ | exact below_arr rfl⟩, ?_⟩
      ·repeat' first | exact trivial | (refine And.intro ?_ ?_) | (exact fun _ => rfl) | (exact fun h => absurd h (Nat.ne_of_beq_eq_false rfl))
    ·exfalso; simp at ht; omega
 ·intro A_last I_last
  have hT : l.take l.length = l := List.take_of_length_le (Nat.le_refl _)
  rw [hT]
  have hml : ((prjL (zP w n o) l).map Ps.l).length = l.length := by rw [List.length_map, prjL_len]
  conv => whnf
  repeat (refine LookP.mk _ rfl ?_; conv => whnf)
  intro t ht
  cases t
  rotate_left
  ·exfalso; first | (simp at ht; done) | (simp at ht; omega)
  conv => whnf
  repeat' first | ((first | refine LookP.mk _ rfl ?_ | refine ShlP.mk _ (by first | (simp only [List.set, over, List.take, List.drop, List.append_eq, List.nil_append, List.cons_append, List.length]; rfl) | rfl) ?_ | refine pc_giveS hc rfl hml.symm ?_ | refine HpP.force ?_); conv => whnf)
  exact fin rfl
end Go.Tz
namespace Go.Tz
open Go Go.AL Go.Proofs Go.Ma
def findReg (k : Nat) : Code → Option (Array Oper)
 | .region id ops _ => if id = k then some ops else none
 | .seq c d => (findReg k c).orElse fun _ => findReg k d
 | .cond _ c d => (findReg k c).orElse fun _ => findReg k d
 | .block _ c => findReg k c
 | .loop c => findReg k c
 | .scope c => findReg k c
 | _ => none
variable {ks : List (Nat × AV)} {hs : List (Nat × Blk)} {w nm : Nat} {f : FuncId} {A R : List Ps} {n o : Nat} {ug : Bool} {ch x : Int}
end Go.Tz
namespace Go.Tz
open Go Go.AL Go.Proofs Go.Ma
def mR (w n o : Nat) (l : List Ps) : List Ps := if expR w l (zP w n o) = 1 then redRows l (2 * w) else redRows (prjL (zP w n o) l) (2 * w)
def mN (w n o : Nat) (l : List Ps) : Int := if expR w l (zP w n o) = 1 then 0 else 1
theorem mR_ok {w n o : Nat} {l : List Ps} (hs : SOk w l) (hn : n < w) (ho : o ≤ 1) (h : expR w l (zP w n o) ≠ -1) (t : Bool) :
  SOk w (mR w n o l) ∧ PO Pr GG 56 [stD w l t, iD n, iD o] (own3 w (mN w n o l)) [(0, some (dblk 4 ((mR w n o l).map Ps.l)))] 1 ∧
  PO Pr GG 57 [stD w l t, iD n, iD o] (own3 w (mN w n o l)) [(0, some (dblk 4 ((if o = 1 then appG w (xG n) (mR w n o l) else mR w n o l).map Ps.l)))] 1 ∧
  PC Pr GG 53 [stD w l t, iD n, iD o] (mD w (mR w n o l) false (mN w n o l) 0) := by
 have hr := (redRows_ok hs).1
 have hg : SameG ((redRows l (2 * w)).map nf) (l.map nf) := fun g => ((redRows_ok hs).2 g).symm
 unfold mR mN
 rcases meas hs hr hg hn ho 136 with ⟨a, c⟩ | ⟨a, _⟩ | ⟨a, hP, c⟩
 ·rw [a, if_pos rfl, if_pos rfl]
  refine ⟨hr, measure56 (found_ok t hs hn ho (.inl ⟨rfl, rfl⟩) (.inl rfl) c), ?_, measure53a hs hn ho t a⟩
  rcases rese hs hr hg hn ho 137 with ⟨_, nm, hnm, c⟩ | ⟨a', _⟩ | ⟨a', _⟩
  ·exact reset57 (found_ok t hs hn ho (.inr ⟨rfl, rfl⟩) hnm c)
  ·rw [a] at a'; cases a'
  ·rw [a] at a'; cases a'
 ·exact absurd a h
 ·rw [a, if_neg (show ¬ (0 : Int) = 1 by decide), if_neg (show ¬ (0 : Int) = 1 by decide)]
  refine ⟨(redRows_ok hP).1, measure56 (found_ok t hs hn ho (.inl ⟨rfl, rfl⟩) (.inr rfl) c), ?_, measure53c hs hn ho t a hP⟩
  rcases rese hs hr hg hn ho 137 with ⟨a', _⟩ | ⟨a', _⟩ | ⟨_, _, c⟩
  ·rw [a] at a'; cases a'
  ·rw [a] at a'; cases a'
  ·exact reset57 (found_ok t hs hn ho (.inr ⟨rfl, rfl⟩) (.inr rfl) c)
theorem mR_no {w n o : Nat} {l : List Ps} (hs : SOk w l) (hn : n < w) (ho : o ≤ 1) (h : expR w l (zP w n o) = -1) (t : Bool) :
  PC Pr GG 56 [stD w l t, iD n, iD o] (no3 6) ∧ PC Pr GG 57 [stD w l t, iD n, iD o] (no3 6) ∧ PC Pr GG 53 [stD w l t, iD n, iD o] (mD 0 [] true 0 6) := by
 have hr := (redRows_ok hs).1
 have hg : SameG ((redRows l (2 * w)).map nf) (l.map nf) := fun g => ((redRows_ok hs).2 g).symm
 refine ⟨?_, ?_, measure53b hs hn ho t h⟩
 ·rcases meas hs hr hg hn ho 136 with ⟨a, _⟩ | ⟨_, c⟩ | ⟨a, _⟩
  ·rw [h] at a; cases a
  ·exact measure56e (found_none t hs hn ho (.inl ⟨rfl, rfl⟩) c)
  ·rw [h] at a; cases a
 ·rcases rese hs hr hg hn ho 137 with ⟨a, _⟩ | ⟨_, c⟩ | ⟨a, _⟩
  ·rw [h] at a; cases a
  ·exact reset57e (found_none t hs hn ho (.inr ⟨rfl, rfl⟩) c)
  ·rw [h] at a; cases a
end Go.Tz
namespace Go.Tz
open Go Go.AL Go.Proofs Go.Ma
theorem knownB {b c : Bool} {k : Bool → Prop} (h : b = c) (hk : k c) : ∀ t, b = t → k t := fun t e => by
 have : c = t := h.symm.trans e
 exact this ▸ hk
end Go.Tz
namespace Go.Tz
open Go Go.AL Go.Proofs Go.Ma
theorem asD_pre {H : AHeap} {nm sz len room : Nat} {t : Bool} {l : List (List D)} (hg : H.get nm = some (dblk sz l)) (h1 : len ≤ l.length) : AsD H (.sl nm sz 0 len room t) (.sl (l.take len) (t && decide (room = len))) := by
 have := asD_sl_map (lo := 0) (len := len) (room := room) (t := t) hg (by simpa using h1)
 rw [List.drop_zero] at this
 exact this
end Go.Tz
namespace Go.Tz
open Go Go.AL Go.Proofs Go.Shelf
def rnI : Ren := ⟨fun n => match n with
 | 21 => 146
 | 27 => 216
 | 28 => 217
 | 35 => 260
 | 39 => 273
 | n => n, fun n => match n with
 | 22 => 42
 | n => n, fun n => n⟩
theorem lays21 : Lays2.n21 Pr rnI where
 mixed := by kernel_rfl
 f21 := by kernel_rfl
 f27 := by kernel_rfl
 f28 := by kernel_rfl
 f35 := by kernel_rfl
 f39 := by kernel_rfl
 t0 := by kernel_rfl
 a0 := fun _ => by kernel_rfl
 z0 := fun _ => by kernel_rfl
 v0 := fun _ => by kernel_rfl
 t3 := by kernel_rfl
 a3 := fun _ => by kernel_rfl
 z3 := fun _ => by kernel_rfl
 v3 := fun _ => by kernel_rfl
 t4 := by kernel_rfl
 a4 := fun _ => by kernel_rfl
 z4 := fun _ => by kernel_rfl
 v4 := fun _ => by kernel_rfl
 t22 := by kernel_rfl
 a22 := fun _ => by kernel_rfl
 z22 := fun _ => by kernel_rfl
 v22 := fun _ => by kernel_rfl
 i3 := by kernel_rfl
end Go.Tz
namespace Go.AL
open Go
variable {G : Nat → Option (List D)}
structure Chg (w w' : World) (k : Nat) (cs cs' : Array Value) : Prop where
 os : w'.os = w.os
 tape : w'.tape = w.tape
 output : w'.output = w.output
 size : w'.heap.size = w.heap.size
 other : ∀ j, j ≠ k → w'.heap[j]? = w.heap[j]?
 at_ : ∃ e, w.heap[k]? = some (.cells cs e (0, 0)) ∧ w'.heap[k]? = some (.cells cs' e (0, 0))
 csz : cs'.size = cs.size
theorem Chg.trans {w w' w'' : World} {k : Nat} {cs cs' cs'' : Array Value} (h : Chg w w' k cs cs') (h2 : Chg w' w'' k cs' cs'') : Chg w w'' k cs cs'' := by
 refine ⟨h2.os.trans h.os, h2.tape.trans h.tape, h2.output.trans h.output, h2.size.trans h.size, fun j hj => (h2.other j hj).trans (h.other j hj), ?_, h2.csz.trans h.csz⟩
 obtain ⟨e, a, b⟩ := h.at_
 obtain ⟨e', a', b'⟩ := h2.at_
 rw [b] at a'
 cases a'
 exact ⟨e, a, b'⟩
theorem chg_refl {w : World} {k : Nat} {cs : Array Value} {e : TypeId} (h : w.heap[k]? = some (.cells cs e (0, 0))) : Chg w w k cs cs := ⟨rfl, rfl, rfl, rfl, fun _ _ => rfl, ⟨e, h, h⟩, rfl⟩
theorem chg_drew {w : World} {k : Nat} {cs : Array Value} {e : TypeId} (h : w.heap[k]? = some (.cells cs e (0, 0))) : Chg w w.drew k cs cs := ⟨rfl, rfl, rfl, rfl, fun _ _ => rfl, ⟨e, h, h⟩, rfl⟩
theorem chg_cell {w : World} {k o : Nat} {v : Value} {cs : Array Value} {e : TypeId} (h : w.heap[k]? = some (.cells cs e (0, 0))) : Chg w (w.setCell ⟨k, o, none⟩ v) k cs (cs.setIfInBounds o v) := by
 refine ⟨rfl, rfl, rfl, by simp [World.setCell], fun j hj => ?_, ⟨e, h, ?_⟩, by simp⟩
 ·simp only [World.setCell, Array.getElem?_modify]
  rw [if_neg (Ne.symm hj)]
 ·simp only [World.setCell, Array.getElem?_modify, if_pos, h]
  rfl
def setL (cs : Array Value) : Nat → List Value → Array Value
 | _, [] => cs
 | o, v :: r => setL (cs.setIfInBounds o v) (o + 1) r
theorem chg_cells {k : Nat} {e : TypeId} : ∀ (vs : List Value) (o : Nat) (w : World) (cs : Array Value), w.heap[k]? = some (.cells cs e (0, 0)) → Chg w (w.setCells k o vs) k cs (setL cs o vs)
 | [], _, _, _, h => chg_refl h
 | v :: r, o, w, cs, h => by
  have h1 := chg_cell (o := o) (v := v) h
  obtain ⟨e', a, b⟩ := h1.at_
  rw [h] at a; cases a
  exact h1.trans (chg_cells r (o + 1) _ _ b)
theorem setL_size : ∀ (vs : List Value) (o : Nat) (cs : Array Value), (setL cs o vs).size = cs.size
 | [], _, _ => rfl
 | v :: r, o, cs => by unfold setL; rw [setL_size r]; simp
theorem setL_get : ∀ (vs : List Value) (o : Nat) (cs : Array Value) (q : Nat), o + vs.length ≤ cs.size → (setL cs o vs)[q]? = if o ≤ q ∧ q < o + vs.length then vs[q - o]? else cs[q]?
 | [], o, cs, q, _ => by
  unfold setL
  rw [if_neg (fun h => Nat.lt_irrefl _ (Nat.lt_of_le_of_lt h.1 (by simpa using h.2)))]
 | v :: r, o, cs, q, h => by
  simp only [List.length_cons] at h
  unfold setL
  rw [setL_get r (o + 1) _ q (by simp; omega)]
  simp only [List.length_cons]
  by_cases e : q = o
  ·subst e
   rw [if_neg (by omega), if_pos (by omega), Nat.sub_self]
   simp [show q < cs.size by omega]
  ·by_cases c : o + 1 ≤ q ∧ q < o + 1 + r.length
   ·rw [if_pos c, if_pos (by omega)]
    obtain ⟨d, hd⟩ : ∃ d, q - o = d + 1 := ⟨q - o - 1, by omega⟩
    rw [hd, List.getElem?_cons_succ]
    congr 1; omega
   ·rw [if_neg c, if_neg (by omega)]
    rw [Array.getElem?_setIfInBounds, if_neg (Ne.symm e)]
theorem renew {C : Ctx} {H : AHeap} {nm nm' k S : Nat} {els els' : List (List AV)} {w' : World} {cs cs' : Array Value} (hH : HRel G C H) (hg : H.get nm = some (.arr S els)) (hb : C.β nm = some k) (hn : ¬ C.U nm')
  (hc : Chg C.w w' k cs cs') (hro : ¬ C.RO k) (hall : ∀ el, el ∈ els' → el.length = S) (hv : ∀ (q : Nat) (v : AV), els'.flatten[q]? = some v → ∃ x : Value, cs'[q]? = some x ∧ ∀ C'' : Ctx, VRel C'' v x) :
  ∃ C' : Ctx, C'.w = w' ∧ C'.β nm' = some k ∧ C'.U nm' ∧ HRel G C' ((nm', some (.arr S els')) :: (nm, none) :: H) ∧ Tr C.U C H C' ((nm', some (.arr S els')) :: (nm, none) :: H) ∧ ∀ n, C'.U n → C.U n ∨ n = nm' := by
 obtain ⟨e, at1, at2⟩ := hc.at_
 let C' : Ctx := { U := fun n => C.U n ∨ n = nm', β := fun n => if n = nm' then some k else C.β n, RO := C.RO, w := w' }
 have hb' : C'.β nm' = some k := by simp [C']
 have hβ : ∀ n, n ≠ nm' → C'.β n = C.β n := fun n h => by simp [C', h]
 have himg : ∀ n b k', AHeap.get ((nm', some (.arr S els')) :: (nm, none) :: H) n = some b → C'.β n = some k' → k' < C.w.heap.size → ∃ n0 b0, H.get n0 = some b0 ∧ C.β n0 = some k' := by
  intro n b k' a1 a2 _
  by_cases en : n = nm'
  ·subst en; rw [hb'] at a2; cases a2; exact ⟨nm, _, hg, hb⟩
  ·rw [get_cons_ne _ _ en] at a1
   rw [hβ n en] at a2
   exact ⟨n, b, (get_drop a1).2, a2⟩
 have htr : Tr C.U C H C' ((nm', some (.arr S els')) :: (nm, none) :: H) := {
  os := hc.os, tape := hc.tape, output := hc.output, size := by show C.w.heap.size ≤ w'.heap.size; rw [hc.size]; exact Nat.le_refl _
  shape := fun j A t fz' hA => by
   by_cases hj : j = k
   ·subst hj; rw [at1] at hA; cases hA; exact ⟨cs', (0, 0), at2, hc.csz⟩
   ·exact ⟨A, fz', (hc.other j hj).trans hA, rfl⟩
  frame := fun j hj hnn => hc.other j fun ej => hnn nm _ hg (by rw [hb, ej])
  names := fun n h => ⟨.inl h, hβ n (fun en => hn (en ▸ h))⟩
  ros := fun j h => h
  img := himg
  rob := fun _ h _ => .inl h }
 have hbr : BRel C' nm' (.arr S els') := brel_arr_mk hb' at2 hro hall fun q v hq => by
  obtain ⟨x, h1, h2⟩ := hv q v hq
  exact ⟨x, h1, h2 C'⟩
 refine ⟨C', rfl, hb', .inr rfl, ⟨?_, ?_, ?_, ?_⟩, htr, fun n h => h⟩
 ·intro n b hgn
  by_cases en : n = nm'
  ·subst en; rw [get_cons_same] at hgn; cases hgn; exact ⟨.inr rfl, hbr⟩
  ·rw [get_cons_ne _ _ en] at hgn
   obtain ⟨en2, hgn⟩ := get_drop hgn
   obtain ⟨hU2, hB2⟩ := hH.blk n b hgn
   refine ⟨.inl hU2, brel_later hH htr hU2 hB2 fun j hj => ⟨hc.other j (fun ej => en2 ?_), fun hro2 => hH.ro_apart hro2 n b hgn hj⟩⟩
   exact hH.inj n nm b _ k hgn hg (ej ▸ hj) hb
 ·intro n n' b1 b2 j a1 a2 e1 e2
  have old : ∀ n b, AHeap.get ((nm', some (.arr S els')) :: (nm, none) :: H) n = some b → n ≠ nm' → n ≠ nm ∧ H.get n = some b := fun n b h en => by
   rw [get_cons_ne _ _ en] at h; exact get_drop h
  by_cases en : n = nm'
  ·by_cases en' : n' = nm'
   ·rw [en, en']
   ·obtain ⟨f1, f2⟩ := old n' b2 a2 en'
    rw [hβ n' en'] at e2
    rw [en, hb'] at e1; cases e1
    exact absurd (hH.inj n' nm b2 _ k f2 hg e2 hb) f1
  ·obtain ⟨f1, f2⟩ := old n b1 a1 en
   rw [hβ n en] at e1
   by_cases en' : n' = nm'
   ·rw [en', hb'] at e2; cases e2
    exact absurd (hH.inj n nm b1 _ k f2 hg e1 hb) f1
   ·obtain ⟨f3, f4⟩ := old n' b2 a2 en'
    rw [hβ n' en'] at e2
    exact hH.inj n n' b1 b2 j f2 f4 e1 e2
 ·intro j hj
  have := hH.ro j hj
  show j < w'.heap.size
  rw [hc.size]; exact this
 ·intro g ds hgd; exact (hH.glob g ds hgd).later htr hH
structure Nw (w w' : World) (cs' : Array Value) : Prop where
 os : w'.os = w.os
 tape : w'.tape = w.tape
 output : w'.output = w.output
 size : w'.heap.size = w.heap.size + 1
 old : ∀ j, j < w.heap.size → w'.heap[j]? = w.heap[j]?
 at_ : ∃ e, w'.heap[w.heap.size]? = some (.cells cs' e (0, 0))
theorem nw_alloc (w : World) (cs : Array Value) (e : TypeId) : Nw w (w.alloc (.cells cs e)) cs := by
 refine ⟨rfl, rfl, rfl, by simp, fun j hj => ?_, ⟨e, ?_⟩⟩
 ·show (w.heap.push _)[j]? = _
  rw [Array.getElem?_push, if_neg (by omega)]
 ·show (w.heap.push _)[w.heap.size]? = _
  simp
theorem nw_drew {w w' : World} {cs : Array Value} (h : Nw w.drew w' cs) : Nw w w' cs := ⟨h.os, h.tape, h.output, h.size, h.old, h.at_⟩
theorem Nw.chg {w w' w'' : World} {cs cs' : Array Value} (h : Nw w w' cs) (h2 : Chg w' w'' w.heap.size cs cs') : Nw w w'' cs' := by
 obtain ⟨e, _, b⟩ := h2.at_
 exact ⟨h2.os.trans h.os, h2.tape.trans h.tape, h2.output.trans h.output, h2.size.trans h.size, fun j hj => (h2.other j (by omega)).trans (h.old j hj), ⟨e, b⟩⟩
theorem made2 {C : Ctx} {H : AHeap} {nm' S : Nat} {els' : List (List AV)} {w' : World} {cs' : Array Value} (hH : HRel G C H) (hn : ¬ C.U nm')
  (hc : Nw C.w w' cs') (hall : ∀ el, el ∈ els' → el.length = S) (hv : ∀ (q : Nat) (v : AV), els'.flatten[q]? = some v → ∃ x : Value, cs'[q]? = some x ∧ ∀ C'' : Ctx, VRel C'' v x) :
  ∃ C' : Ctx, C'.w = w' ∧ C'.β nm' = some C.w.heap.size ∧ C'.U nm' ∧ HRel G C' ((nm', some (.arr S els')) :: H) ∧ Tr C.U C H C' ((nm', some (.arr S els')) :: H) ∧ ∀ n, C'.U n → C.U n ∨ n = nm' := by
 obtain ⟨e, at2⟩ := hc.at_
 let C' : Ctx := { U := fun n => C.U n ∨ n = nm', β := fun n => if n = nm' then some C.w.heap.size else C.β n, RO := C.RO, w := w' }
 have hb' : C'.β nm' = some C.w.heap.size := by simp [C']
 have hβ : ∀ n, n ≠ nm' → C'.β n = C.β n := fun n h => by simp [C', h]
 have htr : Tr C.U C H C' ((nm', some (.arr S els')) :: H) := {
  os := hc.os, tape := hc.tape, output := hc.output, size := by show C.w.heap.size ≤ w'.heap.size; rw [hc.size]; omega
  shape := fun j A t fz' hA => ⟨A, fz', (hc.old j (heap_lt hA)).trans hA, rfl⟩
  frame := fun j hj _ => hc.old j hj
  names := fun n h => ⟨.inl h, hβ n (fun en => hn (en ▸ h))⟩
  ros := fun j h => h
  img := fun n b k' a1 a2 h3 => by
   by_cases en : n = nm'
   ·subst en; rw [hb'] at a2; cases a2; omega
   ·rw [get_cons_ne _ _ en] at a1
    rw [hβ n en] at a2
    exact ⟨n, b, a1, a2⟩
  rob := fun _ h _ => .inl h }
 have hro : ¬ C'.RO C.w.heap.size := fun h => by
  have := hH.ro _ h
  omega
 have hbr : BRel C' nm' (.arr S els') := brel_arr_mk hb' at2 hro hall fun q v hq => by
  obtain ⟨x, h1, h2⟩ := hv q v hq
  exact ⟨x, h1, h2 C'⟩
 have fresh : ∀ n b, H.get n = some b → C.β n ≠ some C.w.heap.size := fun n b h e => by
  have := brel_lt (hH.blk n b h).2 e
  omega
 refine ⟨C', rfl, hb', .inr rfl, ⟨?_, ?_, ?_, ?_⟩, htr, fun n h => h⟩
 ·intro n b hgn
  by_cases en : n = nm'
  ·subst en; rw [get_cons_same] at hgn; cases hgn; exact ⟨.inr rfl, hbr⟩
  ·rw [get_cons_ne _ _ en] at hgn
   obtain ⟨hU2, hB2⟩ := hH.blk n b hgn
   exact ⟨.inl hU2, brel_later hH htr hU2 hB2 fun j hj => ⟨hc.old j (brel_lt hB2 hj), fun hro2 => hH.ro_apart hro2 n b hgn hj⟩⟩
 ·intro n n' b1 b2 j a1 a2 e1 e2
  by_cases en : n = nm'
  ·by_cases en' : n' = nm'
   ·rw [en, en']
   ·rw [get_cons_ne _ _ en'] at a2
    rw [hβ n' en'] at e2
    rw [en, hb'] at e1; cases e1
    exact absurd e2 (fresh n' b2 a2)
  ·rw [get_cons_ne _ _ en] at a1
   rw [hβ n en] at e1
   by_cases en' : n' = nm'
   ·rw [en', hb'] at e2; cases e2
    exact absurd e1 (fresh n b1 a1)
   ·rw [get_cons_ne _ _ en'] at a2
    rw [hβ n' en'] at e2
    exact hH.inj n n' b1 b2 j a1 a2 e1 e2
 ·intro j hj
  have := hH.ro j hj
  show j < w'.heap.size
  rw [hc.size]; omega
 ·intro g ds hgd; exact (hH.glob g ds hgd).later htr hH
end Go.AL
namespace Go.Tz
open Go Go.AL Go.Proofs Go.Shelf
variable {G : Nat → Option (List D)}
abbrev numsB (l : List Int) : Blk := dblk 1 (l.map fun x => [iD x])
theorem numsB_flat (l : List Int) : ((l.map fun x => [iD x]).map fun el => el.map AV.d).flatten = l.map fun x => AV.d (iD x) := by
 induction l with
 | nil => rfl
 | cons a l ih => simp only [List.map_cons, List.flatten_cons, ih]; rfl
theorem numsB_len (l : List Int) : ∀ el, el ∈ (l.map fun x => [iD x]).map (fun el => el.map AV.d) → el.length = 1 := by
 intro el h
 obtain ⟨y, hy, rfl⟩ := List.mem_map.1 h
 obtain ⟨x, _, rfl⟩ := List.mem_map.1 hy
 rfl
theorem vrel_int {C : Ctx} {i : Int} {x : Value} (h : VRel C (.d (iD i)) x) : x = .int .i64 i := by
 have := vrel_d h
 cases this
 rfl
theorem int_vrel (C : Ctx) (i : Int) : VRel C (.d (iD i)) (.int .i64 i) := .d _ _ (.int _ _)
def insL (l : List Int) (i : Nat) (x : Int) : List Int := l.take i ++ x :: l.drop i
theorem insL_len {l : List Int} {i : Nat} {x : Int} (h : i ≤ l.length) : (insL l i x).length = l.length + 1 := by
 simp [insL]; omega
theorem insL_get {l : List Int} {i : Nat} {x : Int} (h : i ≤ l.length) (q : Nat) : (insL l i x)[q]? = if q < i then l[q]? else if q = i then some x else l[q - 1]? := by
 unfold insL
 by_cases a : q < i
 ·rw [if_pos a, List.getElem?_append_left (by simp; omega), List.getElem?_take_of_lt a]
 ·rw [if_neg a, List.getElem?_append_right (by simp; omega), List.length_take, Nat.min_eq_left h]
  by_cases b : q = i
  ·rw [if_pos b, b, Nat.sub_self]; rfl
  ·rw [if_neg b]
   obtain ⟨d, hd⟩ : ∃ d, q - i = d + 1 := ⟨q - i - 1, by omega⟩
   rw [hd, List.getElem?_cons_succ, List.getElem?_drop]
   congr 1; omega
theorem chk146 : chkFn Tryz.f146 = true := by kernel_rfl
theorem isFn146 : IsFn Pr 146 := isFn_of Tryz.func146 chk146
theorem cell_of {w : World} {k : Nat} {cs : Array Value} {e : TypeId} {fz : Nat × Nat} (h : w.heap[k]? = some (.cells cs e fz)) (q : Nat) : w.cell? ⟨k, q, none⟩ = cs[q]? := by
 unfold World.cell?; rw [h]; rfl
theorem frozen_of {w : World} {k : Nat} {cs : Array Value} {e : TypeId} (h : w.heap[k]? = some (.cells cs e (0, 0))) (q : Nat) : w.frozen? ⟨k, q, none⟩ = false := by
 unfold World.frozen?; rw [h]; simp
theorem shape_of {w : World} {k : Nat} {cs : Array Value} {e : TypeId} {fz : Nat × Nat} (h : w.heap[k]? = some (.cells cs e fz)) : w.shape? k = some (e, cs.size) := by
 unfold World.shape?; rw [h]
theorem ints_rel {l : List Int} {cs' : Array Value} (h : ∀ (q : Nat) (v : Int), l[q]? = some v → cs'[q]? = some (.int .i64 v)) : ∀ (q : Nat) (v : AV), ((l.map fun x => [iD x]).map fun el => el.map AV.d).flatten[q]? = some v → ∃ x : Value, cs'[q]? = some x ∧ ∀ C'' : Ctx, VRel C'' v x := by
 intro q v hq
 rw [numsB_flat, List.getElem?_map] at hq
 obtain ⟨a, ha, rfl⟩ := Option.map_eq_some_iff.1 hq
 exact ⟨_, h q a ha, fun C'' => int_vrel C'' a⟩
theorem arr3 {vs : Array Value} (h : vs.size = 3) : vs = #[vs.getD 0 undef, vs.getD 1 undef, vs.getD 2 undef] := by
 apply Array.ext
 ·simpa using h
 ·intro i h1 h2
  match i, h1, h2 with
  | 0, _, _ => simp [Array.getD, h]
  | 1, _, _ => simp [Array.getD, h]
  | 2, _, _ => simp [Array.getD, h]
theorem insert146 {nm nv n0 i r : Nat} {l : List Int} (x : Int) (hi : i ≤ l.length) (hbig : l.length ≤ 1000) (hne : nm ≠ nv) (hr63 : r ≤ 9223372036854775807) :
  ACall Pr G 146 [.sl nm 1 0 l.length r true, .d (iD i), .sl nv 1 0 1 1 true] [(nm, some (numsB l)), (nv, some (.arr 1 [[.d (iD x)]]))] n0
   fun v H n => ∃ r' : Nat, l.length + 1 ≤ r' ∧ r' ≤ 9223372036854775807 ∧ v = .sl n0 1 0 (l.length + 1) r' true ∧ H = [(n0, some (numsB (insL l i x)))] ∧ n = n0 + 1 := by
 intro C vs hH hU hsz hr
 have hn : ¬ C.U n0 := fun h => Nat.lt_irrefl _ (hU n0 h)
 have r0 := hr 0 _ rfl
 have r1 := vrel_int (hr 1 _ rfl)
 have r2 := hr 2 _ rfl
 rw [arr3 (vs := vs) (by simpa using hsz), r1]
 have hgv : AHeap.get [(nm, some (numsB l)), (nv, some (.arr 1 [[.d (iD x)]]))] nv = some (.arr 1 [[.d (iD x)]]) := by rw [get_consI, if_neg (Ne.symm hne), get_consI, if_pos rfl]
 have hgm : AHeap.get [(nm, some (numsB l)), (nv, some (.arr 1 [[.d (iD x)]]))] nm = some (numsB l) := by rw [get_consI, if_pos rfl]
 rcases vrel_sl r2 with ⟨kv, cv, csv, ev, fzv, hUv, hbv, hlv, hrv, htv, hhv, hsv, hx2⟩ | ⟨_, h, _⟩
 rotate_left
 ·cases h
 obtain ⟨csv0, ev0, hhv0, hrov, _, _, hcsv⟩ := brel_flat (hH.blk nv _ hgv).2 hbv
 rw [hhv] at hhv0; cases hhv0
 have hv0 : csv[0]? = some (.int .i64 x) := by
  obtain ⟨y, h1, h2⟩ := hcsv 0 (.d (iD x)) rfl
  rw [h1, vrel_int h2]
 have hvs : ∀ j v, [Value.int .i64 x][j]? = some v → C.w.cell? ⟨kv, 0 * 1 + j, none⟩ = some v := fun j v hj => by
  match j, hj with
  | 0, hj => cases hj; rw [cell_of hhv]; exact hv0
 have h1v : ∀ v ∈ [Value.int .i64 x], v.oneCell' = true := fun v hv => by rw [List.mem_singleton.1 hv]; rfl
 have h1c : ∀ v ∈ l.map fun y => Value.int .i64 y, v.oneCell' = true := fun v hv => by
  obtain ⟨y, _, rfl⟩ := List.mem_map.1 hv; rfl
 have hnf : ∀ el, el ∈ ((insL l i x).map fun x => [iD x]).map (fun el => el.map AV.d) → el.length = 1 := numsB_len _
 have fin2 : ∀ (w' : World) (cs' : Array Value) (c' : Nat), Nw C.w w' cs' → (∀ (q : Nat) (v : Int), (insL l i x)[q]? = some v → cs'[q]? = some (.int .i64 v)) → l.length + 1 ≤ c' → c' ≤ cs'.size → c' ≤ 9223372036854775807 →
   ∃ y v H' nx' C', (Ending.returned (.slice (some ⟨C.w.heap.size, 0, none⟩) (l.length + 1) c') : Ending) = .returned y ∧ C'.w = w' ∧ (∃ r' : Nat, l.length + 1 ≤ r' ∧ r' ≤ 9223372036854775807 ∧ v = AV.sl n0 1 0 (l.length + 1) r' true ∧ H' = [(n0, some (numsB (insL l i x)))] ∧ nx' = n0 + 1) ∧ VRel C' v y ∧ HRel G C' H' ∧ (∀ m, C'.U m → m < nx') ∧ Tr C.U C [(nm, some (numsB l)), (nv, some (.arr 1 [[.d (iD x)]]))] C' H' := by
  intro w' cs' c' hc hq h1 h2 h63
  obtain ⟨C', e1, e2, e3, e4, e5, e6⟩ := made2 (S := 1) hH hn hc hnf (ints_rel hq)
  obtain ⟨e, at2⟩ := hc.at_
  refine ⟨_, _, _, _, C', rfl, e1, ⟨c', h1, h63, rfl, rfl, rfl⟩, ?_, hrel_dropS e4 ?_, fun m hm => ?_, e5.anti ?_⟩
  ·have := VRel.sl (C := C') n0 1 0 (l.length + 1) c' true C.w.heap.size c' cs' e (0, 0) e3 e2 h1 (Nat.le_refl _) (fun _ => rfl) (by rw [e1]; exact at2) (by simpa using h2)
   simpa using this
  ·intro a b hab
   rw [get_consI] at hab
   by_cases ea : a = n0
   ·rw [if_pos ea] at hab; rw [get_consI, if_pos ea]; exact hab
   ·rw [if_neg ea] at hab; cases hab
  ·rcases e6 m hm with h | h
   ·have := hU m h; omega
   ·omega
  ·intro a b hab
   rw [get_consI] at hab
   by_cases ea : a = n0
   ·rw [if_pos ea] at hab; rw [get_consI, if_pos ea]; exact hab
   ·rw [if_neg ea] at hab; cases hab
 have hxg : C.w.drew.heap.size = C.w.heap.size := rfl
 have gr := grownCap_ge C.w
 -- a new row at the end
 have endG : ∀ (base : Option Addr) (c : Nat) (ws : List Value), l.length ≤ c → c < l.length + 1 → (base = none → l.length = 0) → ws = l.map (fun y => Value.int .i64 y) → (∀ a, base = some a → ∀ j v, ws[j]? = some v → C.w.cell? (a.add j) = some v) → i = l.length →
   Calls Pr 146 #[.slice base l.length c, .int .i64 (i : Int), .slice (some ⟨kv, 0 * 1, none⟩) 1 cv] C.w fun e w' => ∃ y v H' nx' C', e = .returned y ∧ C'.w = w' ∧ (∃ r' : Nat, l.length + 1 ≤ r' ∧ r' ≤ 9223372036854775807 ∧ v = AV.sl n0 1 0 (l.length + 1) r' true ∧ H' = [(n0, some (numsB (insL l i x)))] ∧ nx' = n0 + 1) ∧ VRel C' v y ∧ HRel G C' H' ∧ (∀ m, C'.U m → m < nx') ∧ Tr C.U C [(nm, some (numsB l)), (nv, some (.arr 1 [[.d (iD x)]]))] C' H' := by
  intro base c ws h1 h2 h3 h4 h5 hil
  subst hil
  refine (Any2.slices_Insert_int_end_grow lays21 base l.length c kv (0 * 1) 1 cv ws [.int .i64 x] C.w (by decide) h1 h2 (by omega) (by rw [h4]; simp) rfl h3 h5 hvs h1v).mono ?_
  rintro e w' ⟨rfl, rfl⟩
  have hg2 := gr (l.length + 1) c (rnI.t 3)
  have hg3 := grownCap_le_maxLen C.w (l.length + 1) c (rnI.t 3) (by unfold maxLen; omega)
  generalize grownCap C.w (l.length + 1) c (rnI.t 3) = cap at hg2 hg3 ⊢
  refine fin2 _ _ cap (nw_drew (nw_alloc C.w.drew _ _)) (fun q v hq => ?_) hg2 ?_ ?_
  ·rw [insL_get (Nat.le_refl _)] at hq
   by_cases a : q < l.length
   ·rw [if_pos a] at hq
    rw [Array.getElem?_append_left (by simp [h4]; omega)]
    rw [h4]
    simp only [List.getElem?_toArray]
    rw [List.getElem?_append_left (by simpa using a), List.getElem?_map, hq]; rfl
   ·rw [if_neg a] at hq
    by_cases b : q = l.length
    ·rw [if_pos b] at hq
     cases hq
     rw [Array.getElem?_append_left (by simp [h4]; omega), h4]
     simp only [List.getElem?_toArray]
     rw [List.getElem?_append_right (by simp; omega), b]
     simp
    ·rw [if_neg b, List.getElem?_eq_none (show l.length ≤ q - 1 by omega)] at hq
     cases hq
  ·simp [h4, Builtin.zeroCells, Value.cells]; omega
  ·unfold maxLen at hg3; omega
 rcases vrel_sl r0 with ⟨k, c, cs, e, fz, hUk, hb, hl, hr0, ht, hh, hs, hx0⟩ | ⟨hUk, hl0, hr0, a0, hx0⟩
 rotate_left
 ·-- the nil slice
  have hl1 : l = [] := List.eq_nil_of_length_eq_zero hl0
  have hi0 : i = l.length := by omega
  have := endG a0 0 [] (by omega) (by omega) (fun _ => hl0) (by rw [hl1]; rfl) (fun a _ j v hj => by simp at hj) hi0
  have e0 : Value.slice a0 0 0 = .slice a0 l.length 0 := by rw [hl0]
  rw [hx0, e0, hx2]
  exact this
 obtain ⟨cs0, e0, hh0, hro, hsz, hcl, hcs⟩ := brel_flat (hH.blk nm _ hgm).2 hb
 rw [hh] at hh0; cases hh0
 have hq0 : ∀ (q : Nat) (v : Int), l[q]? = some v → cs[q]? = some (.int .i64 v) := fun q v hq => by
  obtain ⟨y, h1, h2⟩ := hcs q (.d (iD v)) (by rw [numsB_flat, List.getElem?_map, hq]; rfl)
  rw [h1, vrel_int h2]
 have hcsv' : ∀ j v, (l.map fun y => Value.int .i64 y)[j]? = some v → C.w.cell? ⟨k, 0 * 1 + j, none⟩ = some v := fun j v hj => by
  rw [cell_of hh]
  rw [List.getElem?_map] at hj
  obtain ⟨a, ha, rfl⟩ := Option.map_eq_some_iff.1 hj
  simpa using hq0 j a ha
 have hkk : kv ≠ k := fun e => hne ((hH.inj nv nm _ _ k hgv hgm (by rw [hbv, e]) hb).symm)
 have hsize : c ≤ cs.size := by simpa using hs
 have hc63 : c ≤ 9223372036854775807 := by rw [ht rfl]; exact hr63
 have fin1 : ∀ (w' : World) (cs' : Array Value), Chg C.w w' k cs cs' → (∀ (q : Nat) (v : Int), (insL l i x)[q]? = some v → cs'[q]? = some (.int .i64 v)) → l.length + 1 ≤ c →
   ∃ y v H' nx' C', (Ending.returned (.slice (some ⟨k, 0 * 1, none⟩) (l.length + 1) c) : Ending) = .returned y ∧ C'.w = w' ∧ (∃ r' : Nat, l.length + 1 ≤ r' ∧ r' ≤ 9223372036854775807 ∧ v = AV.sl n0 1 0 (l.length + 1) r' true ∧ H' = [(n0, some (numsB (insL l i x)))] ∧ nx' = n0 + 1) ∧ VRel C' v y ∧ HRel G C' H' ∧ (∀ m, C'.U m → m < nx') ∧ Tr C.U C [(nm, some (numsB l)), (nv, some (.arr 1 [[.d (iD x)]]))] C' H' := by
  intro w' cs' hc hq h1
  obtain ⟨C', e1, e2, e3, e4, e5, e6⟩ := renew (S := 1) hH hgm hb hn hc hro hnf (ints_rel hq)
  obtain ⟨e, _, at2⟩ := hc.at_
  refine ⟨_, _, _, _, C', rfl, e1, ⟨c, h1, hc63, rfl, rfl, rfl⟩, ?_, hrel_dropS e4 ?_, fun m hm => ?_, e5.anti ?_⟩
  ·have := VRel.sl (C := C') n0 1 0 (l.length + 1) c true k c cs' e (0, 0) e3 e2 h1 (Nat.le_refl _) (fun _ => rfl) (by rw [e1]; exact at2) (by rw [hc.csz]; simpa using hsize)
   simpa using this
  ·intro a b hab
   rw [get_consI] at hab
   by_cases ea : a = n0
   ·rw [if_pos ea] at hab; rw [get_consI, if_pos ea]; exact hab
   ·rw [if_neg ea] at hab; cases hab
  ·rcases e6 m hm with h | h
   ·have := hU m h; omega
   ·omega
  ·intro a b hab
   rw [get_consI] at hab
   by_cases ea : a = n0
   ·rw [if_pos ea] at hab; rw [get_consI, if_pos ea]; exact hab
   ·rw [if_neg ea] at hab; cases hab
 rw [hx0, hx2]
 have hcell : ∀ q, q < c → (C.w.cell? ⟨k, q, none⟩).isSome = true := fun q hq => by
  rw [cell_of hh]; simp; omega
 by_cases hroom : l.length + 1 ≤ c
 ·by_cases hil : i = l.length
  ·subst hil
   refine (Any2.slices_Insert_int_end_room lays21 k (0 * 1) l.length c kv (0 * 1) 1 cv [.int .i64 x] C.w (by decide) hroom hc63 rfl (fun j hj => hcell _ (by omega)) (fun j hj => frozen_of hh _) hvs h1v).mono ?_
   rintro e w' ⟨rfl, rfl⟩
   refine fin1 _ _ (chg_cells _ _ _ _ hh) (fun q v hq => ?_) hroom
   rw [setL_get _ _ _ _ (by simp; omega)]
   rw [insL_get (Nat.le_refl _)] at hq
   by_cases a : q < l.length
   ·rw [if_pos a] at hq
    rw [if_neg (by omega)]; exact hq0 q v hq
   ·rw [if_neg a] at hq
    by_cases b : q = l.length
    ·rw [if_pos b] at hq
     cases hq
     rw [if_pos (by simp; omega), b]; simp
    ·rw [if_neg b, List.getElem?_eq_none (show l.length ≤ q - 1 by omega)] at hq
     cases hq
  ·refine (Any2.slices_Insert_int_shift lays21 k (0 * 1) l.length c i kv (0 * 1) 1 cv (l.map fun y => Value.int .i64 y) [.int .i64 x] C.w (by omega) (by decide) hroom hc63 hkk (by simp) rfl hcsv' (fun j hj => hcell _ (by omega)) (fun j hj => frozen_of hh _) hvs h1c h1v _ _ _ _ (shape_of hhv) (shape_of hh) (by omega) (frozen_of hhv _) (frozen_of hhv _)).mono ?_
   rintro e w' ⟨rfl, rfl⟩
   have h1 := (chg_drew hh).trans (chg_cells ((l.map fun y => Value.int .i64 y).drop i) (0 * 1 + (i + 1)) C.w.drew cs hh)
   obtain ⟨e', _, at2⟩ := h1.at_
   refine fin1 _ _ (h1.trans (chg_cells [.int .i64 x] (0 * 1 + i) _ _ at2)) (fun q v hq => ?_) hroom
   rw [setL_get _ _ _ _ (by rw [setL_size]; simp; omega), setL_get _ _ _ _ (by simp; omega)]
   rw [insL_get hi] at hq
   by_cases a : q < i
   ·rw [if_pos a] at hq
    rw [if_neg (by omega), if_neg (by omega)]; exact hq0 q v hq
   ·rw [if_neg a] at hq
    by_cases b : q = i
    ·rw [if_pos b] at hq
     cases hq
     rw [if_pos (by simp; omega), b]; simp
    ·rw [if_neg b] at hq
     have hlt := (List.getElem?_eq_some_iff.1 hq).1
     rw [if_neg (by simp; omega), if_pos (by simp; omega), List.getElem?_drop, List.getElem?_map, show i + (q - (0 * 1 + (i + 1))) = q - 1 by omega, hq]; rfl
 ·by_cases hil : i = l.length
  ·refine endG (some ⟨k, 0 * 1, none⟩) c (l.map fun y => Value.int .i64 y) hl (by omega) (fun h => by cases h) rfl (fun a ha j v hj => ?_) hil
   cases ha
   have := hcsv' j v hj
   rw [Addr.add_lit]; exact this
  ·refine (Any2.slices_Insert_int_grow lays21 k (0 * 1) l.length c i kv (0 * 1) 1 cv (l.map fun y => Value.int .i64 y) [.int .i64 x] C.w (by omega) (by decide) hl (by omega) (by omega) (by simp) rfl hcsv' hvs h1c h1v).mono ?_
   rintro e w' ⟨rfl, rfl⟩
   have hg2 := gr (l.length + 1) c (rnI.t 3)
   have hg3 := grownCap_le_maxLen C.w (l.length + 1) c (rnI.t 3) (by unfold maxLen; omega)
   generalize grownCap C.w (l.length + 1) c (rnI.t 3) = cap at hg2 hg3 ⊢
   have n1 := nw_alloc C.w (((l.map fun y => Value.int .i64 y).take i).toArray ++ Builtin.zeroCells (Value.int .i64 0).cells (l.length + 1 - i) ++ Builtin.zeroCells (Value.int .i64 0).cells (cap - (l.length + 1))) (rnI.t 3)
   obtain ⟨e1, t1⟩ := n1.at_
   have n2 := n1.chg ((chg_drew t1).trans (chg_cells [.int .i64 x] i _ _ t1))
   obtain ⟨e2, t2⟩ := n2.at_
   have n3 := n2.chg ((chg_drew t2).trans (chg_cells ((l.map fun y => Value.int .i64 y).drop i) (i + 1) _ _ t2))
   have hz : (((l.map fun y => Value.int .i64 y).take i).toArray ++ Builtin.zeroCells (Value.int .i64 0).cells (l.length + 1 - i) ++ Builtin.zeroCells (Value.int .i64 0).cells (cap - (l.length + 1))).size = cap := by
    simp [Builtin.zeroCells, Value.cells]; omega
   refine fin2 _ _ cap n3 (fun q v hq => ?_) hg2 (by rw [setL_size, setL_size, hz]; exact Nat.le_refl _) (by unfold maxLen at hg3; omega)
   rw [setL_get _ _ _ _ (by rw [setL_size, hz]; simp; omega), setL_get _ _ _ _ (by rw [hz]; simp; omega)]
   rw [insL_get hi] at hq
   by_cases a : q < i
   ·rw [if_pos a] at hq
    rw [if_neg (by omega), if_neg (by omega), Array.getElem?_append_left (by simp; omega), Array.getElem?_append_left (by simp; omega)]
    simp only [List.getElem?_toArray]
    rw [List.getElem?_take_of_lt a, List.getElem?_map, hq]; rfl
   ·rw [if_neg a] at hq
    by_cases b : q = i
    ·rw [if_pos b] at hq
     cases hq
     rw [if_neg (by omega), if_pos (by simp; omega), b]; simp
    ·rw [if_neg b] at hq
     have hlt := (List.getElem?_eq_some_iff.1 hq).1
     rw [if_pos (by simp; omega), List.getElem?_drop, List.getElem?_map, show i + (q - (i + 1)) = q - 1 by omega, hq]; rfl
end Go.Tz
namespace Go.Tz
open Go Go.AL Go.Proofs
abbrev storeB (bs : List Int) (u : Bool) (nx st : Int) : Blk := .arr 3 [[.d (.sl (bs.map fun b => [.int .u8 b]) u), .d (iD nx), .d (.int .u32 st)]]
theorem wrap32 (n : Int) : IntKind.u32.wrap n = n % 4294967296 := by simp [IntKind.wrap, IntKind.bits, IntKind.signed]
theorem u32_ge (n : Int) : 0 ≤ IntKind.u32.wrap n := by rw [wrap32]; omega
theorem u32_lt (n : Int) : IntKind.u32.wrap n < 4294967296 := by rw [wrap32]; omega
theorem shr_ge {a b : Int} (h : 0 ≤ a) : 0 ≤ ishr .u32 a b := by
 unfold ishr
 exact Int.fdiv_nonneg h (by exact_mod_cast Nat.zero_le _)
theorem shr_lt {a b : Int} (h : 0 ≤ a) (h2 : a < 4294967296) : ishr .u32 a b < 4294967296 := by
 unfold ishr
 have hp : (0 : Int) < 2 ^ min b.toNat IntKind.u32.bits := by exact_mod_cast Nat.two_pow_pos _
 rw [Int.fdiv_eq_ediv_of_nonneg _ (Int.le_of_lt hp)]
 exact Int.lt_of_le_of_lt (Int.ediv_le_self _ h) h2
theorem chk147 : chkFn Tryz.f147 = true := by kernel_rfl
theorem draw147 (bs : List Int) (u : Bool) (nx : Nat) (st : Int) (n0 : Nat) (hnx : nx < 4611686018427387904) (hbs : bs.length ≤ 1000) :
  ACall Pr GG 147 [.ptr 0 3 0 0] [(0, some (storeB bs u nx st))] n0 fun v H n => ∃ (x st' : Int) (nx' : Nat), nx' ≤ nx + 1 ∧ 0 ≤ x ∧ x < 4294967296 ∧ v = .d (.int .u32 x) ∧ H.get 0 = some (storeB bs u nx' st') := by
 refine fn_walk pok Tryz.func147 chk147 ?_
 conv => whnf
 cases bs with
 | nil =>
  repeat' first | ((first | refine LookP.mk _ rfl ?_ | refine ShlP.mk _ (by first | (simp only [List.set, over, List.take, List.drop, List.append_eq, List.nil_append, List.cons_append, List.length]; rfl) | rfl) ?_ | refine And.intro (by first | assumption | exact ⟨by kernel_rfl, rfl⟩ | decide | omega | exact ⟨rfl, by decide, by simp only [List.length_map, Nat.zero_add]; omega⟩) ?_ | refine HpP.force ?_); conv => whnf) | (intro t ht; cases t <;> conv => whnf)
  ·exact fin ⟨_, _, nx, by omega, shr_ge (u32_ge _), shr_lt (u32_ge _) (u32_lt _), rfl, rfl⟩
  ·exact absurd ht (by decide)
 | cons b bs =>
  have hmd : (nx : Int).tmod ((((b :: bs).map fun b => [D.int IntKind.u8 b]).length : Nat) : Int) = ((nx % (bs.length + 1) : Nat) : Int) := by
   rw [Int.tmod_eq_emod_of_nonneg (by omega), List.length_map]; rfl
  have hlt : nx % (bs.length + 1) < bs.length + 1 := Nat.mod_lt _ (by omega)
  have hget : ∃ y : Int, ((b :: bs).map fun b => [D.int IntKind.u8 b])[((nx % (bs.length + 1) : Nat) : Int).toNat]? = some [D.int IntKind.u8 y] := by
   refine ⟨(b :: bs)[nx % (bs.length + 1)]'(by simpa using hlt), ?_⟩
   rw [Int.toNat_natCast, List.getElem?_map, List.getElem?_eq_getElem (by simpa using hlt)]; rfl
  obtain ⟨y, hget⟩ := hget
  have hne : ((((b :: bs).map fun b => [D.int IntKind.u8 b]).length : Nat) : Int) ≠ 0 := by simp only [List.length_map, List.length_cons]; omega
  have hgt : decide (((((b :: bs).map fun b => [D.int IntKind.u8 b]).length : Nat) : Int) > 0) = true := decide_eq_true (by simp only [List.length_map, List.length_cons]; omega)
  have hln : ((b :: bs).map fun b => [D.int IntKind.u8 b]).length = bs.length + 1 := by simp
  have e1 : iadd .i64 (nx : Int) 1 = ((nx + 1 : Nat) : Int) := iadd_nat (b := 1) (by omega)
  generalize nx % (bs.length + 1) = m at hmd hlt hget
  repeat' first | ((first | refine LookP.mk _ (by first | rfl | exact hget) ?_ | refine ShlP.mk _ (by first | (simp only [List.set, over, List.take, List.drop, List.append_eq, List.nil_append, List.cons_append, List.length]; rfl) | rfl) ?_ | refine And.intro (by first | exact hne | exact ⟨Int.natCast_nonneg _, by rw [hln]; omega⟩ | assumption | exact ⟨by kernel_rfl, rfl⟩ | decide | omega | exact ⟨rfl, by decide, by simp only [List.length_map, Nat.zero_add]; omega⟩) ?_ | refine knownB hgt ?_ | rw [hmd] | rw [e1] | refine HpP.force ?_); conv => whnf) | (intro t ht; cases t <;> conv => whnf)
  exact fin ⟨_, _, nx + 1, Nat.le_refl _, u32_ge _, u32_lt _, rfl, rfl⟩
structure SC {ι : Type} (f : FuncId) (args : List D) (bs : List Int) (u : Bool) (cnt n0 : Nat) (dof : ι → D) (Q : ι → Prop) : Prop where
 fn : IsFn Pr f
 call : ∀ (nx : Nat) (st : Int), nx + cnt ≤ 4611686018427387904 → ACall Pr GG f (.ptr 0 3 0 0 :: args.map .d) [(0, some (storeB bs u nx st))] n0 fun v H n => ∃ (i : ι) (st' : Int) (nx' : Nat), nx' ≤ nx + cnt ∧ Q i ∧ v = .d (dof i) ∧ H = [(0, some (storeB bs u nx' st'))] ∧ n = n0
variable {ι : Type} {f : FuncId} {args : List D} {bs : List Int} {u : Bool} {cnt n0 : Nat} {dof : ι → D} {Q : ι → Prop}
theorem sc_mk (hf : IsFn Pr f) (hn : 0 < n0)
  (h : ∀ (nx : Nat) (st : Int), nx + cnt ≤ 4611686018427387904 → ACall Pr GG f (.ptr 0 3 0 0 :: args.map .d) [(0, some (storeB bs u nx st))] n0 fun v H _ => ∃ (i : ι) (st' : Int) (nx' : Nat), nx' ≤ nx + cnt ∧ Q i ∧ v = .d (dof i) ∧ H.get 0 = some (storeB bs u nx' st')) : SC f args bs u cnt n0 dof Q := by
 refine ⟨hf, fun nx st hb => acall_sub (h nx st hb) ?_⟩
 rintro v H n ⟨i, st', nx', h1, h2, rfl, h4⟩
 refine ⟨.d (dof i), [(0, some (storeB bs u nx' st'))], n0, ?_, i, st', nx', h1, h2, rfl, rfl, rfl⟩
 exact keep_env (Nat.le_refl _) ⟨⟨rfl, rfl⟩, trivial⟩ ⟨⟨hn, _, rfl, h4, below_arr rfl⟩, trivial⟩ trivial
theorem sc_use {nx0 nx : Nat} {st : Int} {H : AHeap} {k : AV → AHeap → Nat → Prop} (h : SC f args bs u cnt n0 dof Q) (hn : nx0 ≤ n0) (hb : nx + cnt ≤ 4611686018427387904)
  (hg : H.get 0 = some (storeB bs u nx st)) (hk : ∀ (i : ι) (st' : Int) (nx' : Nat), nx' ≤ nx + cnt → Q i → k (.d (dof i)) ((0, some (storeB bs u nx' st')) :: H) n0) : CallVC Pr GG f (.ptr 0 3 0 0 :: args.map .d) H nx0 k := by
 refine ⟨h.fn, acall_frame (h.call nx st hb) hn (fun m b hm => ?_) ?_⟩
 ·rw [get_consI] at hm
  by_cases e : m = 0
  ·rw [if_pos e] at hm; rw [e, hg, hm]
  ·rw [if_neg e] at hm; cases hm
 ·rintro v H1 n ⟨d, st', nx', h1, h2, rfl, rfl, rfl⟩
  refine ⟨_, fun m b hm => ?_, hk d st' nx' h1 h2⟩
  rw [get_consI] at hm
  by_cases e : m = 0
  ·rw [if_pos e] at hm; left; rw [get_consI, if_pos e, hm]
  ·rw [if_neg e] at hm
   right
   exact ⟨by rw [get_consI, if_neg e]; rfl, hm⟩
theorem sc147 (bs : List Int) (u : Bool) (n0 : Nat) (hn : 0 < n0) (hbs : bs.length ≤ 1000) : SC 147 [] bs u 1 n0 (fun x : Int => .int .u32 x) fun x => 0 ≤ x ∧ x < 4294967296 :=
 sc_mk (isFn_of Tryz.func147 chk147) hn fun nx st hb => acall_mono (draw147 bs u nx st n0 (by omega) hbs) fun v H n ⟨x, st', nx', h1, h2, h3, h4, h5⟩ => ⟨x, st', nx', h1, ⟨h2, h3⟩, h4, h5⟩
theorem chk71 : chkFn Tryz.f71 = true := by kernel_rfl
theorem less_val {x : Int} {m : Nat} (x0 : 0 ≤ x) (x1 : x < 4294967296) (hm : 0 < m) : ∃ y : Nat, y < m ∧ (IntKind.i64.wrap (ishr .u32 x 4)).tmod m = y := by
 have h1 := shr_ge (b := 4) x0
 have h2 := shr_lt (b := 4) x0 x1
 generalize ishr .u32 x 4 = z at h1 h2
 have e : IntKind.i64.wrap z = z := by rw [IntKind.wrap_i64]; omega
 refine ⟨(z % m).toNat, ?_, ?_⟩
 ·have := Int.emod_lt_of_pos z (show (0 : Int) < m by omega)
  have := Int.emod_nonneg z (show (m : Int) ≠ 0 by omega)
  omega
 ·rw [e, Int.tmod_eq_emod_of_nonneg h1]
  have := Int.emod_nonneg z (show (m : Int) ≠ 0 by omega)
  omega
theorem sc71 (bs : List Int) (u : Bool) (n0 m : Nat) (hn : 0 < n0) (hbs : bs.length ≤ 1000) (hm : 0 < m) : SC 71 [iD m] bs u 1 n0 (fun y : Nat => iD y) fun y => y < m := by
 have c1 := sc147 bs u n0 hn hbs
 have hgt : decide ((m : Int) ≤ 0) = false := decide_eq_false (by omega)
 refine sc_mk (isFn_of Tryz.func71 chk71) hn fun nx st hb => ?_
 refine fn_walk pok Tryz.func71 chk71 ?_
 conv => whnf
 repeat' first | ((first | refine LookP.mk _ rfl ?_ | refine ShlP.mk _ (by first | (simp only [List.set, over, List.take, List.drop, List.append_eq, List.nil_append, List.cons_append, List.length]; rfl) | rfl) ?_ | refine And.intro (by first | assumption | exact ⟨by kernel_rfl, rfl⟩ | decide | omega | exact ⟨rfl, by decide, by simp only [List.length_map, Nat.zero_add]; omega⟩) ?_ | refine knownB hgt ?_ | refine HpP.force ?_); conv => whnf) | (intro t ht; cases t <;> conv => whnf)
 refine sc_use c1 (Nat.le_refl _) hb rfl ?_
 intro x st' nx' h1 hx
 obtain ⟨y, y1, y2⟩ := less_val hx.1 hx.2 hm
 conv => whnf
 repeat' first | ((first | refine LookP.mk _ rfl ?_ | refine ShlP.mk _ (by first | (simp only [List.set, over, List.take, List.drop, List.append_eq, List.nil_append, List.cons_append, List.length]; rfl) | rfl) ?_ | (refine And.intro (by first | exact (by omega : (m : Int) ≠ 0) | assumption | exact ⟨by kernel_rfl, rfl⟩ | decide | omega | exact ⟨rfl, by decide, by simp only [List.length_map, Nat.zero_add]; omega⟩) ?_) | refine HpP.force ?_); conv => whnf) | (intro t ht; cases t <;> conv => whnf)
 exact fin ⟨y, st', nx', h1, y1, congrArg (fun n => AV.d (iD n)) y2, rfl⟩
theorem chk63 : chkFn Tryz.f63 = true := by kernel_rfl
theorem sc63 (bs : List Int) (u : Bool) (n0 m : Nat) (hn : 0 < n0) (hbs : bs.length ≤ 1000) (hm : 0 < m) (hm2 : m < 1000000) : SC 63 [iD 1, iD m] bs u 1 n0 (fun y : Nat => iD y) fun y => 1 ≤ y ∧ y ≤ m := by
 have c1 := sc71 bs u n0 m hn hbs hm
 have e1 : iadd .i64 (isub .i64 (m : Int) 1) 1 = (m : Int) := by rw [isub_eq (by omega) (by omega), iadd_eq (by omega) (by omega)]; omega
 refine sc_mk (isFn_of Tryz.func63 chk63) hn fun nx st hb => ?_
 refine fn_walk pok Tryz.func63 chk63 ?_
 conv => whnf
 repeat' first | ((first | refine LookP.mk _ rfl ?_ | refine ShlP.mk _ (by first | (simp only [List.set, over, List.take, List.drop, List.append_eq, List.nil_append, List.cons_append, List.length]; rfl) | rfl) ?_ | refine And.intro (by first | assumption | exact ⟨by kernel_rfl, rfl⟩ | decide | omega | exact ⟨rfl, by decide, by simp only [List.length_map, Nat.zero_add]; omega⟩) ?_ | rw [e1] | refine HpP.force ?_); conv => whnf) | (intro t ht; cases t <;> conv => whnf)
 refine sc_use c1 (Nat.le_refl _) hb rfl ?_
 intro y st' nx' h1 hy
 have e2 : iadd .i64 1 (y : Int) = ((1 + y : Nat) : Int) := iadd_nat (a := 1) (by omega)
 conv => whnf
 repeat' first | ((first | refine LookP.mk _ rfl ?_ | refine ShlP.mk _ (by first | (simp only [List.set, over, List.take, List.drop, List.append_eq, List.nil_append, List.cons_append, List.length]; rfl) | rfl) ?_ | refine And.intro (by first | assumption | exact ⟨by kernel_rfl, rfl⟩ | decide | omega | exact ⟨rfl, by decide, by simp only [List.length_map, Nat.zero_add]; omega⟩) ?_ | refine HpP.force ?_); conv => whnf) | (intro t ht; cases t <;> conv => whnf)
 exact fin ⟨1 + y, st', nx', h1, ⟨by omega, by omega⟩, congrArg (fun n => AV.d (iD n)) e2, rfl⟩
end Go.Tz
namespace Go.AL
open Go
theorem acall_freeze1 {P : Program} {G : Nat → Option (List D)} {f : FuncId} {args : List AV} {H0 : AHeap} {n0 : Nat} {K K' : AV → AHeap → Nat → Prop} (h : ACall P G f args H0 n0 K) (hK : ∀ v H n, K v H n → ∃ nm b d, H.get nm = some b ∧ AsD [(nm, some b)] v d ∧ K' (.d d) (dels [nm] H) n) : ACall P G f args H0 n0 K' := by
 intro C vs hH hU hl hr
 refine (h C vs hH hU hl hr).mono ?_
 rintro e w' ⟨x, v, H', n, C', rfl, rfl, hk, hv, hHR, hU', hT⟩
 obtain ⟨nm, b, d, hg, ha, hk'⟩ := hK v H' n hk
 obtain ⟨C2, e1, e2, e3, g, tt, r, q⟩ := hrel_freezes [nm] hHR
 have hHL : HRel G C' [(nm, some b)] := hrel_dropS hHR fun m bl h => by
  by_cases em : m = nm
  ·subst em; rw [get_cons_same] at h; rw [hg, ← h]
  ·rw [get_cons_ne _ _ em] at h; cases h
 have hd : DRel C2.w C2.RO d x := by
  have := asD_relR hHL (RO := C2.RO) r (fun m bl j h1 h2 => by
   by_cases em : m = nm
   ·subst em; exact q m _ j (by simp) hg h2
   ·rw [get_cons_ne _ _ em] at h1; cases h1) ha x hv
  rw [e1]; exact this
 exact ⟨x, .d d, _, n, C2, rfl, e1, hk', .d _ _ hd, g, fun m hm => hU' m (by rw [← e2]; exact hm), tr_step hT tt⟩
end Go.AL
namespace Go.Tz
open Go Go.AL Go.Proofs Go.Shelf
theorem insert146n {G : Nat → Option (List D)} {nv n0 : Nat} (x : Int) : ACall Pr G 146 [.d (.sl [] true), .d (iD 0), .sl nv 1 0 1 1 true] [(nv, some (.arr 1 [[.d (iD x)]]))] n0
   fun v H n => ∃ r' : Nat, 1 ≤ r' ∧ r' ≤ 9223372036854775807 ∧ v = .sl n0 1 0 1 r' true ∧ H = [(n0, some (numsB [x]))] ∧ n = n0 + 1 := by
 intro C vs hH hU hsz hr
 have hn : ¬ C.U n0 := fun h => Nat.lt_irrefl _ (hU n0 h)
 have r0 := vrel_d (hr 0 _ rfl)
 have r1 := vrel_int (hr 1 _ rfl)
 have r2 := hr 2 _ rfl
 rw [arr3 (vs := vs) (by simpa using hsz), r1]
 have hgv : AHeap.get [(nv, some (Blk.arr 1 [[.d (iD x)]]))] nv = some (.arr 1 [[.d (iD x)]]) := by rw [get_consI, if_pos rfl]
 rcases vrel_sl r2 with ⟨kv, cv, csv, ev, fzv, hUv, hbv, hlv, hrv, htv, hhv, hsv, hx2⟩ | ⟨_, h, _⟩
 rotate_left
 ·cases h
 obtain ⟨csv0, ev0, hhv0, hrov, _, _, hcsv⟩ := brel_flat (hH.blk nv _ hgv).2 hbv
 rw [hhv] at hhv0; cases hhv0
 have hv0 : csv[0]? = some (.int .i64 x) := by
  obtain ⟨y, h1, h2⟩ := hcsv 0 (.d (iD x)) rfl
  rw [h1, vrel_int h2]
 have hvs : ∀ j v, [Value.int .i64 x][j]? = some v → C.w.cell? ⟨kv, 0 * 1 + j, none⟩ = some v := fun j v hj => by
  match j, hj with
  | 0, hj => cases hj; rw [cell_of hhv]; exact hv0
 have h1v : ∀ v ∈ [Value.int .i64 x], v.oneCell' = true := fun v hv => by rw [List.mem_singleton.1 hv]; rfl
 have hbase : ∃ a c, vs.getD 0 undef = .slice a 0 c ∧ c = 0 := by
  generalize vs.getD 0 undef = y at r0
  cases r0 with
  | sl0 _ a c ht => exact ⟨a, c, rfl, ht rfl⟩
  | sl _ _ b o c sz ws hro hc ht hsz hm hr => exact ⟨_, c, rfl, ht rfl⟩
 obtain ⟨a, c, ha, hc0⟩ := hbase
 subst hc0
 rw [ha, hx2]
 refine (Any2.slices_Insert_int_end_grow lays21 a 0 0 kv (0 * 1) 1 cv [] [.int .i64 x] C.w (by decide) (Nat.le_refl 0) (by decide) (by decide) rfl rfl (fun _ => rfl) (fun a _ j v hj => by simp at hj) hvs h1v).mono ?_
 rintro e w' ⟨rfl, rfl⟩
 have hg2 := grownCap_ge C.w (0 + 1) 0 (rnI.t 3)
 have hg3 := grownCap_le_maxLen C.w (0 + 1) 0 (rnI.t 3) (by unfold maxLen; omega)
 generalize grownCap C.w (0 + 1) 0 (rnI.t 3) = cap at hg2 hg3 ⊢
 have hc := nw_drew (nw_alloc C.w.drew (([] ++ [Value.int .i64 x]).toArray ++ Builtin.zeroCells (Value.int .i64 0).cells (cap - (0 + 1))) (rnI.t 3))
 have hq : ∀ (q : Nat) (v : Int), [x][q]? = some v → (([] ++ [Value.int .i64 x]).toArray ++ Builtin.zeroCells (Value.int .i64 0).cells (cap - (0 + 1)))[q]? = some (.int .i64 v) := fun q v hq => by
  match q, hq with
  | 0, hq => cases hq; rw [Array.getElem?_append_left (by simp)]; rfl
 obtain ⟨C', e1, e2, e3, e4, e5, e6⟩ := made2 (S := 1) hH hn hc (numsB_len [x]) (ints_rel hq)
 obtain ⟨e, at2⟩ := hc.at_
 have hsize : cap ≤ (([] ++ [Value.int .i64 x]).toArray ++ Builtin.zeroCells (Value.int .i64 0).cells (cap - (0 + 1))).size := by
  simp [Builtin.zeroCells, Value.cells]; omega
 refine ⟨_, _, _, _, C', rfl, e1, ⟨cap, hg2, by unfold maxLen at hg3; omega, rfl, rfl, rfl⟩, ?_, hrel_dropS e4 ?_, fun m hm => ?_, e5.anti ?_⟩
 ·have := VRel.sl (C := C') n0 1 0 1 cap true C.w.heap.size cap _ e (0, 0) e3 e2 hg2 (Nat.le_refl _) (fun _ => rfl) (by rw [e1]; exact at2) (by simpa using hsize)
  simpa using this
 ·intro a b hab
  rw [get_consI] at hab
  by_cases ea : a = n0
  ·rw [if_pos ea] at hab; rw [get_consI, if_pos ea]; exact hab
  ·rw [if_neg ea] at hab; cases hab
 ·rcases e6 m hm with h | h
  ·have := hU m h; omega
  ·omega
 ·intro a b hab
  rw [get_consI] at hab
  by_cases ea : a = n0
  ·rw [if_pos ea] at hab; rw [get_consI, if_pos ea]; exact hab
  ·rw [if_neg ea] at hab; cases hab
end Go.Tz
namespace Go.Tz
open Go Go.AL Go.Proofs
theorem ins_use {nm nv nx0 i r : Nat} {H : AHeap} {l : List Int} {x : Int} {k : AV → AHeap → Nat → Prop} (hi : i ≤ l.length) (hbig : l.length ≤ 1000) (hne : nm ≠ nv) (hr63 : r ≤ 9223372036854775807) (hg : H.get nm = some (numsB l)) (hgv : H.get nv = some (.arr 1 [[.d (iD x)]]))
  (hk : ∀ r' : Nat, l.length + 1 ≤ r' → r' ≤ 9223372036854775807 → k (.sl nx0 1 0 (l.length + 1) r' true) ((nx0, some (numsB (insL l i x))) :: (nm, none) :: (nv, none) :: H) (nx0 + 1)) :
  CallVC Pr GG 146 [.sl nm 1 0 l.length r true, .d (iD i), .sl nv 1 0 1 1 true] H nx0 k := by
 refine ⟨isFn146, acall_frame (insert146 (n0 := nx0) x hi hbig hne hr63) (Nat.le_refl _) (fun m b hm => ?_) ?_⟩
 ·rw [get_consI, get_consI] at hm
  by_cases e : m = nm
  ·rw [if_pos e] at hm; rw [e, hg, hm]
  ·rw [if_neg e] at hm
   by_cases e2 : m = nv
   ·rw [if_pos e2] at hm; rw [e2, hgv, hm]
   ·rw [if_neg e2] at hm; cases hm
 ·rintro v H1 n ⟨r', h1, h2, rfl, rfl, rfl⟩
  refine ⟨_, fun m b hm => ?_, hk r' h1 h2⟩
  rw [get_consI] at hm
  by_cases e : m = nx0
  ·rw [if_pos e] at hm; left; rw [get_consI, if_pos e, hm]
  ·rw [if_neg e] at hm
   right
   obtain ⟨a1, hm⟩ := get_drop hm
   obtain ⟨a2, hm⟩ := get_drop hm
   exact ⟨by rw [get_consI, if_neg a1, get_consI, if_neg a2]; rfl, hm⟩
theorem ins_useL {nm nv nx0 i r n : Nat} {H : AHeap} {l : List Int} {x : Int} {k : AV → AHeap → Nat → Prop} (hl : l.length = n) (hi : i ≤ n) (hbig : n ≤ 1000) (hne : nm ≠ nv) (hr63 : r ≤ 9223372036854775807) (hg : H.get nm = some (numsB l)) (hgv : H.get nv = some (.arr 1 [[.d (iD x)]]))
  (hk : ∀ r' : Nat, n + 1 ≤ r' → r' ≤ 9223372036854775807 → k (.sl nx0 1 0 (n + 1) r' true) ((nx0, some (numsB (insL l i x))) :: (nm, none) :: (nv, none) :: H) (nx0 + 1)) :
  CallVC Pr GG 146 [.sl nm 1 0 n r true, .d (iD i), .sl nv 1 0 1 1 true] H nx0 k := by
 subst hl
 exact ins_use hi hbig hne hr63 hg hgv hk
theorem insn_use {nv nx0 : Nat} {H : AHeap} {x : Int} {k : AV → AHeap → Nat → Prop} (hgv : H.get nv = some (.arr 1 [[.d (iD x)]]))
  (hk : ∀ r' : Nat, 1 ≤ r' → r' ≤ 9223372036854775807 → k (.sl nx0 1 0 1 r' true) ((nx0, some (numsB [x])) :: (nv, none) :: H) (nx0 + 1)) :
  CallVC Pr GG 146 [.d (.sl [] true), .d (iD 0), .sl nv 1 0 1 1 true] H nx0 k := by
 refine ⟨isFn146, acall_frame (insert146n (n0 := nx0) x) (Nat.le_refl _) (fun m b hm => ?_) ?_⟩
 ·rw [get_consI] at hm
  by_cases e2 : m = nv
  ·rw [if_pos e2] at hm; rw [e2, hgv, hm]
  ·rw [if_neg e2] at hm; cases hm
 ·rintro v H1 n ⟨r', h1, h2, rfl, rfl, rfl⟩
  refine ⟨_, fun m b hm => ?_, hk r' h1 h2⟩
  rw [get_consI] at hm
  by_cases e : m = nx0
  ·rw [if_pos e] at hm; left; rw [get_consI, if_pos e, hm]
  ·rw [if_neg e] at hm
   right
   obtain ⟨a2, hm⟩ := get_drop hm
   exact ⟨by rw [get_consI, if_neg a2]; rfl, hm⟩
def Ord (n : Nat) (l : List Int) : Prop := l.length = n ∧ l.Nodup ∧ ∀ x, x ∈ l → 0 ≤ x ∧ x < n
theorem ord_ins {n i : Nat} {l : List Int} (h : Ord n l) (hi : i ≤ n) : Ord (n + 1) (insL l i n) := by
 obtain ⟨h1, h2, h3⟩ := h
 have hp : (insL l i (n : Int)).Perm ((n : Int) :: l) := by
  unfold insL
  refine List.perm_middle.trans ?_
  rw [List.take_append_drop]
 refine ⟨by rw [insL_len (by omega), h1], hp.nodup_iff.2 (List.nodup_cons.2 ⟨fun hm => ?_, h2⟩), fun x hx => ?_⟩
 ·have := (h3 _ hm).2; omega
 ·rcases List.mem_cons.1 (hp.mem_iff.1 hx) with rfl | q
  ·exact ⟨by omega, by omega⟩
  ·have := h3 x q; exact ⟨this.1, by omega⟩
theorem chk70 : chkFn Tryz.f70 = true := by kernel_rfl
abbrev stOr (bs : List Int) (u : Bool) (n : Nat) (s : Nat × List Int × Nat × Int × Nat) : St := match s.1 with
 | 0 => ⟨[(0, .ptr 0 3 0 0), (5, .d (.sl [] true)), (7, .d (iD n)), (8, .d (iD (0 : Nat)))], [(0, some (storeB bs u s.2.2.2.2 s.2.2.2.1))], 100⟩
 | i + 1 => ⟨[(0, .ptr 0 3 0 0), (5, .sl 100 1 0 (i + 1) s.2.2.1 true), (7, .d (iD n)), (8, .d (iD (i + 1 : Nat)))], [(0, some (storeB bs u s.2.2.2.2 s.2.2.2.1)), (100, some (numsB s.2.1))], 101⟩
theorem order70 (bs : List Int) (u : Bool) (n nx : Nat) (st : Int) (hn0 : 0 < n) (hn : n ≤ 100) (hbs : bs.length ≤ 1000) (hb : nx + n ≤ 4611686018427387904) :
  ACall Pr GG 70 [.ptr 0 3 0 0, .d (iD n)] [(0, some (storeB bs u nx st))] 100 fun v H _ => ∃ (l : List Int) (t : Bool) (st' : Int) (nx' : Nat), nx' ≤ nx + n ∧ Ord n l ∧ v = .d (intsD l t) ∧ H.get 0 = some (storeB bs u nx' st') := by
 refine acall_mono (acall_freeze1 (K' := fun v H _ => ∃ (l : List Int) (t : Bool) (st' : Int) (nx' : Nat), nx' ≤ nx + n ∧ Ord n l ∧ v = .d (intsD l t) ∧ H.get 0 = some (storeB bs u nx' st')) (K := fun v H _ => ∃ (l : List Int) (r : Nat) (st' : Int) (nx' : Nat), nx' ≤ nx + n ∧ Ord n l ∧ 0 < n ∧ v = .sl 100 1 0 n r true ∧ H.get 0 = some (storeB bs u nx' st') ∧ H.get 100 = some (numsB l)) ?_ ?_) fun _ _ _ h => h
 ·refine fn_walk pok Tryz.func70 chk70 ?_
  conv => whnf
  repeat' first | ((first | refine LookP.mk _ rfl ?_ | refine ShlP.mk _ (by first | (simp only [List.set, over, List.take, List.drop, List.append_eq, List.nil_append, List.cons_append, List.length]; rfl) | rfl) ?_ | refine And.intro (by first | assumption | exact ⟨by kernel_rfl, rfl⟩ | decide | omega | exact ⟨rfl, by decide, by simp only [List.length_map, Nat.zero_add]; omega⟩) ?_ | refine HpP.force ?_); conv => whnf) | (intro t ht; cases t <;> conv => whnf)
  refine loop_use2 (σ := { s : Nat × List Int × Nat × Int × Nat // s.1 ≤ n ∧ Ord s.1 s.2.1 ∧ s.2.2.1 ≤ 9223372036854775807 ∧ s.2.2.2.2 ≤ nx + s.1 }) (fun s => stOr bs u n s.1) (fun s => n - s.1.1) ⟨(0, [], 0, st, nx), Nat.zero_le _, ⟨rfl, List.nodup_nil, fun x hx => by cases hx⟩, Nat.zero_le _, Nat.le_refl _⟩ ?_ (by kernel_rfl) ?_
  ·refine keep_env (by first | exact Nat.zero_le _ | exact Nat.le_of_ble_eq_true rfl) ?_ ?_ trivial
   ·repeat' first | exact trivial | refine ⟨⟨by first | rfl | assumption, rfl⟩, ?_⟩
   ·repeat' first | exact trivial | refine ⟨⟨ltB rfl, _, rfl, by first | rfl | assumption, by first | exact below1 rfl | exact below_dblk _ _ _ | exact below_arr rfl⟩, ?_⟩
  ·rintro ⟨⟨i, l, r, st', nx'⟩, h1, h2, h3, h4⟩ A hA
   dsimp only at h1 h2 h3 h4 hA ⊢
   have e1 : iadd .i64 (i : Int) 1 = ((i + 1 : Nat) : Int) := iadd_nat (b := 1) (by omega)
   cases i with
   | zero =>
    have c1 := sc71 bs u 101 1 (by decide) hbs (by decide)
    conv => whnf
    repeat' first | ((first | refine LookP.mk _ rfl ?_ | refine ShlP.mk _ (by first | (simp only [List.set, over, List.take, List.drop, List.append_eq, List.nil_append, List.cons_append, List.length]; rfl) | rfl) ?_ | refine And.intro (by first | assumption | exact ⟨by kernel_rfl, rfl⟩ | decide | omega | exact ⟨rfl, by decide, by simp only [List.length_map, Nat.zero_add]; omega⟩) ?_ | refine HpP.force ?_); conv => whnf) | (intro t ht; cases t <;> conv => whnf)
    ·exfalso; simp at ht; omega
    have e0 : iadd .i64 ((0 : Nat) : Int) 1 = ((1 : Nat) : Int) := rfl
    rw [e0]
    refine sc_use (nx := nx') (st := st') c1 (by decide) (by omega) rfl ?_
    intro y st2 nx2 g1 g2
    obtain rfl : y = 0 := by omega
    conv => whnf
    repeat' first | ((first | refine LookP.mk _ rfl ?_ | refine ShlP.mk _ (by first | (simp only [List.set, over, List.take, List.drop, List.append_eq, List.nil_append, List.cons_append, List.length]; rfl) | rfl) ?_ | refine And.intro (by first | assumption | exact ⟨by kernel_rfl, rfl⟩ | decide | omega | exact ⟨rfl, by decide, by simp only [List.length_map, Nat.zero_add]; omega⟩) ?_ | refine HpP.force ?_); conv => whnf) | (intro t ht; cases t <;> conv => whnf)
    refine insn_use rfl ?_
    intro r' r1 r2
    conv => whnf
    repeat' first | ((first | refine LookP.mk _ rfl ?_ | refine ShlP.mk _ (by first | (simp only [List.set, over, List.take, List.drop, List.append_eq, List.nil_append, List.cons_append, List.length]; rfl) | rfl) ?_ | refine And.intro (by first | assumption | exact ⟨by kernel_rfl, rfl⟩ | decide | omega | exact ⟨rfl, by decide, by simp only [List.length_map, Nat.zero_add]; omega⟩) ?_ | refine HpP.force ?_); conv => whnf) | (intro t ht; cases t <;> conv => whnf)
    refine hA _ ⟨(1, [((0 : Nat) : Int)], r', st2, nx2), by omega, ord_ins (n := 0) (i := 0) ⟨rfl, List.nodup_nil, fun x hx => by cases hx⟩ (Nat.le_refl 0), r2, by show nx2 ≤ nx + 1; omega⟩ ?_ (by show n - 1 < n - 0; omega)
    first | refine ren_env [(100, 102)] ?_ ?_ ?_ trivial | refine ren_envB [(100, 102)] rfl rfl ?_ ?_ ?_ trivial
    ·repeat' first | exact trivial | refine ⟨⟨by first | rfl | assumption | exact congrArg (fun n => AV.d (iD n)) e0, rfl⟩, ?_⟩
    ·repeat' first | exact trivial | refine ⟨⟨ltB rfl, _, rfl, by first | rfl | assumption | exact get_ren rfl (by first | rfl | assumption | exact get_ren rfl rfl) | exact get_ren rfl rfl, by first | exact below1 rfl | exact below_dblk _ _ _ | exact below_arr rfl⟩, ?_⟩
    ·repeat' first | exact trivial | (refine And.intro ?_ ?_) | (exact fun _ => rfl) | (exact fun h => absurd h (Nat.ne_of_beq_eq_false rfl))
   | succ i =>
    have c1 := sc71 bs u 101 (i + 1 + 1) (by decide) hbs (by omega)
    have hl : l.length = i + 1 := h2.1
    conv => whnf
    repeat' first | ((first | refine LookP.mk _ rfl ?_ | refine ShlP.mk _ (by first | (simp only [List.set, over, List.take, List.drop, List.append_eq, List.nil_append, List.cons_append, List.length]; rfl) | rfl) ?_ | refine And.intro (by first | assumption | exact ⟨by kernel_rfl, rfl⟩ | decide | omega | exact ⟨rfl, by decide, by simp only [List.length_map, Nat.zero_add]; omega⟩) ?_ | refine HpP.force ?_); conv => whnf) | (intro t ht; cases t <;> conv => whnf)
    ·have hin : i + 1 = n := by
      have := of_decide_eq_false ht
      omega
     subst hin
     exact fin ⟨l, r, st', nx', h4, h2, hn0, rfl, rfl, rfl⟩
    have hlt : i + 1 < n := by
     have := of_decide_eq_true ht
     omega
    rw [e1]
    refine sc_use (nx := nx') (st := st') c1 (by decide) (by omega) rfl ?_
    intro y st2 nx2 g1 g2
    conv => whnf
    repeat' first | ((first | refine LookP.mk _ rfl ?_ | refine ShlP.mk _ (by first | (simp only [List.set, over, List.take, List.drop, List.append_eq, List.nil_append, List.cons_append, List.length]; rfl) | rfl) ?_ | refine And.intro (by first | assumption | exact ⟨by kernel_rfl, rfl⟩ | decide | omega | exact ⟨rfl, by decide, by simp only [List.length_map, Nat.zero_add]; omega⟩) ?_ | refine HpP.force ?_); conv => whnf) | (intro t ht; cases t <;> conv => whnf)
    refine ins_useL hl (by omega) (by omega) (by decide) h3 rfl rfl ?_
    intro r' r1 r2
    conv => whnf
    repeat' first | ((first | refine LookP.mk _ rfl ?_ | refine ShlP.mk _ (by first | (simp only [List.set, over, List.take, List.drop, List.append_eq, List.nil_append, List.cons_append, List.length]; rfl) | rfl) ?_ | refine And.intro (by first | assumption | exact ⟨by kernel_rfl, rfl⟩ | decide | omega | exact ⟨rfl, by decide, by simp only [List.length_map, Nat.zero_add]; omega⟩) ?_ | refine HpP.force ?_); conv => whnf) | (intro t ht; cases t <;> conv => whnf)
    refine hA _ ⟨(i + 1 + 1, insL l y ((i + 1 : Nat) : Int), r', st2, nx2), hlt, ord_ins h2 (by omega), r2, by show nx2 ≤ nx + (i + 1 + 1); omega⟩ ?_ (by show n - (i + 1 + 1) < n - (i + 1); omega)
    first | refine ren_env [(100, 102)] ?_ ?_ ?_ trivial | refine ren_envB [(100, 102)] rfl rfl ?_ ?_ ?_ trivial
    ·repeat' first | exact trivial | refine ⟨⟨by first | rfl | assumption | exact congrArg (fun n => AV.d (iD n)) e1, rfl⟩, ?_⟩
    ·repeat' first | exact trivial | refine ⟨⟨ltB rfl, _, rfl, by first | rfl | assumption | exact get_ren rfl (by first | rfl | assumption | exact get_ren rfl (by rw [ren_dblk])) | exact get_ren rfl (by rw [ren_dblk]), by first | exact below1 rfl | exact below_dblk _ _ _ | exact below_arr rfl⟩, ?_⟩
    ·repeat' first | exact trivial | (refine And.intro ?_ ?_) | (exact fun _ => rfl) | (exact fun h => absurd h (Nat.ne_of_beq_eq_false rfl))
 ·rintro v H m ⟨l, r, st', nx', h1, h2, h3, rfl, g0, g1⟩
  have hd : AHeap.get (dels [100] H) 0 = some (storeB bs u nx' st') := by
   show (AHeap.del H 100).get 0 = _
   rw [get_del, if_neg (by decide)]; exact g0
  refine ⟨100, _, intsD l (true && decide (r = n)), g1, ?_, l, _, st', nx', h1, h2, rfl, hd⟩
  have := asD_pre (H := [(100, some (numsB l))]) (nm := 100) (sz := 1) (l := l.map fun x => [iD x]) (len := n) (room := r) (t := true) rfl (by rw [List.length_map, h2.1]; exact Nat.le_refl _)
  rwa [List.take_of_length_le (by rw [List.length_map, h2.1]; exact Nat.le_refl _)] at this
end Go.Tz
namespace Go.Tz
open Go Go.AL Go.Proofs
theorem sc70 (bs : List Int) (u : Bool) (n : Nat) (hn0 : 0 < n) (hn : n ≤ 100) (hbs : bs.length ≤ 1000) : SC 70 [iD n] bs u n 100 (fun p : List Int × Bool => intsD p.1 p.2) fun p => Ord n p.1 :=
 sc_mk (isFn_of Tryz.func70 chk70) (by decide) fun nx st hb => acall_mono (order70 bs u n nx st hn0 hn hbs hb) fun _ _ _ ⟨l, t, st', nx', h1, h2, h3, h4⟩ => ⟨(l, t), st', nx', h1, h2, h3, h4⟩
theorem chk140 : chkFn Tryz.f140 = true := by kernel_rfl
theorem ar140 (k : Int) : PC Pr GG 140 [iD k] (iD (arI k)) := by
 refine pc_walk pok Tryz.func140 chk140 ?_
 conv => whnf
 repeat' first | ((first | refine LookP.mk _ rfl ?_ | refine ShlP.mk _ (by first | (simp only [List.set, over, List.take, List.drop, List.append_eq, List.nil_append, List.cons_append, List.length]; rfl) | rfl) ?_ | refine And.intro (by first | assumption | exact ⟨by kernel_rfl, rfl⟩ | decide | omega | exact ⟨rfl, by decide, by simp only [List.length_map, Nat.zero_add]; omega⟩) ?_ | refine HpP.force ?_); conv => whnf) | (intro t ht; cases t <;> conv => whnf)
 all_goals refine fin ?_
 all_goals refine fiI ?_
 all_goals simp at *
 all_goals first | exact (ari1 (by omega)).symm | exact (ari2 (by omega)).symm | exact (ari3 (by omega)).symm | exact (ari0 (by omega)).symm
def cfL : List Int := [1, 2, 3, 4, 5, 6, 9, 10, 11]
abbrev cfD : D := .sl (cfL.map fun k => [iD k]) false
structure GtOk (w : Nat) (g : Gt) : Prop where
 chk : gchk g w 0 = 0
 kind : kindB g.k = true
 len : g.ws.length ≤ 2
 i0 : g.i = 0
theorem gt_ok {w a : Nat} {k : Int} {l : List Int} {t : Bool} (ho : Ord w l) (hk : kindB k = true) (ha : arI k = a) (haw : a ≤ w) : GtOk w ⟨k, l.take a, t, 0, 0⟩ := by
 obtain ⟨h1, h2, h3⟩ := ho
 have hk' := of_decide_eq_true hk
 have ha2 : a = 1 ∨ a = 2 := by
  rcases hk' with q | q
  ·rw [ari1 (by omega)] at ha; omega
  ·rw [ari2 q] at ha; omega
 have hlen : (l.take a).length = a := by rw [List.length_take, h1]; omega
 refine ⟨?_, hk, by show (l.take a).length ≤ 2; omega, rfl⟩
 unfold gchk
 dsimp only
 rw [if_neg (by omega), if_neg (by rw [hlen, ha]; simp)]
 have ho : outB w (l.take a) = false := List.any_eq_false.2 fun x hx => by
  have := h3 x (List.mem_of_mem_take hx)
  simp; omega
 have hd : dupB (l.take a) = false := dupB_no fun j hj => by
  rw [dupAt_lt hj]
  refine decide_eq_false fun hm => ?_
  obtain ⟨i, hi, he⟩ := List.mem_take_iff_getElem.1 hm
  have hnd : (l.take a).Nodup := h2.sublist (List.take_sublist _ _)
  exact List.pairwise_iff_getElem.1 hnd i j (by omega) hj (by omega) he
 rw [ho, hd, if_neg (by decide), if_neg (by decide)]
 unfold bitE
 dsimp only
 rw [if_neg (by omega), if_neg (by omega)]
theorem cf_get {y : Nat} (h : y < 9) : ∃ k : Int, (cfL.map fun k => [iD k])[(y : Int).toNat]? = some [iD k] ∧ kindB k = true ∧ ∃ a : Nat, arI k = a ∧ a ≤ 2 := by
 have : ((List.range 9).all fun y => match cfL[y]? with
  | some k => kindB k && (decide (arI k = 1) || decide (arI k = 2))
  | none => false) = true := by kernel_rfl
 have hy := List.all_eq_true.1 this y (List.mem_range.2 h)
 split at hy
 ·rename_i k hk
  simp only [Bool.and_eq_true, Bool.or_eq_true, decide_eq_true_eq] at hy
  refine ⟨k, by rw [Int.toNat_natCast, List.getElem?_map, hk]; rfl, hy.1, ?_⟩
  rcases hy.2 with q | q
  ·exact ⟨1, q, by decide⟩
  ·exact ⟨2, q, by decide⟩
 ·cases hy
theorem ints_len (l : List Int) : ∀ el : List D, el ∈ (l.map fun x => [iD x]) → el.length = 1 := fun el h => by
 obtain ⟨x, _, rfl⟩ := List.mem_map.1 h; rfl
theorem chk65 : chkFn Tryz.f65 = true := by kernel_rfl
theorem sc65 (bs : List Int) (u : Bool) (w : Nat) (hw : 1 ≤ w ∧ w ≤ 12) (hbs : bs.length ≤ 1000) : SC 65 [iD w, cfD] bs u 13 90 Gt.d fun g => GtOk w g := by
 have c1 := sc71 bs u 91 9 (by decide) hbs (by decide)
 have c2 := sc70 bs u w (by omega) (by omega) hbs
 refine sc_mk (isFn_of Tryz.func65 chk65) (by decide) fun nx st hb => ?_
 refine fn_walk pok Tryz.func65 chk65 ?_
 conv => whnf
 repeat' first | ((first | refine LookP.mk _ rfl ?_ | refine ShlP.mk _ (by first | (simp only [List.set, over, List.take, List.drop, List.append_eq, List.nil_append, List.cons_append, List.length]; rfl) | rfl) ?_ | refine And.intro (by first | assumption | exact ⟨by kernel_rfl, rfl⟩ | decide | omega | exact ⟨rfl, by decide, by simp only [List.length_map, Nat.zero_add]; omega⟩) ?_ | refine HpP.force ?_); conv => whnf) | (intro t ht; cases t <;> conv => whnf)
 refine sc_use (nx := nx) (st := st) c1 (by decide) (by omega) rfl ?_
 intro y st1 nx1 g1 g2
 obtain ⟨k, k1, k2, a, k3, k4⟩ := cf_get g2
 have c3 := ar140 k
 rw [k3] at c3
 conv => whnf
 repeat' first | ((first | refine LookP.mk _ (by first | rfl | exact k1) ?_ | refine ShlP.mk _ (by first | (simp only [List.set, over, List.take, List.drop, List.append_eq, List.nil_append, List.cons_append, List.length]; rfl) | rfl) ?_ | (refine And.intro (by first | exact ⟨Int.natCast_nonneg _, by simp only [List.length_map]; show _ < ((9 : Nat) : Int); omega⟩ | assumption | exact ⟨by kernel_rfl, rfl⟩ | decide | omega | exact ⟨rfl, by decide, by simp only [List.length_map, Nat.zero_add]; omega⟩) ?_) | refine pc_use c3 ?_ | refine pc_head c3 ?_ | refine HpP.force ?_); conv => whnf) | (intro t ht; cases t <;> conv => whnf)
 ·have hw2 : a ≤ w := by
   have := of_decide_eq_false ht
   omega
  refine sc_use (nx := nx1) (st := st1) c2 (by decide) (by omega) rfl ?_
  rintro ⟨l, t⟩ st2 nx2 g3 g4
  dsimp only at g4 ⊢
  have hsl : (0 ≤ (a : Int).toNat ∧ (a : Int).toNat ≤ (l.map fun x => [iD x]).length ∧ ∀ el : List D, el ∈ (l.map fun x => [iD x]) → el.length = 1) := ⟨Nat.zero_le _, by rw [List.length_map, g4.1]; omega, ints_len l⟩
  have hsE : (l.map fun x => [iD x]).take ((a : Int).toNat - 0) = (l.take a).map fun x => [iD x] := by rw [Int.toNat_natCast, Nat.sub_zero, List.map_take]
  conv => whnf
  repeat' first | ((first | refine LookP.mk _ rfl ?_ | refine ShlP.mk _ (by first | (simp only [List.set, over, List.take, List.drop, List.append_eq, List.nil_append, List.cons_append, List.length]; rfl) | rfl) ?_ | refine And.intro (by first | exact hsl | assumption | exact ⟨by kernel_rfl, rfl⟩ | decide | omega | exact ⟨rfl, by decide, by simp only [List.length_map, Nat.zero_add]; omega⟩) ?_ | refine pc_use c3 ?_ | refine pc_head c3 ?_ | rw [hsE] | refine HpP.force ?_); conv => whnf) | (intro t ht; cases t <;> conv => whnf)
  exact fin ⟨⟨k, l.take a, _, 0, 0⟩, st2, nx2, by omega, gt_ok g4 k2 k3 hw2, rfl, rfl⟩
 ·have c4 : PC Pr GG 140 [iD 1] (iD (1 : Nat)) := ar140 1
  refine sc_use (nx := nx1) (st := st1) c2 (by decide) (by omega) rfl ?_
  rintro ⟨l, t⟩ st2 nx2 g3 g4
  dsimp only at g4 ⊢
  have hsl : (0 ≤ ((1 : Nat) : Int).toNat ∧ ((1 : Nat) : Int).toNat ≤ (l.map fun x => [iD x]).length ∧ ∀ el : List D, el ∈ (l.map fun x => [iD x]) → el.length = 1) := ⟨Nat.zero_le _, by rw [List.length_map, g4.1]; omega, ints_len l⟩
  have hsE : (l.map fun x => [iD x]).take (((1 : Nat) : Int).toNat - 0) = (l.take 1).map fun x => [iD x] := by rw [Int.toNat_natCast, Nat.sub_zero, List.map_take]
  conv => whnf
  repeat' first | ((first | refine LookP.mk _ rfl ?_ | refine ShlP.mk _ (by first | (simp only [List.set, over, List.take, List.drop, List.append_eq, List.nil_append, List.cons_append, List.length]; rfl) | rfl) ?_ | refine And.intro (by first | exact hsl | assumption | exact ⟨by kernel_rfl, rfl⟩ | decide | omega | exact ⟨rfl, by decide, by simp only [List.length_map, Nat.zero_add]; omega⟩) ?_ | refine pc_use c4 ?_ | refine pc_head c4 ?_ | rw [hsE] | refine HpP.force ?_); conv => whnf) | (intro t ht; cases t <;> conv => whnf)
  exact fin ⟨⟨1, l.take 1, _, 0, 0⟩, st2, nx2, by omega, gt_ok (a := 1) g4 rfl rfl (by omega), rfl, rfl⟩
end Go.Tz
