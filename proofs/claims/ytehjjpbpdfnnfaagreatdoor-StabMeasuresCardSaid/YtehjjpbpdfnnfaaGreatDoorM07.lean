import Derived.Test.YtehjjpbpdfnnfaaGreatDoorM06
namespace Go.Tz
open Go Go.AL Go.Proofs Go.Ma
variable {G : Nat → Option (List D)}
theorem does213o {w n l : Nat} {q : Ps} {K : Int} {ws : List Int} {u : Bool} {b i : Int} (hq : q.w = w) (hws : ws.length ≤ 1000) (hj : idxI (fun k => decide ((n : Int) = k)) ws = -1) :
  PC Pr G 213 [iD n, iD l, .rop (Gt.mk K ws u b i).l 0, .rop q.l 0] (oneS w n l).d := by
 obtain ⟨qw, qx, qz, qp⟩ := q
 obtain rfl : qw = w := hq
 have h99 := idx99 (G := G) ws u (n : Int) (by omega)
 rw [hj] at h99
 have h1 := one212 (G := G) w n l (Int.natCast_nonneg _)
 generalize oneS w n l = m at h1 ⊢
 refine pc_walk pok Tryz.func213 chk213 ?_
 conv => whnf
 repeat' first | ((first | refine LookP.mk _ rfl ?_ | refine ShlP.mk _ (by first | (simp only [List.set, over, List.take, List.drop, List.append_eq, List.nil_append, List.cons_append, List.length]; rfl) | rfl) ?_ | refine pc_use h99 ?_ | refine pc_use h1 ?_ | refine HpP.force ?_); conv => whnf) | (intro t ht; cases t <;> conv => whnf)
 all_goals first | exact fin rfl | (exfalso; simp at ht; done)
theorem idx_one (n a : Nat) : idxI (fun k => decide ((n : Int) = k)) [(a : Int)] = if n = a then 0 else -1 := by
 unfold idxI
 by_cases h : n = a
 ·simp [h]
 ·have : ¬ (n : Int) = a := by omega
  simp [h, this]
theorem idx_two (n a b : Nat) : idxI (fun k => decide ((n : Int) = k)) [(a : Int), (b : Int)] = if n = a then 0 else if n = b then 1 else -1 := by
 unfold idxI
 by_cases h : n = a
 ·simp [h, List.findIdx?_cons]
 ·have : ¬ (n : Int) = a := by omega
  by_cases h2 : n = b
  ·simp [h2, List.findIdx?_cons] at h this ⊢
   simp [h, this]
  ·have h3 : ¬ (n : Int) = b := by omega
   simp [h, h2, this, h3, List.findIdx?_cons]
theorem does213 {w k a b n l : Nat} {q : Ps} {K : Int} (hK : K = k) {u : Bool} {bb i : Int} (hw : 1 ≤ w ∧ w ≤ 12) (hg : gR w k a b) (hq : q.w = w) (hn : n < w) (hl : l = 1 ∨ l = 2 ∨ l = 3) :
  PC Pr G 213 [iD n, iD l, .rop (Gt.mk K (wsOf k a b) u bb i).l 0, .rop q.l 0] (imgS w k a b n l).d := by
 have key : ∀ {px pz : Ps} {ws : List Int} {j : Int}, ws.length ≤ 1000 → idxI (fun k => decide ((n : Int) = k)) ws = j → 0 ≤ j → (nf px = gE k a b (eL n true false) ∧ Vl w px) → (nf pz = gE k a b (eL n false true) ∧ Vl w pz) →
   PC Pr G 214 [iD w, (Gt.mk K ws u bb i).d, iD j] (.tup [px.d, pz.d]) → PC Pr G 213 [iD n, iD l, .rop (Gt.mk K ws u bb i).l 0, .rop q.l 0] (imgS w k a b n l).d := by
  intro px pz ws j h1 h2 h3 h4 h5 h6
  have h := does213w (u := u) (b := bb) (i := i) hw hq hl h1 h2 h3 h4.2 h6
  obtain ⟨e1, e2, e3⟩ := img_by hw.2 hg hn h4 h5
  rcases hl with rfl | rfl | rfl
  ·rw [if_pos rfl, e1] at h; exact h
  ·rw [if_neg (by decide), if_neg (by decide), e3] at h; exact h
  ·rw [if_neg (by decide), if_pos rfl, e2] at h; exact h
 have out : ∀ {ws : List Int}, ws.length ≤ 1000 → idxI (fun k => decide ((n : Int) = k)) ws = -1 → n ≠ a → (9 ≤ k → n ≠ b) → PC Pr G 213 [iD n, iD l, .rop (Gt.mk K ws u bb i).l 0, .rop q.l 0] (imgS w k a b n l).d := by
  intro ws h1 h2 h3 h4
  have h := does213o (G := G) (w := w) (n := n) (l := l) (K := K) (u := u) (b := bb) (i := i) hq h1 h2
  rw [img_out hw.2 hg hn (by omega) h3 h4] at h
  exact h
 rcases hg with ⟨k1, k2, ha⟩ | ⟨k1, k2, ha, hb, hab⟩
 ·have e : wsOf k a b = [(a : Int)] := if_pos k2
  rw [e]
  by_cases h : n = a
  ·subst h
   obtain ⟨i1, i2⟩ := im1_nf (b := b) hw.2 k1 k2 ha
   exact key (by simp) (by rw [idx_one, if_pos rfl]) (Int.le_refl _) i1 i2 (images1 hK k1 k2 u bb i)
  ·exact out (by simp) (by rw [idx_one, if_neg h]) h (by omega)
 ·have e : wsOf k a b = [(a : Int), (b : Int)] := if_neg (by omega)
  rw [e]
  obtain ⟨⟨i1, i2⟩, i3, i4⟩ := im2_nf hw.2 k1 k2 ha hb hab
  by_cases h : n = a
  ·subst h
   exact key (by simp) (by rw [idx_two, if_pos rfl]) (Int.le_refl _) i1 i2 (images2 hw hK k1 k2 true u bb i)
  ·by_cases h2 : n = b
   ·subst h2
    exact key (j := 1) (by simp) (by rw [idx_two, if_neg h, if_pos rfl]) (by decide) i3 i4 (images2 hw hK k1 k2 false u bb i)
   ·exact out (by simp) (by rw [idx_two, if_neg h, if_neg h2]) h fun _ => h2
end Go.Tz
namespace Go.Tz
open Go Go.AL Go.Proofs Go.Ma
variable {G : Nat → Option (List D)}
def outS (w k a b X Z P n : Nat) : Ps := dec w (gE k a b (nf (ptS w X Z P n)))
theorem pt_vl {w X Z P n : Nat} (hX : X < 2 ^ w) (hZ : Z < 2 ^ w) (hP : P < 4) : Vl w (ptS w X Z P n) :=
 ⟨_, _, _, rfl, Nat.lt_of_le_of_lt (Nat.mod_le _ _) hX, Nat.lt_of_le_of_lt (Nat.mod_le _ _) hZ, hP⟩
theorem out_vl {w k a b X Z P n : Nat} (hw : w ≤ 12) (h : gR w k a b) (hX : X < 2 ^ w) (hZ : Z < 2 ^ w) (hP : P < 4) : Vl w (outS w k a b X Z P n) := thr_vl hw h (pt_vl hX hZ hP)
theorem nf_out (w k a b X Z P n : Nat) : nf (outS w k a b X Z P n) = gE k a b (nf (ptS w X Z P n)) := nf_dec w (gE_lt _ _ _ _)
theorem out_0 {w k a b X Z P : Nat} (hw : w ≤ 12) (h : gR w k a b) (hX : X < 2 ^ w) (hZ : Z < 2 ^ w) (hP : P < 4) : (⟨w, 0, 0, P⟩ : Ps) = outS w k a b X Z P 0 := by
 have e : (⟨w, 0, 0, P⟩ : Ps) = ptS w X Z P 0 := by
  unfold ptS mk
  rw [Nat.pow_zero, Nat.mod_one, Nat.mod_one]; rfl
 rw [e]
 exact nf_inj hw (pt_vl hX hZ hP) (out_vl hw h hX hZ hP) (by rw [nf_out]; exact pt_0 (gR_ok hw h))
theorem out_end {w k a b X Z P : Nat} (hX : X < 2 ^ w) (hZ : Z < 2 ^ w) : outS w k a b X Z P w = thrS w k a b (mk w X Z P) := by
 unfold outS thrS
 rw [pt_all hX hZ]
theorem out_skip {w k a b X Z P n : Nat} (hw : w ≤ 12) (h : gR w k a b) (hn : n < w) (hx : X.testBit n = false) (hz : Z.testBit n = false) : outS w k a b X Z P (n + 1) = outS w k a b X Z P n := by
 unfold outS
 rw [pt_skip (gR_ok hw h) (by omega) hx hz rfl]
theorem out_step {w k a b X Z P n l : Nat} (hw : w ≤ 12) (h : gR w k a b) (hn : n < w) (hX : X < 2 ^ w) (hZ : Z < 2 ^ w) (hP : P < 4) (hx : X.testBit n = (decide (l = 1) || decide (l = 2))) (hz : Z.testBit n = (decide (l = 2) || decide (l = 3))) :
  timS (outS w k a b X Z P n) (imgS w k a b n l) = outS w k a b X Z P (n + 1) := by
 obtain ⟨t1, t2⟩ := tim_nf hw (out_vl (n := n) hw h hX hZ hP) (img_vl (l := l) hw h hn)
 refine nf_inj hw t2 (out_vl hw h hX hZ hP) (t1.trans ?_)
 rw [nf_out, nf_out]
 have e : nf (imgS w k a b n l) = gE k a b (eL n (X.testBit n) (Z.testBit n)) := by rw [hx, hz]; exact nf_dec w (gE_lt _ _ _ _)
 rw [e]
 exact pt_step (gR_ok hw h) (by omega) rfl
theorem chk145 : chkFn Tryz.f145 = true := by kernel_rfl
theorem chk215 : chkFn Tryz.f215 = true := by kernel_rfl
theorem chk259 : chkFn Tryz.f259 = true := by kernel_rfl
theorem through145 {w k a b : Nat} {q : Ps} {K : Int} (hK : K = k) {u : Bool} {bb i : Int} (hw : 1 ≤ w ∧ w ≤ 12) (hg : gR w k a b) (hq : Vl w q) : PC Pr G 145 [q.d, (Gt.mk K (wsOf k a b) u bb i).d] (thrS w k a b q).d := by
 obtain ⟨X, Z, P, rfl, hX, hZ, hP⟩ := hq
 have hpw : (2 : Nat) ^ w ≤ 2 ^ 12 := Nat.pow_le_pow_right (by decide) hw.2
 rw [← out_end hX hZ]
 have hd : ∀ n l : Nat, n < w → (l = 1 ∨ l = 2 ∨ l = 3) → PC Pr G 213 [iD n, iD l, .rop (Gt.mk K (wsOf k a b) u bb i).l 0, .rop (mk w X Z P).l 0] (imgS w k a b n l).d := fun n l hn hl => does213 hK hw hg rfl hn hl
 have hL : ∀ n : Nat, n < w → letterI (X : Int) (Z : Int) n = if X.testBit n && Z.testBit n then 2 else if X.testBit n then 1 else if Z.testBit n then 3 else 0 := fun n hn => letter_nat (by omega) (by omega) (by omega)
 have hlt : ∀ (n : Nat) (d : D), PC Pr G 157 [.agg [iD w, iD X, iD Z, iD P, d], iD n] (iD (letterI X Z n)) := fun n d => letter157 (mk w X Z P) d n (Int.natCast_nonneg _)
 have h0 := out_0 hw.2 hg hX hZ hP
 have hO := fun n => out_vl (n := n) hw.2 hg hX hZ hP
 have hS := fun n (hn : n < w) (l : Nat) (hx : X.testBit n = (decide (l = 1) || decide (l = 2))) (hz : Z.testBit n = (decide (l = 2) || decide (l = 3))) => out_step (l := l) hw.2 hg hn hX hZ hP hx hz
 have hK0 := fun n (hn : n < w) (hx : X.testBit n = false) (hz : Z.testBit n = false) => out_skip (P := P) hw.2 hg hn hx hz
 generalize wsOf k a b = ws at hd ⊢
 generalize outS w k a b X Z P = out at h0 hO hS hK0 ⊢
 generalize imgS w k a b = img at hd hS
 refine pc_walk pok Tryz.func145 chk145 ?_
 conv => whnf
 repeat' first | ((first | refine LookP.mk _ rfl ?_ | refine ShlP.mk _ (by first | (simp only [List.set, over, List.take, List.drop, List.append_eq, List.nil_append, List.cons_append, List.length]; rfl) | rfl) ?_ | refine HpP.force ?_); conv => whnf)
 refine call_walk pok Tryz.func215 chk215 ?_
 conv => whnf
 skip
 refine call_walk pok Tryz.func259 chk259 ?_
 conv => whnf
 repeat' first | (refine LookP.mk _ rfl ?_; conv => whnf)
 refine for_use pok (fun n => ⟨[(0, .yld 7), (1, .ptr 5 5 0 0), (6, .d (iD w)), (7, .d (iD n))], [(0, some (.arr 4 [[.d (iD w), .d (iD X), .d (iD Z), .d (iD P)]])), (1, some (.arr 4 [[.d (iD K), .d (intsD ws u), .d (iD bb), .d (iD i)]])), (2, some (.arr 4 [[.d (iD 0), .d (iD 0), .d (iD 0), .d (iD 0)]])), (3, some (.arr 5 [[.d (iD w), .d (iD X), .d (iD Z), .d (iD P), .fn 213 [] [.ptr 1 4 0 0, .ptr 0 4 0 0]]])), (4, some (.arr 4 [(out n).l.map AV.d])), (5, some (.arr 5 [[.d (iD w), .d (iD X), .d (iD Z), .d (iD P), .fn 213 [] [.ptr 1 4 0 0, .ptr 0 4 0 0]]])), (6, some (.raw (.deferred (some [])))), (7, some (.lp [(18, .fn 259 [] [.ptr 5 5 0 0]), (17, .agg [.d (iD w), .d (iD X), .d (iD Z), .d (iD P), .fn 213 [] [.ptr 1 4 0 0, .ptr 0 4 0 0]]), (6, .ptr 4 4 0 0), (16, .d (.agg [iD w, iD 0, iD 0, iD P])), (15, .d (iD P)), (14, .ptr 0 4 0 3), (13, .d (iD w)), (12, .ptr 0 4 0 0), (11, .ptr 3 5 0 4), (10, .fn 213 [] [.ptr 1 4 0 0, .ptr 0 4 0 0]), (5, .ptr 3 5 0 0), (9, .d (.agg [iD w, iD X, iD Z, iD P, .nilf])), (8, .d (.agg [iD w, iD X, iD Z, iD P])), (4, .ptr 2 4 0 0), (3, .ptr 1 4 0 0), (2, .ptr 0 4 0 0), (0, .d (.agg [iD w, iD X, iD Z, iD P])), (1, .d (.agg [iD K, intsD ws u, iD bb, iD i]))] Tryz.f145.ntmps #[19] (rgA Tryz.f145) (rgB Tryz.f145) .ready none 6))], 8⟩) (w) (fun _ => True) (trivial) ?_ (by kernel_rfl) ?_ ?_
 ·refine keep_env (by first | exact Nat.zero_le _ | exact Nat.le_of_ble_eq_true rfl) ?_ ?_ trivial
  ·repeat' first | exact trivial | refine ⟨⟨by first | rfl | assumption, rfl⟩, ?_⟩
  ·repeat' first | exact trivial | refine ⟨⟨ltB rfl, _, rfl, by first | rfl | assumption | (rw [← h0]; rfl), by first | exact below1 rfl | exact below_dblk _ _ _ | exact below_arr rfl | exact trivial | exact ⟨rfl, Nat.le_of_ble_eq_true rfl⟩⟩, ?_⟩
 ·intro n A_n h_n I_n N_n
  have e_n : iadd .i64 (n : Int) 1 = ((n + 1 : Nat) : Int) := iadd_nat (by first | omega | (simp at *; omega))
  have hB : chkCode Tryz.f145.ntmps (rgB Tryz.f145) = true := by kernel_rfl
  have hOn := hO n
  have hOw := vl_w hOn
  have hl := hlt n
  have hLn := hL n h_n
  have hSn := hS n h_n
  have hKn := hK0 n h_n
  rw [hLn] at hl
  cases hx : X.testBit n <;> cases hz : Z.testBit n
  ·have hl : ∀ d, PC Pr G 157 [.agg [iD w, iD X, iD Z, iD P, d], iD n] (iD 0) := fun d => by have := hl d; rw [hx, hz] at this; exact this
   have hnx := hKn hx hz
   conv => whnf
   repeat (refine LookP.mk _ rfl ?_; conv => whnf)
   intro t ht
   cases t
   ·exfalso; first | (simp at ht; done) | (simp at ht; omega)
   conv => whnf
   repeat' first | ((first | refine LookP.mk _ rfl ?_ | refine pc_lendc (hl (.fn 213 [] [.rop [iD K, intsD ws u, iD bb, iD i] 0, .rop [iD w, iD X, iD Z, iD P] 0])) rfl rfl ?_); conv => whnf) | (intro t ht; cases t <;> conv => whnf)
   ·refine N_n _ ?_ ?_
    ·first | trivial | assumption | omega
    ·refine keep_env (by first | exact Nat.zero_le _ | exact Nat.le_of_ble_eq_true rfl) ?_ ?_ trivial
     ·repeat' first | exact trivial | refine ⟨⟨by first | rfl | assumption | exact congrArg (fun n => AV.d (iD n)) e_n, rfl⟩, ?_⟩
     ·repeat' first | exact trivial | refine ⟨⟨ltB rfl, _, rfl, by first | rfl | assumption | (rw [hnx]; rfl), by first | exact below1 rfl | exact below_dblk _ _ _ | exact below_arr rfl | exact trivial | exact ⟨rfl, Nat.le_of_ble_eq_true rfl⟩⟩, ?_⟩
   ·exfalso; simp at ht
  ·have hl : ∀ d, PC Pr G 157 [.agg [iD w, iD X, iD Z, iD P, d], iD n] (iD 3) := fun d => by have := hl d; rw [hx, hz] at this; exact this
   have hdn := hd n 3 h_n (by decide)
   have ht2 := tim142s (G := G) (out n) (img n 3) (by rw [hOw]; omega)
   have hnx := hSn 3 hx hz
   rw [hnx] at ht2
   generalize img n 3 = d at hdn ht2
   generalize hon : out n = o at hOn hOw hnx ht2 ⊢
   obtain ⟨ow, ox, oz, op⟩ := o
   obtain rfl : ow = w := hOw
   conv => whnf
   repeat (refine LookP.mk _ rfl ?_; conv => whnf)
   intro t ht
   cases t
   ·exfalso; first | (simp at ht; done) | (simp at ht; omega)
   conv => whnf
   repeat' first | ((first | refine LookP.mk _ rfl ?_ | refine pc_lendc (hl (.fn 213 [] [.rop [iD K, intsD ws u, iD bb, iD i] 0, .rop [iD w, iD X, iD Z, iD P] 0])) rfl rfl ?_); conv => whnf) | (intro t ht; cases t <;> conv => whnf)
   all_goals first | (exfalso; simp at ht; done) | skip
   refine round_walk pok ?_
   conv => whnf
   repeat' first | ((first | refine LookP.mk _ rfl ?_ | refine ShlP.mk _ (by first | (simp only [List.set, over, List.take, List.drop, List.append_eq, List.nil_append, List.cons_append, List.length]; rfl) | rfl) ?_ | rw [hB] | refine pc_head (hl _) ?_ | refine pc_head hdn ?_ | refine pc_head ht2 ?_ | refine HpP.force ?_); conv => whnf)
   refine N_n _ ?_ ?_
   ·first | trivial | assumption | omega
   ·refine keep_env (by first | exact Nat.zero_le _ | exact Nat.le_of_ble_eq_true rfl) ?_ ?_ trivial
    ·repeat' first | exact trivial | refine ⟨⟨by first | rfl | assumption | exact congrArg (fun n => AV.d (iD n)) e_n, rfl⟩, ?_⟩
    ·repeat' first | exact trivial | refine ⟨⟨ltB rfl, _, rfl, by first | rfl | assumption, by first | exact below1 rfl | exact below_dblk _ _ _ | exact below_arr rfl | exact trivial | exact ⟨rfl, Nat.le_of_ble_eq_true rfl⟩⟩, ?_⟩
  ·have hl : ∀ d, PC Pr G 157 [.agg [iD w, iD X, iD Z, iD P, d], iD n] (iD 1) := fun d => by have := hl d; rw [hx, hz] at this; exact this
   have hdn := hd n 1 h_n (by decide)
   have ht2 := tim142s (G := G) (out n) (img n 1) (by rw [hOw]; omega)
   have hnx := hSn 1 hx hz
   rw [hnx] at ht2
   generalize img n 1 = d at hdn ht2
   generalize hon : out n = o at hOn hOw hnx ht2 ⊢
   obtain ⟨ow, ox, oz, op⟩ := o
   obtain rfl : ow = w := hOw
   conv => whnf
   repeat (refine LookP.mk _ rfl ?_; conv => whnf)
   intro t ht
   cases t
   ·exfalso; first | (simp at ht; done) | (simp at ht; omega)
   conv => whnf
   repeat' first | ((first | refine LookP.mk _ rfl ?_ | refine pc_lendc (hl (.fn 213 [] [.rop [iD K, intsD ws u, iD bb, iD i] 0, .rop [iD w, iD X, iD Z, iD P] 0])) rfl rfl ?_); conv => whnf) | (intro t ht; cases t <;> conv => whnf)
   all_goals first | (exfalso; simp at ht; done) | skip
   refine round_walk pok ?_
   conv => whnf
   repeat' first | ((first | refine LookP.mk _ rfl ?_ | refine ShlP.mk _ (by first | (simp only [List.set, over, List.take, List.drop, List.append_eq, List.nil_append, List.cons_append, List.length]; rfl) | rfl) ?_ | rw [hB] | refine pc_head (hl _) ?_ | refine pc_head hdn ?_ | refine pc_head ht2 ?_ | refine HpP.force ?_); conv => whnf)
   refine N_n _ ?_ ?_
   ·first | trivial | assumption | omega
   ·refine keep_env (by first | exact Nat.zero_le _ | exact Nat.le_of_ble_eq_true rfl) ?_ ?_ trivial
    ·repeat' first | exact trivial | refine ⟨⟨by first | rfl | assumption | exact congrArg (fun n => AV.d (iD n)) e_n, rfl⟩, ?_⟩
    ·repeat' first | exact trivial | refine ⟨⟨ltB rfl, _, rfl, by first | rfl | assumption, by first | exact below1 rfl | exact below_dblk _ _ _ | exact below_arr rfl | exact trivial | exact ⟨rfl, Nat.le_of_ble_eq_true rfl⟩⟩, ?_⟩
  ·have hl : ∀ d, PC Pr G 157 [.agg [iD w, iD X, iD Z, iD P, d], iD n] (iD 2) := fun d => by have := hl d; rw [hx, hz] at this; exact this
   have hdn := hd n 2 h_n (by decide)
   have ht2 := tim142s (G := G) (out n) (img n 2) (by rw [hOw]; omega)
   have hnx := hSn 2 hx hz
   rw [hnx] at ht2
   generalize img n 2 = d at hdn ht2
   generalize hon : out n = o at hOn hOw hnx ht2 ⊢
   obtain ⟨ow, ox, oz, op⟩ := o
   obtain rfl : ow = w := hOw
   conv => whnf
   repeat (refine LookP.mk _ rfl ?_; conv => whnf)
   intro t ht
   cases t
   ·exfalso; first | (simp at ht; done) | (simp at ht; omega)
   conv => whnf
   repeat' first | ((first | refine LookP.mk _ rfl ?_ | refine pc_lendc (hl (.fn 213 [] [.rop [iD K, intsD ws u, iD bb, iD i] 0, .rop [iD w, iD X, iD Z, iD P] 0])) rfl rfl ?_); conv => whnf) | (intro t ht; cases t <;> conv => whnf)
   all_goals first | (exfalso; simp at ht; done) | skip
   refine round_walk pok ?_
   conv => whnf
   repeat' first | ((first | refine LookP.mk _ rfl ?_ | refine ShlP.mk _ (by first | (simp only [List.set, over, List.take, List.drop, List.append_eq, List.nil_append, List.cons_append, List.length]; rfl) | rfl) ?_ | rw [hB] | refine pc_head (hl _) ?_ | refine pc_head hdn ?_ | refine pc_head ht2 ?_ | refine HpP.force ?_); conv => whnf)
   refine N_n _ ?_ ?_
   ·first | trivial | assumption | omega
   ·refine keep_env (by first | exact Nat.zero_le _ | exact Nat.le_of_ble_eq_true rfl) ?_ ?_ trivial
    ·repeat' first | exact trivial | refine ⟨⟨by first | rfl | assumption | exact congrArg (fun n => AV.d (iD n)) e_n, rfl⟩, ?_⟩
    ·repeat' first | exact trivial | refine ⟨⟨ltB rfl, _, rfl, by first | rfl | assumption, by first | exact below1 rfl | exact below_dblk _ _ _ | exact below_arr rfl | exact trivial | exact ⟨rfl, Nat.le_of_ble_eq_true rfl⟩⟩, ?_⟩
 ·intro A_last I_last
  have hoe := vl_w (hO w)
  generalize out w = o at hoe ⊢
  conv => whnf
  repeat (refine LookP.mk _ rfl ?_; conv => whnf)
  intro t ht
  cases t
  rotate_left
  ·exfalso; first | (simp at ht; done) | (simp at ht; omega)
  conv => whnf
  repeat' first | ((first | refine LookP.mk _ rfl ?_ | refine ShlP.mk _ (by first | (simp only [List.set, over, List.take, List.drop, List.append_eq, List.nil_append, List.cons_append, List.length]; rfl) | rfl) ?_ | refine HpP.force ?_); conv => whnf)
  exact fin rfl
end Go.Tz
namespace Go.Tz
open Go Go.AL Go.Proofs Go.Ma
variable {G : Nat → Option (List D)}
theorem asD_own {H : AHeap} {nm sz N : Nat} {t : Bool} {es : List (List D)} (hg : H.get nm = some (dblk sz es)) (hN : N = es.length) : AsD H (.sl nm sz 0 N N t) (.sl es t) := by
 subst hN
 have := asD_sl_map (H := H) (lo := 0) (len := es.length) (room := es.length) (t := t) hg (by simp)
 simpa using this
theorem give_get {nm sz : Nat} {es : List (List D)} {H : AHeap} (hg : H.get nm = some (dblk sz es)) : ∀ m b, AHeap.get [(nm, some (dblk sz es))] m = some b → m ∈ [nm] ∧ H.get m = some b := fun m b h => by
 by_cases em : m = nm
 ·subst em; rw [get_cons_same] at h; exact ⟨by simp, by rw [hg, ← h]⟩
 ·rw [get_cons_ne _ _ em] at h; cases h
theorem give_as {a : D} {nm sz N : Nat} {t : Bool} {es : List (List D)} (hN : N = es.length) : ∀ (i : Nat) (v : AV) (d : D), [AV.agg [.d a, .sl nm sz 0 N N t]][i]? = some v → [D.agg [a, .sl es t]][i]? = some d → AsD [(nm, some (dblk sz es))] v d := fun i v d h1 h2 => by
 match i, h1, h2 with
 | 0, h1, h2 =>
  simp at h1 h2; subst h1 h2
  exact asD_agg2 (.d _) (asD_own (get_cons_same nm _ []) hN)
 | i + 1, h1, _ => simp at h1
theorem pc_giveS {f : FuncId} {a : D} {nm sz N : Nat} {t : Bool} {es : List (List D)} {d : D} {H : AHeap} {nx : Nat} {k : AV → AHeap → Nat → Prop} (h : PC Pr G f [.agg [a, .sl es t]] d) (hg : H.get nm = some (dblk sz es)) (hN : N = es.length) (hk : k (.d d) (dels [nm] H) nx) :
  CallVC Pr G f [.agg [.d a, .sl nm sz 0 N N t]] H nx k :=
 pc_give (L := [nm]) (HL := [(nm, some (dblk sz es))]) h rfl (give_get hg) (give_as hN) hk
theorem po_giveS {f : FuncId} {a : D} {nm sz N : Nat} {t : Bool} {es : List (List D)} {v : AV} {M : AHeap} {n : Nat} {H : AHeap} {nx : Nat} {k : AV → AHeap → Nat → Prop} (h : PO Pr G f [.agg [a, .sl es t]] v M n) (hg : H.get nm = some (dblk sz es)) (hN : N = es.length)
  (hk : k (v.ren (· + nx)) (M.shift nx ++ dels [nm] H) (nx + n)) : CallVC Pr G f [.agg [.d a, .sl nm sz 0 N N t]] H nx k := by
 refine ⟨h.fn, acall_give (HL := [(nm, some (dblk sz es))]) (L := [nm]) (acall_data h.call ?_) rfl (give_get hg) (give_as hN)⟩
 rintro v' N' m ⟨rfl, rfl, rfl⟩
 exact hk
end Go.Tz
namespace Go.Tz
open Go Go.AL Go.Proofs Go.Ma
variable {G : Nat → Option (List D)}
def kindB (k : Int) : Bool := decide ((1 ≤ k ∧ k ≤ 6) ∨ (9 ≤ k ∧ k ≤ 11))
def cliffB (g : Gt) : Bool := decide (g.i = 0) && kindB g.k
theorem chk144 : chkFn Tryz.f144 = true := by kernel_rfl
theorem cliff144 (g : Gt) : PC Pr G 144 [g.d] (.bool (cliffB g)) := by
 obtain ⟨k, ws, u, b, f⟩ := g
 refine pc_walk pok Tryz.func144 chk144 ?_
 conv => whnf
 repeat' first | (refine LookP.mk _ rfl ?_; conv => whnf) | (intro t ht; cases t <;> conv => whnf)
 all_goals
  refine fin ?_
  refine fiB ?_
  simp at *
  unfold cliffB kindB
  simp
  omega
theorem gchk_ok {g : Gt} {w : Int} {bits : Int} (h : gchk g w bits = 0) : arI g.k ≠ 0 ∧ (g.ws.length : Int) = arI g.k ∧ outB w g.ws = false ∧ dupB g.ws = false ∧ bitE g bits = 0 := by
 unfold gchk at h
 split at h
 ·cases h
 ·split at h
  ·cases h
  ·split at h
   ·cases h
   ·split at h
    ·cases h
    ·rename_i h1 h2 h3 h4
     exact ⟨h1, by omega, by simpa using h3, by simpa using h4, h⟩
theorem bitE_ok {g : Gt} {bits : Int} (h : bitE g bits = 0) : (0 ≤ g.i ∧ g.i ≤ bits) ∧ (g.k = 13 → 0 ≤ g.b ∧ g.b < bits) ∧ ((g.k = 13 ∨ g.k = 14) → g.i = 0) ∧ (g.k ≠ 13 → g.b = 0) := by
 unfold bitE at h
 split at h
 ·cases h
 ·split at h
  ·cases h
  ·rename_i h1 h2
   exact ⟨by omega, by omega, by omega, by omega⟩
def gK (g : Gt) : Nat := g.k.toNat
def gA (g : Gt) : Nat := (g.ws.getD 0 0).toNat
def gB (g : Gt) : Nat := (g.ws.getD 1 0).toNat
theorem len2 {α : Type} : ∀ {l : List α}, l.length = 2 → ∃ a b, l = [a, b]
 | [a, b], _ => ⟨a, b, rfl⟩
theorem gR_of {g : Gt} {w : Nat} {bits : Int} (h : gchk g w bits = 0) (hk : kindB g.k = true) : gR w (gK g) (gA g) (gB g) ∧ g.k = gK g ∧ g.ws = wsOf (gK g) (gA g) (gB g) := by
 obtain ⟨h1, h2, h3, h4, _⟩ := gchk_ok h
 obtain ⟨k, ws, u, b, f⟩ := g
 simp only [gK, gA, gB] at *
 have hk := of_decide_eq_true hk
 have hin : ∀ n, n ∈ ws → 0 ≤ n ∧ n < w := fun n hn => by
  have := List.any_eq_false.1 h3 n hn
  simp at this; omega
 rcases hk with hk | hk
 ·rw [ari1 (by omega)] at h2
  obtain ⟨n, rfl⟩ := List.length_eq_one_iff.1 (show ws.length = 1 by omega)
  have hn := hin n (by simp)
  have e : (k.toNat ≤ 6) := by omega
  refine ⟨.inl ⟨by omega, by omega, ?_⟩, by omega, ?_⟩
  ·simp; omega
  ·unfold wsOf
   rw [if_pos e]
   simp; omega
 ·rw [ari2 (by omega)] at h2
  obtain ⟨n, m, rfl⟩ := len2 (show ws.length = 2 by omega)
  have hn := hin n (by simp)
  have hm := hin m (by simp)
  have hd : n ≠ m := fun q => by
   have := List.any_eq_false.1 h4 1 (List.mem_range.2 (by simp))
   rw [dupAt_lt (by simp)] at this
   simp [q] at this
  have e : ¬ (k.toNat ≤ 6) := by omega
  refine ⟨.inr ⟨by omega, by omega, ?_, ?_, ?_⟩, by omega, ?_⟩
  ·simp; omega
  ·simp; omega
  ·simp; omega
  ·unfold wsOf
   rw [if_neg e]
   simp; omega
def thrG (w : Nat) (g : Gt) (q : Ps) : Ps := thrS w (gK g) (gA g) (gB g) q
theorem through145g {w : Nat} (hw : 1 ≤ w ∧ w ≤ 12) {g : Gt} {bits : Int} (h : gchk g w bits = 0) (hk : kindB g.k = true) {q : Ps} (hq : Vl w q) : PC Pr G 145 [q.d, g.d] (thrG w g q).d := by
 obtain ⟨h1, h2, h3⟩ := gR_of h hk
 have := through145 (G := G) (u := g.u) (bb := g.b) (i := g.i) h2 hw h1 hq
 rw [← h3] at this
 exact this
theorem cchk_one {w : Nat} (hw : 1 ≤ w ∧ w ≤ 12) (g : Gt) : cchk w 0 [g] = gchk g w 0 := by
 by_cases h : gchk g w 0 = 0
 ·rw [h]
  exact cchk0 (by omega) (by simp) (by simpa using h)
 ·exact cchk_at (l := [g]) (i := 0) (by omega) (by simp) (by simp) (by simp) h
theorem chk69 : chkFn Tryz.f69 = true := by kernel_rfl
def thrD (w : Nat) (g : Gt) (q : Ps) : D := if gchk g w 0 ≠ 0 then .tup [Ps.d ⟨0, 0, 0, 0⟩, iD (gchk g w 0)] else if kindB g.k = true then .tup [(thrG w g q).d, iD 0] else .tup [Ps.d ⟨0, 0, 0, 0⟩, iD 7]
theorem through69 {w : Nat} (hw : 1 ≤ w ∧ w ≤ 12) (g : Gt) (hn : g.ws.length ≤ 1000) {q : Ps} (hq : Vl w q) : PC Pr G 69 [q.d, g.d] (thrD w g q) := by
 have h1 := check111 (G := G) q
 rw [pck_vl hw hq] at h1
 have hqw := vl_w hq
 have h2 : ∀ t, PC Pr G 129 [circD q.w 0 [g] t] (iD (gchk g w 0)) := fun t => by
  have := check129 (G := G) w 0 [g] t (by simp) (by simpa using hn)
  rw [cchk_one hw] at this
  rw [hqw]; exact this
 have h3 := cliff144 (G := G) g
 have h4 := fun h k => through145g (G := G) hw (g := g) (bits := 0) h k hq
 have hi0 : gchk g w 0 = 0 → g.i = 0 := fun h => by
  have := (bitE_ok (gchk_ok h).2.2.2.2).1; omega
 unfold thrD
 generalize thrG w g q = r at h4 ⊢
 obtain ⟨k, ws, u, b, f⟩ := g
 by_cases he : gchk ⟨k, ws, u, b, f⟩ w 0 = 0
 ·have hf := hi0 he
  simp only at hf
  subst hf
  rw [if_neg (fun h => h he)]
  rw [he] at h2
  have e3 : cliffB ⟨k, ws, u, b, 0⟩ = kindB k := by unfold cliffB; simp
  rw [e3] at h3
  by_cases hk : kindB k = true
  ·have h5 := h4 he hk
   rw [if_pos hk]
   rw [hk] at h3
   refine pc_walk pok Tryz.func69 chk69 ?_
   conv => whnf
   repeat' first | ((first | refine LookP.mk _ rfl ?_ | refine ShlP.mk _ (by first | (simp only [List.set, over, List.take, List.drop, List.append_eq, List.nil_append, List.cons_append, List.length]; rfl) | rfl) ?_ | refine pc_use h1 ?_ | refine pc_givec (h2 true) rfl ?_ | refine pc_use h3 ?_ | refine pc_use h5 ?_ | refine HpP.force ?_); conv => whnf) | (intro t ht; cases t <;> conv => whnf)
   all_goals first | exact fin rfl | (exfalso; simp at ht; done)
  ·rw [if_neg hk]
   have hk : kindB k = false := by simpa using hk
   rw [hk] at h3
   refine pc_walk pok Tryz.func69 chk69 ?_
   conv => whnf
   repeat' first | ((first | refine LookP.mk _ rfl ?_ | refine ShlP.mk _ (by first | (simp only [List.set, over, List.take, List.drop, List.append_eq, List.nil_append, List.cons_append, List.length]; rfl) | rfl) ?_ | refine pc_use h1 ?_ | refine pc_givec (h2 true) rfl ?_ | refine pc_use h3 ?_ | refine HpP.force ?_); conv => whnf) | (intro t ht; cases t <;> conv => whnf)
   all_goals first | exact fin rfl | (exfalso; simp at ht; done)
 ·rw [if_pos he]
  generalize gchk ⟨k, ws, u, b, f⟩ w 0 = e at h2 he ⊢
  refine pc_walk pok Tryz.func69 chk69 ?_
  conv => whnf
  repeat' first | ((first | refine LookP.mk _ rfl ?_ | refine ShlP.mk _ (by first | (simp only [List.set, over, List.take, List.drop, List.append_eq, List.nil_append, List.cons_append, List.length]; rfl) | rfl) ?_ | refine pc_use h1 ?_ | refine pc_givec (h2 true) rfl ?_ | refine HpP.force ?_); conv => whnf) | (intro t ht; cases t <;> conv => whnf)
  all_goals first | exact fin rfl | (exfalso; simp at ht; first | done | exact he ht)
end Go.Tz
namespace Go.Tz
open Go Go.AL Go.Proofs Go.Ma
variable {G : Nat → Option (List D)}
def oneL (k l : Nat) : Nat × Nat := match k, l with
 | _, 0 => (0, 0)
 | 4, 2 => (2, 2)
 | 4, l => (4 - l, 0)
 | 5, 1 => (2, 0)
 | 5, 2 => (1, 2)
 | 6, 1 => (2, 2)
 | 6, 2 => (1, 0)
 | 5, l => (l, 0)
 | 6, l => (l, 0)
 | k, l => if l = k then (l, 0) else (l, 2)
theorem chk202 : chkFn Tryz.f202 = true := by kernel_rfl
theorem one202 {k l : Nat} {K L : Int} (hK : K = k) (hL : L = l) (h1 : 1 ≤ k) (h2 : k ≤ 6) (h3 : l ≤ 3) : PC Pr G 202 [iD K, iD L] (.tup [iD (oneL k l).1, iD (oneL k l).2]) := by
 have hk : k = 1 ∨ k = 2 ∨ k = 3 ∨ k = 4 ∨ k = 5 ∨ k = 6 := by omega
 have hl : l = 0 ∨ l = 1 ∨ l = 2 ∨ l = 3 := by omega
 rcases hk with rfl | rfl | rfl | rfl | rfl | rfl
 all_goals first | obtain rfl : K = 1 := hK | obtain rfl : K = 2 := hK | obtain rfl : K = 3 := hK | obtain rfl : K = 4 := hK | obtain rfl : K = 5 := hK | obtain rfl : K = 6 := hK
 all_goals
  rcases hl with rfl | rfl | rfl | rfl
 all_goals first | obtain rfl : L = 0 := hL | obtain rfl : L = 1 := hL | obtain rfl : L = 2 := hL | obtain rfl : L = 3 := hL
 all_goals
  refine pc_walk pok Tryz.func202 chk202 ?_
  conv => whnf
  repeat' first | ((first | refine beqT1 ?_ | refine beqF1 rfl ?_); conv => whnf) | (intro t ht; cases t <;> conv => whnf)
  all_goals first | exact fin rfl | (exfalso; simp at ht; done)
theorem withS_nf {w a l : Nat} (hw : w ≤ 12) (ha : a < w) (hl : l ≤ 3) {q : Ps} (hq : Vl w q) : nf (withS q a l) = emul (eclr a (nf q)) (eL a (decide (l = 1) || decide (l = 2)) (decide (l = 2) || decide (l = 3))) ∧ Vl w (withS q a l) := by
 obtain ⟨X, Z, P, rfl, h1, h2, h3⟩ := hq
 have hp : (2 : Nat) ^ w ≤ 2 ^ 12 := Nat.pow_le_pow_right (by decide) hw
 exact ⟨nf_with (by omega) (by omega) (by omega) hl, with_vl hw h1 h2 ha hl h3⟩
theorem eclr_fix {a : Nat} {e : E} (h : e.1 < 4) (hx : e.2.testBit a = false) (hz : e.2.testBit (12 + a) = false) : eclr a e = e := by
 refine e_ext ?_ ?_
 ·simp only [eclr, hx, hz]
  simp; omega
 ·simp only [eclr, hx, hz]
  simp [cd]
theorem with0_nf {w a : Nat} (hw : w ≤ 12) (ha : a < w) {q : Ps} (hq : Vl w q) : nf (withS q a 0) = eclr a (nf q) ∧ Vl w (withS q a 0) := by
 obtain ⟨h1, h2⟩ := withS_nf (l := 0) hw ha (by decide) hq
 have h0 : eL a false false = e1 := by simp [eL, cd, e1]
 refine ⟨?_, h2⟩
 have h1 : nf (withS q a 0) = emul (eclr a (nf q)) (eL a false false) := h1
 rw [h1, h0, emul_one _ (eclr_lt _ _)]
theorem gE_one1S {w k a : Nat} (hw : w ≤ 12) (h1 : 1 ≤ k) (h2 : k ≤ 6) (ha : a < w) (b : Nat) {q : Ps} (hq : Vl w q) {l : Nat} (hl : l ≤ 3) (hx : (nf q).2.testBit a = (decide (l = 1) || decide (l = 2))) (hz : (nf q).2.testBit (12 + a) = (decide (l = 2) || decide (l = 3))) :
  addP (oneL k l).2 (withS q a (oneL k l).1) = thrS w k a b q := by
 have hll : (oneL k l).1 ≤ 3 ∧ (oneL k l).2 ≤ 100 := by
  have hk : k = 1 ∨ k = 2 ∨ k = 3 ∨ k = 4 ∨ k = 5 ∨ k = 6 := by omega
  have hl : l = 0 ∨ l = 1 ∨ l = 2 ∨ l = 3 := by omega
  rcases hk with rfl | rfl | rfl | rfl | rfl | rfl <;> rcases hl with rfl | rfl | rfl | rfl <;> decide
 obtain ⟨w1, w2⟩ := withS_nf hw ha hll.1 hq
 obtain ⟨a1, a2⟩ := addP_nf _ hll.2 w2
 refine thr_eq hw (.inl ⟨h1, h2, ha⟩) hq a2 ?_
 rw [a1, w1, gE_one1 h1 h2 (by omega) (nf_lt q), hx, hz]
 have hk : k = 1 ∨ k = 2 ∨ k = 3 ∨ k = 4 ∨ k = 5 ∨ k = 6 := by omega
 have hl : l = 0 ∨ l = 1 ∨ l = 2 ∨ l = 3 := by omega
 rcases hk with rfl | rfl | rfl | rfl | rfl | rfl <;> rcases hl with rfl | rfl | rfl | rfl <;> rfl
def alS (w n l : Int) : Ps := withS ⟨w, 0, 0, 0⟩ n l
theorem chk252 : chkFn Tryz.f252 = true := by kernel_rfl
theorem alone252 (w n l : Int) (hn : 0 ≤ n) : PC Pr G 252 [iD w, iD n, iD l] (alS w n l).d := by
 have h := withS_c (G := G) ⟨w, 0, 0, 0⟩ n l hn
 unfold alS
 generalize withS ⟨w, 0, 0, 0⟩ n l = m at h ⊢
 refine pc_walk pok Tryz.func252 chk252 ?_
 conv => whnf
 repeat' first | ((first | refine LookP.mk _ rfl ?_ | refine ShlP.mk _ (by first | (simp only [List.set, over, List.take, List.drop, List.append_eq, List.nil_append, List.cons_append, List.length]; rfl) | rfl) ?_ | refine pc_use h ?_ | refine HpP.force ?_); conv => whnf)
 exact fin rfl
theorem al_nf {w n l : Nat} (hw : w ≤ 12) (hn : n < w) (hl : l ≤ 3) : nf (alS w n l) = eL n (decide (l = 1) || decide (l = 2)) (decide (l = 2) || decide (l = 3)) ∧ Vl w (alS w n l) := by
 have hv : Vl w ⟨w, 0, 0, 0⟩ := ⟨0, 0, 0, rfl, Nat.two_pow_pos w, Nat.two_pow_pos w, by decide⟩
 obtain ⟨h1, h2⟩ := withS_nf hw hn hl hv
 have h0 : eclr n (nf ⟨w, 0, 0, 0⟩) = e1 := by
  show eclr n (nf (mk w 0 0 0)) = e1
  rw [nf_mk]
  simp [eclr, pop_zero, cd, e1]
 refine ⟨?_, h2⟩
 have h1 : nf (alS w n l) = _ := h1
 rw [h1, h0, one_emul _ (eL_lt _ _ _)]
theorem al2_nf {w n m : Nat} (hw : w ≤ 12) (hn : n < w) (hm : m < w) (hnm : n ≠ m) {l j : Nat} (hl : l ≤ 3) (hj : j ≤ 3) : nf (withS (alS w n l) m j) = emul (eL n (decide (l = 1) || decide (l = 2)) (decide (l = 2) || decide (l = 3))) (eL m (decide (j = 1) || decide (j = 2)) (decide (j = 2) || decide (j = 3))) ∧ Vl w (withS (alS w n l) m j) := by
 obtain ⟨a1, a2⟩ := al_nf hw hn hl
 obtain ⟨b1, b2⟩ := withS_nf hw hm hj a2
 refine ⟨?_, b2⟩
 rw [b1, a1, eclr_fix (eL_lt _ _ _)]
 ·rw [eL_x _ _ _ (by omega), decide_eq_false hnm, Bool.and_false]
 ·rw [eL_z _ _ _ (by omega), decide_eq_false hnm, Bool.and_false]
theorem beqF2 {a b : Int} (hne : a ≠ b) {k : Bool → Prop} (h : k false) : ∀ t, (a == b) = t → k t := fun t e => by
 have e2 : false = t := (beq_false_of_ne hne).symm.trans e
 exact e2 ▸ h
theorem chk203 : chkFn Tryz.f203 = true := by kernel_rfl
theorem two203 {w k a b l : Nat} {K L : Int} (hK : K = k) (hL : L = l) {u : Bool} {bb i : Int} (hw : w ≤ 12) (h1 : 9 ≤ k) (h2 : k ≤ 11) (ha : a < w) (hb : b < w) (hab : a ≠ b) (hl : l = 1 ∨ l = 3) (s : Bool) :
  PC Pr G 203 [iD w, (Gt.mk K [(a : Int), (b : Int)] u bb i).d, iD (if s then a else b : Nat), iD L] (imgS w k a b (if s then a else b) l).d := by
 have hk : k = 9 ∨ k = 10 ∨ k = 11 := by omega
 have hg : gR w k a b := .inr ⟨h1, h2, ha, hb, hab⟩
 have hab' : (a : Int) ≠ b := by omega
 have hba' : (b : Int) ≠ a := by omega
 obtain ⟨t1, t2, t3, t4, t5, t6, t7, t8, t9, t10, t11, t12⟩ := gE_tab2 (a := a) (b := b) (by omega) (by omega) hab
 have t4 : gE 9 a b (eL b false true) = emul (eL b false true) (eL a false true) := by
  rw [t4]
  refine e_ext ?_ (Nat.xor_comm _ _)
  simp only [emul, eZ, bt_rhi]
 have al := fun n j => alone252 (G := G) w (n : Nat) j (Int.natCast_nonneg _)
 have wi := fun (q : Ps) (n : Nat) j => withS_c (G := G) q n j (Int.natCast_nonneg _)
 have e1 : isub .i64 (iadd .i64 (a : Int) b) (a : Int) = b := by rw [iadd_nat (by omega), isub_nat (by omega) (by omega)]; omega
 have e2 : isub .i64 (iadd .i64 (a : Int) b) (b : Int) = a := by rw [iadd_nat (by omega), isub_nat (by omega) (by omega)]; omega
 have one : ∀ {n m j : Nat}, n < w → m < w → j = 1 ∨ j = 3 → gE k a b (eL n (decide (l = 1) || decide (l = 2)) (decide (l = 2) || decide (l = 3))) = eL m (decide (j = 1) || decide (j = 2)) (decide (j = 2) || decide (j = 3)) → imgS w k a b n l = alS w m j := @fun n m j hn hm hj e => by
  obtain ⟨c1, c2⟩ := al_nf hw hm (show j ≤ 3 by omega)
  exact (img_eq hw hg hn c2 (c1.trans e.symm)).symm
 have two : ∀ {n m j : Nat}, n < w → m < w → n ≠ m → j = 1 ∨ j = 3 → gE k a b (eL n (decide (l = 1) || decide (l = 2)) (decide (l = 2) || decide (l = 3))) = emul (eL n (decide (l = 1) || decide (l = 2)) (decide (l = 2) || decide (l = 3))) (eL m (decide (j = 1) || decide (j = 2)) (decide (j = 2) || decide (j = 3))) → imgS w k a b n l = withS (alS w n l) m j := @fun n m j hn hm hnm hj e => by
  obtain ⟨c1, c2⟩ := al2_nf hw hn hm hnm (show l ≤ 3 by omega) (show j ≤ 3 by omega)
  exact (img_eq hw hg hn c2 (c1.trans e.symm)).symm
 rcases hk with rfl | rfl | rfl
 all_goals first | obtain rfl : K = 9 := hK | obtain rfl : K = 10 := hK | obtain rfl : K = 11 := hK
 all_goals rcases hl with rfl | rfl
 all_goals first | obtain rfl : L = 1 := hL | obtain rfl : L = 3 := hL
 all_goals cases s
 all_goals simp only [if_true, Bool.false_eq_true, if_false]
 ·have e := one (n := b) (m := b) (j := 1) hb hb (by decide) t3
  have hA := al b 1
  rw [e]
  generalize alS w (b : Nat) (1 : Nat) = r at hA ⊢
  refine pc_walk pok Tryz.func203 chk203 ?_
  conv => whnf
  repeat' first | ((first | refine LookP.mk _ rfl ?_ | refine ShlP.mk _ (by first | (simp only [List.set, over, List.take, List.drop, List.append_eq, List.nil_append, List.cons_append, List.length]; rfl) | rfl) ?_ | refine And.intro (by first | assumption | exact ⟨by kernel_rfl, rfl⟩ | decide | omega) ?_ | refine beqT1 ?_ | refine beqF1 rfl ?_ | refine beqF2 hba' ?_ | refine pc_use hA ?_ | refine HpP.force ?_); conv => whnf)
  all_goals first | exact fin rfl | (exfalso; simp at ht; done)
 ·have e := two (n := a) (m := b) (j := 1) ha hb hab (by decide) t1
  have hA := al a 1
  have hW := wi (alS w (a : Nat) (1 : Nat)) b 1
  rw [e]
  generalize alS w (a : Nat) (1 : Nat) = r at hA hW ⊢
  generalize withS r (b : Nat) (1 : Nat) = r' at hW ⊢
  refine pc_walk pok Tryz.func203 chk203 ?_
  conv => whnf
  repeat' first | ((first | refine LookP.mk _ rfl ?_ | refine ShlP.mk _ (by first | (simp only [List.set, over, List.take, List.drop, List.append_eq, List.nil_append, List.cons_append, List.length]; rfl) | rfl) ?_ | refine And.intro (by first | assumption | exact ⟨by kernel_rfl, rfl⟩ | decide | omega) ?_ | refine beqT1 ?_ | refine pc_use hA ?_ | refine pc_use hW ?_ | refine HpP.force ?_); conv => whnf)
  all_goals first | exact fin rfl | (exfalso; simp at ht; done)
 ·have e := two (n := b) (m := a) (j := 3) hb ha (fun q => hab q.symm) (by decide) t4
  have hA := al b 3
  have hW := wi (alS w (b : Nat) (3 : Nat)) a 3
  rw [e]
  generalize alS w (b : Nat) (3 : Nat) = r at hA hW ⊢
  generalize withS r (a : Nat) (3 : Nat) = r' at hW ⊢
  refine pc_walk pok Tryz.func203 chk203 ?_
  conv => whnf
  repeat' first | ((first | refine LookP.mk _ rfl ?_ | refine ShlP.mk _ (by first | (simp only [List.set, over, List.take, List.drop, List.append_eq, List.nil_append, List.cons_append, List.length]; rfl) | rfl) ?_ | refine And.intro (by first | assumption | exact ⟨by kernel_rfl, rfl⟩ | decide | omega) ?_ | refine beqT1 ?_ | refine beqF2 hba' ?_ | refine pc_use hA ?_ | refine pc_use hW ?_ | refine HpP.force ?_); conv => whnf)
  all_goals first | exact fin rfl | (exfalso; simp at ht; done)
 ·have e := one (n := a) (m := a) (j := 3) ha ha (by decide) t2
  have hA := al a 3
  rw [e]
  generalize alS w (a : Nat) (3 : Nat) = r at hA ⊢
  refine pc_walk pok Tryz.func203 chk203 ?_
  conv => whnf
  repeat' first | ((first | refine LookP.mk _ rfl ?_ | refine ShlP.mk _ (by first | (simp only [List.set, over, List.take, List.drop, List.append_eq, List.nil_append, List.cons_append, List.length]; rfl) | rfl) ?_ | refine And.intro (by first | assumption | exact ⟨by kernel_rfl, rfl⟩ | decide | omega) ?_ | refine beqT1 ?_ | refine beqF1 rfl ?_ | refine beqF2 hab' ?_ | refine pc_use hA ?_ | refine HpP.force ?_); conv => whnf)
  all_goals first | exact fin rfl | (exfalso; simp at ht; done)
 ·have e := two (n := b) (m := a) (j := 3) hb ha (fun q => hab q.symm) (by decide) t7
  have hA := al b 1
  have hW := wi (alS w (b : Nat) (1 : Nat)) a 3
  rw [e]
  generalize alS w (b : Nat) (1 : Nat) = r at hA hW ⊢
  generalize withS r (a : Nat) (3 : Nat) = r' at hW ⊢
  refine pc_walk pok Tryz.func203 chk203 ?_
  conv => whnf
  repeat' first | ((first | refine LookP.mk _ rfl ?_ | refine ShlP.mk _ (by first | (simp only [List.set, over, List.take, List.drop, List.append_eq, List.nil_append, List.cons_append, List.length]; rfl) | rfl) ?_ | refine And.intro (by first | assumption | exact ⟨by kernel_rfl, rfl⟩ | decide | omega) ?_ | refine beqT1 ?_ | refine beqF1 rfl ?_ | rw [e2] | refine pc_use hA ?_ | refine pc_use hW ?_ | refine HpP.force ?_); conv => whnf)
  all_goals first | exact fin rfl | (exfalso; simp at ht; done)
 ·have e := two (n := a) (m := b) (j := 3) ha hb hab (by decide) t5
  have hA := al a 1
  have hW := wi (alS w (a : Nat) (1 : Nat)) b 3
  rw [e]
  generalize alS w (a : Nat) (1 : Nat) = r at hA hW ⊢
  generalize withS r (b : Nat) (3 : Nat) = r' at hW ⊢
  refine pc_walk pok Tryz.func203 chk203 ?_
  conv => whnf
  repeat' first | ((first | refine LookP.mk _ rfl ?_ | refine ShlP.mk _ (by first | (simp only [List.set, over, List.take, List.drop, List.append_eq, List.nil_append, List.cons_append, List.length]; rfl) | rfl) ?_ | refine And.intro (by first | assumption | exact ⟨by kernel_rfl, rfl⟩ | decide | omega) ?_ | refine beqT1 ?_ | refine beqF1 rfl ?_ | rw [e1] | refine pc_use hA ?_ | refine pc_use hW ?_ | refine HpP.force ?_); conv => whnf)
  all_goals first | exact fin rfl | (exfalso; simp at ht; done)
 ·have e := one (n := b) (m := b) (j := 3) hb hb (by decide) t8
  have hA := al b 3
  rw [e]
  generalize alS w (b : Nat) (3 : Nat) = r at hA ⊢
  refine pc_walk pok Tryz.func203 chk203 ?_
  conv => whnf
  repeat' first | ((first | refine LookP.mk _ rfl ?_ | refine ShlP.mk _ (by first | (simp only [List.set, over, List.take, List.drop, List.append_eq, List.nil_append, List.cons_append, List.length]; rfl) | rfl) ?_ | refine And.intro (by first | assumption | exact ⟨by kernel_rfl, rfl⟩ | decide | omega) ?_ | refine beqT1 ?_ | refine beqF1 rfl ?_ | refine pc_use hA ?_ | refine HpP.force ?_); conv => whnf)
  all_goals first | exact fin rfl | (exfalso; simp at ht; done)
 ·have e := one (n := a) (m := a) (j := 3) ha ha (by decide) t6
  have hA := al a 3
  rw [e]
  generalize alS w (a : Nat) (3 : Nat) = r at hA ⊢
  refine pc_walk pok Tryz.func203 chk203 ?_
  conv => whnf
  repeat' first | ((first | refine LookP.mk _ rfl ?_ | refine ShlP.mk _ (by first | (simp only [List.set, over, List.take, List.drop, List.append_eq, List.nil_append, List.cons_append, List.length]; rfl) | rfl) ?_ | refine And.intro (by first | assumption | exact ⟨by kernel_rfl, rfl⟩ | decide | omega) ?_ | refine beqT1 ?_ | refine beqF1 rfl ?_ | refine pc_use hA ?_ | refine HpP.force ?_); conv => whnf)
  all_goals first | exact fin rfl | (exfalso; simp at ht; done)
 ·have e := one (n := b) (m := a) (j := 1) hb ha (by decide) t11
  have hA := al a 1
  have hA' := al b 1
  rw [e]
  generalize alS w (a : Nat) (1 : Nat) = r at hA ⊢
  generalize alS w (b : Nat) (1 : Nat) = r' at hA'
  refine pc_walk pok Tryz.func203 chk203 ?_
  conv => whnf
  repeat' first | ((first | refine LookP.mk _ rfl ?_ | refine ShlP.mk _ (by first | (simp only [List.set, over, List.take, List.drop, List.append_eq, List.nil_append, List.cons_append, List.length]; rfl) | rfl) ?_ | refine And.intro (by first | assumption | exact ⟨by kernel_rfl, rfl⟩ | decide | omega) ?_ | refine beqT1 ?_ | refine beqF1 rfl ?_ | rw [e2] | refine pc_use hA ?_ | refine pc_use (hA') ?_ | refine HpP.force ?_); conv => whnf)
  all_goals first | exact fin rfl | (exfalso; simp at ht; done)
 ·have e := one (n := a) (m := b) (j := 1) ha hb (by decide) t9
  have hA := al b 1
  have hA' := al a 1
  rw [e]
  generalize alS w (b : Nat) (1 : Nat) = r at hA ⊢
  generalize alS w (a : Nat) (1 : Nat) = r' at hA'
  refine pc_walk pok Tryz.func203 chk203 ?_
  conv => whnf
  repeat' first | ((first | refine LookP.mk _ rfl ?_ | refine ShlP.mk _ (by first | (simp only [List.set, over, List.take, List.drop, List.append_eq, List.nil_append, List.cons_append, List.length]; rfl) | rfl) ?_ | refine And.intro (by first | assumption | exact ⟨by kernel_rfl, rfl⟩ | decide | omega) ?_ | refine beqT1 ?_ | refine beqF1 rfl ?_ | rw [e1] | refine pc_use hA ?_ | refine pc_use (hA') ?_ | refine HpP.force ?_); conv => whnf)
  all_goals first | exact fin rfl | (exfalso; simp at ht; done)
 ·have e := one (n := b) (m := a) (j := 3) hb ha (by decide) t12
  have hA := al a 3
  have hA' := al b 3
  rw [e]
  generalize alS w (a : Nat) (3 : Nat) = r at hA ⊢
  generalize alS w (b : Nat) (3 : Nat) = r' at hA'
  refine pc_walk pok Tryz.func203 chk203 ?_
  conv => whnf
  repeat' first | ((first | refine LookP.mk _ rfl ?_ | refine ShlP.mk _ (by first | (simp only [List.set, over, List.take, List.drop, List.append_eq, List.nil_append, List.cons_append, List.length]; rfl) | rfl) ?_ | refine And.intro (by first | assumption | exact ⟨by kernel_rfl, rfl⟩ | decide | omega) ?_ | refine beqT1 ?_ | refine beqF1 rfl ?_ | rw [e2] | refine pc_use hA ?_ | refine pc_use (hA') ?_ | refine HpP.force ?_); conv => whnf)
  all_goals first | exact fin rfl | (exfalso; simp at ht; done)
 ·have e := one (n := a) (m := b) (j := 3) ha hb (by decide) t10
  have hA := al b 3
  have hA' := al a 3
  rw [e]
  generalize alS w (b : Nat) (3 : Nat) = r at hA ⊢
  generalize alS w (a : Nat) (3 : Nat) = r' at hA'
  refine pc_walk pok Tryz.func203 chk203 ?_
  conv => whnf
  repeat' first | ((first | refine LookP.mk _ rfl ?_ | refine ShlP.mk _ (by first | (simp only [List.set, over, List.take, List.drop, List.append_eq, List.nil_append, List.cons_append, List.length]; rfl) | rfl) ?_ | refine And.intro (by first | assumption | exact ⟨by kernel_rfl, rfl⟩ | decide | omega) ?_ | refine beqT1 ?_ | refine beqF1 rfl ?_ | rw [e1] | refine pc_use hA ?_ | refine pc_use (hA') ?_ | refine HpP.force ?_); conv => whnf)
  all_goals first | exact fin rfl | (exfalso; simp at ht; done)
end Go.Tz
namespace Go.Tz
open Go Go.AL Go.Proofs Go.Ma
variable {G : Nat → Option (List D)}
theorem img_nf {w k a b n l : Nat} : nf (imgS w k a b n l) = gE k a b (eL n (decide (l = 1) || decide (l = 2)) (decide (l = 2) || decide (l = 3))) := nf_dec w (gE_lt _ _ _ _)
theorem mul_img0 {w k a b n : Nat} (hw : w ≤ 12) (h : gR w k a b) (hn : n < w) {q : Ps} (hq : Vl w q) : mulS q (imgS w k a b n 0) = q := by
 have hv := img_vl (l := 0) hw h hn
 refine nf_inj hw (mul_vl hw hq hv) hq ?_
 rw [nf_mul hw hq hv, img_nf]
 have h0 : eL n (decide (0 = 1) || decide (0 = 2)) (decide (0 = 2) || decide (0 = 3)) = e1 := by simp [eL, cd, e1]
 rw [h0, gE_one (gR_ok hw h), emul_one _ (nf_lt q)]
theorem mul_img2 {w k a b n : Nat} (hw : w ≤ 12) (h : gR w k a b) (hn : n < w) {q : Ps} (hq : Vl w q) : addP 1 (mulS (mulS q (imgS w k a b n 1)) (imgS w k a b n 3)) = mulS q (imgS w k a b n 2) := by
 have v1 := img_vl (l := 1) hw h hn
 have v2 := img_vl (l := 2) hw h hn
 have v3 := img_vl (l := 3) hw h hn
 have m1 := mul_vl hw hq v1
 have m2 := mul_vl hw m1 v3
 obtain ⟨s1, s2⟩ := addP_nf 1 (by decide) m2
 refine nf_inj hw s2 (mul_vl hw hq v2) (s1.trans ?_)
 rw [nf_mul hw m1 v3, nf_mul hw hq v1, nf_mul hw hq v2, img_nf, img_nf, img_nf, emul_assoc, ← mul_esh, ← gE_mul (gR_ok hw h), ← gE_esh]
 have := eL_mul (n := n) (by omega) true true
 show emul _ _ = emul _ (gE k a b (eL n true true))
 rw [this]; rfl
def leS (q : Ps) (n : Nat) : Nat := if (nf q).2.testBit n && (nf q).2.testBit (12 + n) then 2 else if (nf q).2.testBit n then 1 else if (nf q).2.testBit (12 + n) then 3 else 0
theorem le_le (q : Ps) (n : Nat) : leS q n ≤ 3 := by
 unfold leS
 split
 ·decide
 ·split
  ·decide
  ·split <;> decide
theorem le_x (q : Ps) (n : Nat) : (nf q).2.testBit n = (decide (leS q n = 1) || decide (leS q n = 2)) := by
 unfold leS
 cases (nf q).2.testBit n <;> cases (nf q).2.testBit (12 + n) <;> simp
theorem le_z (q : Ps) (n : Nat) : (nf q).2.testBit (12 + n) = (decide (leS q n = 2) || decide (leS q n = 3)) := by
 unfold leS
 cases (nf q).2.testBit n <;> cases (nf q).2.testBit (12 + n) <;> simp
theorem letter_le {w n : Nat} (hw : w ≤ 12) (hn : n < w) {q : Ps} (hq : Vl w q) : letterI q.x q.z n = leS q n := by
 obtain ⟨X, Z, P, rfl, h1, h2, h3⟩ := hq
 have hp : (2 : Nat) ^ w ≤ 2 ^ 12 := Nat.pow_le_pow_right (by decide) hw
 show letterI (X : Int) (Z : Int) n = _
 rw [letter_nat (by omega) (by omega) (by omega)]
 unfold leS
 rw [nf_mk]
 dsimp only
 rw [vecb_x (by omega) (by omega), vecb_z (by omega)]
 cases X.testBit n <;> cases Z.testBit n <;> simp
theorem two_all {w k a b : Nat} (hw : w ≤ 12) (h : gR w k a b) (hk : 9 ≤ k) {q : Ps} (hq : Vl w q) : mulS (mulS (withS (withS q a 0) b 0) (imgS w k a b a (leS q a))) (imgS w k a b b (leS q b)) = thrS w k a b q := by
 obtain ⟨ha, hb, hab, hk2⟩ : a < w ∧ b < w ∧ a ≠ b ∧ k ≤ 11 := by unfold gR at h; omega
 obtain ⟨a1, a2⟩ := with0_nf hw ha hq
 obtain ⟨b1, b2⟩ := with0_nf hw hb a2
 have v1 := img_vl (l := leS q a) hw h ha
 have v2 := img_vl (l := leS q b) hw h hb
 have m1 := mul_vl hw b2 v1
 refine thr_eq hw h hq (mul_vl hw m1 v2) ?_
 rw [nf_mul hw m1 v2, nf_mul hw b2 v1, b1, a1, img_nf, img_nf, ← le_x, ← le_z, ← le_x, ← le_z, ← gE_two2 hk hk2 (by omega) (by omega) hab (nf_lt q)]
theorem chk122 : chkFn Tryz.f122 = true := by kernel_rfl
theorem through122a {w k a b : Nat} {q : Ps} {K : Int} (hK : K = k) {u : Bool} {bb i : Int} (hw : 1 ≤ w ∧ w ≤ 12) (hk1 : 1 ≤ k) (hk2 : k ≤ 6) (ha : a < w) (hq : Vl w q) : PC Pr G 122 [q.d, (Gt.mk K [(a : Int)] u bb i).d] (thrS w k a b q).d := by
 have hfin := gE_one1S hw.2 hk1 hk2 ha b hq (le_le q a) (le_x q a) (le_z q a)
 have hl := letter_c (G := G) q.w q.x q.z q.p (a : Int) (Int.natCast_nonneg _)
 rw [letter_le hw.2 ha hq] at hl
 have h1 := one202 (G := G) hK rfl hk1 hk2 (le_le q a)
 have h2 := withS_c (G := G) q a (oneL k (leS q a)).1 (Int.natCast_nonneg _)
 rw [← hfin]
 unfold addP
 generalize withS q a (oneL k (leS q a)).1 = r at h2 ⊢
 generalize oneL k (leS q a) = o at h1 h2 ⊢
 generalize ((leS q a : Nat) : Int) = l at hl h1
 refine pc_walk pok Tryz.func122 chk122 ?_
 conv => whnf
 repeat' first | ((first | refine LookP.mk _ rfl ?_ | refine ShlP.mk _ (by first | (simp only [List.set, over, List.take, List.drop, List.append_eq, List.nil_append, List.cons_append, List.length]; rfl) | rfl) ?_ | refine And.intro (by first | assumption | exact ⟨by kernel_rfl, rfl⟩ | decide | omega) ?_ | refine beqT1 ?_ | refine pc_head hl ?_ | refine pc_head h1 ?_ | refine pc_head h2 ?_ | refine HpP.force ?_); conv => whnf)
 all_goals first | exact fin rfl | (exfalso; simp at ht; done)
theorem letter_w {q : Ps} {w : Nat} (hq : Vl w q) (n : Int) (hn : 0 ≤ n) : PC Pr G 103 [q.d, iD n] (iD (letterI q.x q.z n)) := letter_c q.w q.x q.z q.p n hn
theorem through122b {w k a b : Nat} {q : Ps} {K : Int} (hK : K = k) {u : Bool} {bb i : Int} (hw : 1 ≤ w ∧ w ≤ 12) (hk1 : 9 ≤ k) (hk2 : k ≤ 11) (ha : a < w) (hb : b < w) (hab : a ≠ b) (hq : Vl w q) : PC Pr G 122 [q.d, (Gt.mk K [(a : Int), (b : Int)] u bb i).d] (thrS w k a b q).d := by
 have hg : gR w k a b := .inr ⟨hk1, hk2, ha, hb, hab⟩
 have hfin := two_all hw.2 hg hk1 hq
 have hwq := vl_w hq
 obtain ⟨_, va⟩ := with0_nf hw.2 ha hq
 obtain ⟨_, vb⟩ := with0_nf hw.2 hb va
 have w1 := withS_c (G := G) q a 0 (Int.natCast_nonneg _)
 have w2 := withS_c (G := G) (withS q a 0) b 0 (Int.natCast_nonneg _)
 have la := letter_w (G := G) hq (a : Int) (Int.natCast_nonneg _)
 have lb := letter_w (G := G) hq (b : Int) (Int.natCast_nonneg _)
 rw [letter_le hw.2 ha hq] at la
 rw [letter_le hw.2 hb hq] at lb
 have xa1 : PC Pr G 203 [iD w, (Gt.mk K [(a : Int), (b : Int)] u bb i).d, iD a, iD 1] (imgS w k a b a 1).d := two203 hK rfl hw.2 hk1 hk2 ha hb hab (.inl rfl) true
 have xa3 : PC Pr G 203 [iD w, (Gt.mk K [(a : Int), (b : Int)] u bb i).d, iD a, iD 3] (imgS w k a b a 3).d := two203 hK rfl hw.2 hk1 hk2 ha hb hab (.inr rfl) true
 have xb1 : PC Pr G 203 [iD w, (Gt.mk K [(a : Int), (b : Int)] u bb i).d, iD b, iD 1] (imgS w k a b b 1).d := two203 hK rfl hw.2 hk1 hk2 ha hb hab (.inl rfl) false
 have xb3 : PC Pr G 203 [iD w, (Gt.mk K [(a : Int), (b : Int)] u bb i).d, iD b, iD 3] (imgS w k a b b 3).d := two203 hK rfl hw.2 hk1 hk2 ha hb hab (.inr rfl) false
 have va0 := fun l => img_vl (l := l) hw.2 hg ha
 have vb0 := fun l => img_vl (l := l) hw.2 hg hb
 have m0a := fun {r} (hr : Vl w r) => mul_img0 hw.2 hg ha hr
 have m0b := fun {r} (hr : Vl w r) => mul_img0 hw.2 hg hb hr
 have m2a := fun {r} (hr : Vl w r) => mul_img2 hw.2 hg ha hr
 have m2b := fun {r} (hr : Vl w r) => mul_img2 hw.2 hg hb hr
 have hla := le_le q a
 have hlb := le_le q b
 have hvm := fun {r s} (hr : Vl w r) (hs : Vl w s) => mul_vl hw.2 hr hs
 generalize withS q a 0 = r1 at w1 w2 va vb hfin
 generalize withS r1 b 0 = r0 at w2 vb hfin
 generalize imgS w k a b a = ia at xa1 xa3 va0 m0a m2a hfin
 generalize imgS w k a b b = ib at xb1 xb3 vb0 m0b m2b hfin
 generalize leS q a = l1 at la hla hfin
 generalize leS q b = l2 at lb hlb hfin
 have hmc := fun {r s : Ps} (hr : Vl w r) (hs : Vl w s) => mulS_c (G := G) r s (by rw [vl_w hr]; omega) (by rw [vl_w hs, vl_w hr])
 rw [← hfin]
 have v1 := hvm vb (va0 l1)
 obtain ⟨qw, qx, qz, qp⟩ := q
 obtain rfl : qw = w := hwq
 refine pc_walk pok Tryz.func122 chk122 ?_
 conv => whnf
 repeat' first | ((first | refine LookP.mk _ rfl ?_ | refine ShlP.mk _ (by first | (simp only [List.set, over, List.take, List.drop, List.append_eq, List.nil_append, List.cons_append, List.length]; rfl) | rfl) ?_ | refine And.intro (by first | assumption | exact ⟨by kernel_rfl, rfl⟩ | decide | omega) ?_ | refine pc_head w1 ?_ | refine pc_head w2 ?_ | refine HpP.force ?_); conv => whnf) | (intro t ht; cases t <;> conv => whnf)
 refine for_use pok (fun j => ⟨[(2, .ptr 0 4 0 0), (3, .ptr 1 4 0 0), (4, .ptr 2 4 0 0), (7, .ptr 3 4 0 0), (8, .d (iD j))], [(0, some (.arr 4 [[.d (iD w), .d (iD qx), .d (iD qz), .d (iD qp)]])), (1, some (.arr 4 [[.d (iD K), .d (intsD [(a : Int), (b : Int)] u), .d (iD bb), .d (iD i)]])), (2, some (.arr 4 [[.d (iD 0), .d (iD 0), .d (iD 0), .d (iD 0)]])), (3, some (.arr 4 [(if j = 0 then r0 else if j = 1 then mulS r0 (ia l1) else mulS (mulS r0 (ia l1)) (ib l2)).l.map AV.d]))], 4⟩) (2) (fun _ => True) (trivial) ?_ (by kernel_rfl) ?_ ?_
 ·refine keep_env (by first | exact Nat.zero_le _ | exact Nat.le_of_ble_eq_true rfl) ?_ ?_ trivial
  ·repeat' first | exact trivial | refine ⟨⟨by first | rfl | assumption, rfl⟩, ?_⟩
  ·repeat' first | exact trivial | refine ⟨⟨ltB rfl, _, rfl, by first | rfl | assumption, by first | exact below1 rfl | exact below_dblk _ _ _ | exact below_arr rfl⟩, ?_⟩
 ·intro j A_j h_j I_j N_j
  have e_j : iadd .i64 (j : Int) 1 = ((j + 1 : Nat) : Int) := iadd_nat (by first | omega | (simp at *; omega))
  have hj : j = 0 ∨ j = 1 := by omega
  rcases hj with rfl | rfl
  ·simp only [if_true]
   have hnx : (if 0 + 1 = 0 then r0 else if 0 + 1 = 1 then mulS r0 (ia l1) else mulS (mulS r0 (ia l1)) (ib l2)) = mulS r0 (ia l1) := rfl
   generalize (if 0 + 1 = 0 then r0 else if 0 + 1 = 1 then mulS r0 (ia l1) else mulS (mulS r0 (ia l1)) (ib l2)) = o at hnx N_j
   have hl : l1 = 0 ∨ l1 = 1 ∨ l1 = 2 ∨ l1 = 3 := by omega
   rcases hl with rfl | rfl | rfl | rfl
   ·have hle : PC Pr G 103 [.agg [iD w, iD qx, iD qz, iD qp], iD a] (iD 0) := la
    rw [m0a vb] at hnx
    subst hnx
    conv => whnf
    repeat (refine LookP.mk _ rfl ?_; conv => whnf)
    intro t ht
    cases t
    ·exfalso; first | (simp at ht; done) | (simp at ht; omega)
    conv => whnf
    repeat' first | ((first | refine LookP.mk _ rfl ?_ | refine And.intro (by first | assumption | exact ⟨by kernel_rfl, rfl⟩ | decide | omega) ?_ | refine beqF1 rfl ?_ | refine pc_use hle ?_); conv => whnf)
    refine N_j _ ?_ ?_
    ·first | trivial | assumption | omega
    ·refine keep_env (by first | exact Nat.zero_le _ | exact Nat.le_of_ble_eq_true rfl) ?_ ?_ trivial
     ·repeat' first | exact trivial | refine ⟨⟨by first | rfl | assumption | exact congrArg (fun n => AV.d (iD n)) e_j, rfl⟩, ?_⟩
     ·repeat' first | exact trivial | refine ⟨⟨ltB rfl, _, rfl, by first | rfl | assumption, by first | exact below1 rfl | exact below_dblk _ _ _ | exact below_arr rfl⟩, ?_⟩
   ·have hle : PC Pr G 103 [.agg [iD w, iD qx, iD qz, iD qp], iD a] (iD 1) := la
    have hm := hmc vb (va0 1)
    rw [← hnx] at hm
    generalize ia 1 = d at xa1 hm
    obtain ⟨cw, cx, cz, cp⟩ := r0
    conv => whnf
    repeat (refine LookP.mk _ rfl ?_; conv => whnf)
    intro t ht
    cases t
    ·exfalso; first | (simp at ht; done) | (simp at ht; omega)
    conv => whnf
    repeat' first | ((first | refine LookP.mk _ rfl ?_ | refine ShlP.mk _ (by first | (simp only [List.set, over, List.take, List.drop, List.append_eq, List.nil_append, List.cons_append, List.length]; rfl) | rfl) ?_ | refine And.intro (by first | assumption | exact ⟨by kernel_rfl, rfl⟩ | decide | omega) ?_ | refine beqT1 ?_ | refine beqF1 rfl ?_ | refine pc_use hle ?_ | refine pc_head xa1 ?_ | refine pc_head hm ?_ | refine HpP.force ?_); conv => whnf)
    refine N_j _ ?_ ?_
    ·first | trivial | assumption | omega
    ·refine keep_env (by first | exact Nat.zero_le _ | exact Nat.le_of_ble_eq_true rfl) ?_ ?_ trivial
     ·repeat' first | exact trivial | refine ⟨⟨by first | rfl | assumption | exact congrArg (fun n => AV.d (iD n)) e_j, rfl⟩, ?_⟩
     ·repeat' first | exact trivial | refine ⟨⟨ltB rfl, _, rfl, by first | rfl | assumption, by first | exact below1 rfl | exact below_dblk _ _ _ | exact below_arr rfl⟩, ?_⟩
   ·have hle : PC Pr G 103 [.agg [iD w, iD qx, iD qz, iD qp], iD a] (iD 2) := la
    rw [← m2a vb] at hnx
    have hm := hmc vb (va0 1)
    have hm2 := hmc (hvm vb (va0 1)) (va0 3)
    generalize ia 1 = d at xa1 hm hm2 hnx
    generalize ia 3 = d3 at xa3 hm2 hnx
    generalize mulS r0 d = m at hm hm2 hnx
    generalize mulS m d3 = m2 at hm2 hnx
    subst hnx
    obtain ⟨cw, cx, cz, cp⟩ := r0
    conv => whnf
    repeat (refine LookP.mk _ rfl ?_; conv => whnf)
    intro t ht
    cases t
    ·exfalso; first | (simp at ht; done) | (simp at ht; omega)
    conv => whnf
    repeat' first | ((first | refine LookP.mk _ rfl ?_ | refine ShlP.mk _ (by first | (simp only [List.set, over, List.take, List.drop, List.append_eq, List.nil_append, List.cons_append, List.length]; rfl) | rfl) ?_ | refine And.intro (by first | assumption | exact ⟨by kernel_rfl, rfl⟩ | decide | omega) ?_ | refine beqT1 ?_ | refine beqF1 rfl ?_ | refine pc_use hle ?_ | refine pc_head xa1 ?_ | refine pc_head xa3 ?_ | refine pc_head hm ?_ | refine pc_head hm2 ?_ | refine HpP.force ?_); conv => whnf)
    refine N_j _ ?_ ?_
    ·first | trivial | assumption | omega
    ·refine keep_env (by first | exact Nat.zero_le _ | exact Nat.le_of_ble_eq_true rfl) ?_ ?_ trivial
     ·repeat' first | exact trivial | refine ⟨⟨by first | rfl | assumption | exact congrArg (fun n => AV.d (iD n)) e_j, rfl⟩, ?_⟩
     ·repeat' first | exact trivial | refine ⟨⟨ltB rfl, _, rfl, by first | rfl | assumption, by first | exact below1 rfl | exact below_dblk _ _ _ | exact below_arr rfl⟩, ?_⟩
   ·have hle : PC Pr G 103 [.agg [iD w, iD qx, iD qz, iD qp], iD a] (iD 3) := la
    have hm := hmc vb (va0 3)
    rw [← hnx] at hm
    generalize ia 3 = d at xa3 hm
    obtain ⟨cw, cx, cz, cp⟩ := r0
    conv => whnf
    repeat (refine LookP.mk _ rfl ?_; conv => whnf)
    intro t ht
    cases t
    ·exfalso; first | (simp at ht; done) | (simp at ht; omega)
    conv => whnf
    repeat' first | ((first | refine LookP.mk _ rfl ?_ | refine ShlP.mk _ (by first | (simp only [List.set, over, List.take, List.drop, List.append_eq, List.nil_append, List.cons_append, List.length]; rfl) | rfl) ?_ | refine And.intro (by first | assumption | exact ⟨by kernel_rfl, rfl⟩ | decide | omega) ?_ | refine beqT1 ?_ | refine beqF1 rfl ?_ | refine pc_use hle ?_ | refine pc_head xa3 ?_ | refine pc_head hm ?_ | refine HpP.force ?_); conv => whnf)
    refine N_j _ ?_ ?_
    ·first | trivial | assumption | omega
    ·refine keep_env (by first | exact Nat.zero_le _ | exact Nat.le_of_ble_eq_true rfl) ?_ ?_ trivial
     ·repeat' first | exact trivial | refine ⟨⟨by first | rfl | assumption | exact congrArg (fun n => AV.d (iD n)) e_j, rfl⟩, ?_⟩
     ·repeat' first | exact trivial | refine ⟨⟨ltB rfl, _, rfl, by first | rfl | assumption, by first | exact below1 rfl | exact below_dblk _ _ _ | exact below_arr rfl⟩, ?_⟩
  ·have ec : (if 1 = 0 then r0 else if 1 = 1 then mulS r0 (ia l1) else mulS (mulS r0 (ia l1)) (ib l2)) = mulS r0 (ia l1) := rfl
   rw [ec]
   have hnx : (if 1 + 1 = 0 then r0 else if 1 + 1 = 1 then mulS r0 (ia l1) else mulS (mulS r0 (ia l1)) (ib l2)) = mulS (mulS r0 (ia l1)) (ib l2) := rfl
   generalize (if 1 + 1 = 0 then r0 else if 1 + 1 = 1 then mulS r0 (ia l1) else mulS (mulS r0 (ia l1)) (ib l2)) = o at hnx N_j
   generalize mulS r0 (ia l1) = r at v1 hnx ⊢
   have hl : l2 = 0 ∨ l2 = 1 ∨ l2 = 2 ∨ l2 = 3 := by omega
   rcases hl with rfl | rfl | rfl | rfl
   ·have hle : PC Pr G 103 [.agg [iD w, iD qx, iD qz, iD qp], iD b] (iD 0) := lb
    rw [m0b v1] at hnx
    subst hnx
    conv => whnf
    repeat (refine LookP.mk _ rfl ?_; conv => whnf)
    intro t ht
    cases t
    ·exfalso; first | (simp at ht; done) | (simp at ht; omega)
    conv => whnf
    repeat' first | ((first | refine LookP.mk _ rfl ?_ | refine And.intro (by first | assumption | exact ⟨by kernel_rfl, rfl⟩ | decide | omega) ?_ | refine beqF1 rfl ?_ | refine pc_use hle ?_); conv => whnf)
    refine N_j _ ?_ ?_
    ·first | trivial | assumption | omega
    ·refine keep_env (by first | exact Nat.zero_le _ | exact Nat.le_of_ble_eq_true rfl) ?_ ?_ trivial
     ·repeat' first | exact trivial | refine ⟨⟨by first | rfl | assumption | exact congrArg (fun n => AV.d (iD n)) e_j, rfl⟩, ?_⟩
     ·repeat' first | exact trivial | refine ⟨⟨ltB rfl, _, rfl, by first | rfl | assumption, by first | exact below1 rfl | exact below_dblk _ _ _ | exact below_arr rfl⟩, ?_⟩
   ·have hle : PC Pr G 103 [.agg [iD w, iD qx, iD qz, iD qp], iD b] (iD 1) := lb
    have hm := hmc v1 (vb0 1)
    rw [← hnx] at hm
    generalize ib 1 = d at xb1 hm
    obtain ⟨cw, cx, cz, cp⟩ := r
    conv => whnf
    repeat (refine LookP.mk _ rfl ?_; conv => whnf)
    intro t ht
    cases t
    ·exfalso; first | (simp at ht; done) | (simp at ht; omega)
    conv => whnf
    repeat' first | ((first | refine LookP.mk _ rfl ?_ | refine ShlP.mk _ (by first | (simp only [List.set, over, List.take, List.drop, List.append_eq, List.nil_append, List.cons_append, List.length]; rfl) | rfl) ?_ | refine And.intro (by first | assumption | exact ⟨by kernel_rfl, rfl⟩ | decide | omega) ?_ | refine beqT1 ?_ | refine beqF1 rfl ?_ | refine pc_use hle ?_ | refine pc_head xb1 ?_ | refine pc_head hm ?_ | refine HpP.force ?_); conv => whnf)
    refine N_j _ ?_ ?_
    ·first | trivial | assumption | omega
    ·refine keep_env (by first | exact Nat.zero_le _ | exact Nat.le_of_ble_eq_true rfl) ?_ ?_ trivial
     ·repeat' first | exact trivial | refine ⟨⟨by first | rfl | assumption | exact congrArg (fun n => AV.d (iD n)) e_j, rfl⟩, ?_⟩
     ·repeat' first | exact trivial | refine ⟨⟨ltB rfl, _, rfl, by first | rfl | assumption, by first | exact below1 rfl | exact below_dblk _ _ _ | exact below_arr rfl⟩, ?_⟩
   ·have hle : PC Pr G 103 [.agg [iD w, iD qx, iD qz, iD qp], iD b] (iD 2) := lb
    rw [← m2b v1] at hnx
    have hm := hmc v1 (vb0 1)
    have hm2 := hmc (hvm v1 (vb0 1)) (vb0 3)
    generalize ib 1 = d at xb1 hm hm2 hnx
    generalize ib 3 = d3 at xb3 hm2 hnx
    generalize mulS r d = m at hm hm2 hnx
    generalize mulS m d3 = m2 at hm2 hnx
    subst hnx
    obtain ⟨cw, cx, cz, cp⟩ := r
    conv => whnf
    repeat (refine LookP.mk _ rfl ?_; conv => whnf)
    intro t ht
    cases t
    ·exfalso; first | (simp at ht; done) | (simp at ht; omega)
    conv => whnf
    repeat' first | ((first | refine LookP.mk _ rfl ?_ | refine ShlP.mk _ (by first | (simp only [List.set, over, List.take, List.drop, List.append_eq, List.nil_append, List.cons_append, List.length]; rfl) | rfl) ?_ | refine And.intro (by first | assumption | exact ⟨by kernel_rfl, rfl⟩ | decide | omega) ?_ | refine beqT1 ?_ | refine beqF1 rfl ?_ | refine pc_use hle ?_ | refine pc_head xb1 ?_ | refine pc_head xb3 ?_ | refine pc_head hm ?_ | refine pc_head hm2 ?_ | refine HpP.force ?_); conv => whnf)
    refine N_j _ ?_ ?_
    ·first | trivial | assumption | omega
    ·refine keep_env (by first | exact Nat.zero_le _ | exact Nat.le_of_ble_eq_true rfl) ?_ ?_ trivial
     ·repeat' first | exact trivial | refine ⟨⟨by first | rfl | assumption | exact congrArg (fun n => AV.d (iD n)) e_j, rfl⟩, ?_⟩
     ·repeat' first | exact trivial | refine ⟨⟨ltB rfl, _, rfl, by first | rfl | assumption, by first | exact below1 rfl | exact below_dblk _ _ _ | exact below_arr rfl⟩, ?_⟩
   ·have hle : PC Pr G 103 [.agg [iD w, iD qx, iD qz, iD qp], iD b] (iD 3) := lb
    have hm := hmc v1 (vb0 3)
    rw [← hnx] at hm
    generalize ib 3 = d at xb3 hm
    obtain ⟨cw, cx, cz, cp⟩ := r
    conv => whnf
    repeat (refine LookP.mk _ rfl ?_; conv => whnf)
    intro t ht
    cases t
    ·exfalso; first | (simp at ht; done) | (simp at ht; omega)
    conv => whnf
    repeat' first | ((first | refine LookP.mk _ rfl ?_ | refine ShlP.mk _ (by first | (simp only [List.set, over, List.take, List.drop, List.append_eq, List.nil_append, List.cons_append, List.length]; rfl) | rfl) ?_ | refine And.intro (by first | assumption | exact ⟨by kernel_rfl, rfl⟩ | decide | omega) ?_ | refine beqT1 ?_ | refine beqF1 rfl ?_ | refine pc_use hle ?_ | refine pc_head xb3 ?_ | refine pc_head hm ?_ | refine HpP.force ?_); conv => whnf)
    refine N_j _ ?_ ?_
    ·first | trivial | assumption | omega
    ·refine keep_env (by first | exact Nat.zero_le _ | exact Nat.le_of_ble_eq_true rfl) ?_ ?_ trivial
     ·repeat' first | exact trivial | refine ⟨⟨by first | rfl | assumption | exact congrArg (fun n => AV.d (iD n)) e_j, rfl⟩, ?_⟩
     ·repeat' first | exact trivial | refine ⟨⟨ltB rfl, _, rfl, by first | rfl | assumption, by first | exact below1 rfl | exact below_dblk _ _ _ | exact below_arr rfl⟩, ?_⟩
 ·intro A_last I_last
  have e2 : (if 2 = 0 then r0 else if 2 = 1 then mulS r0 (ia l1) else mulS (mulS r0 (ia l1)) (ib l2)) = mulS (mulS r0 (ia l1)) (ib l2) := rfl
  rw [e2]
  generalize mulS (mulS r0 (ia l1)) (ib l2) = o
  conv => whnf
  repeat (refine LookP.mk _ rfl ?_; conv => whnf)
  intro t ht
  cases t
  rotate_left
  ·exfalso; first | (simp at ht; done) | (simp at ht; omega)
  conv => whnf
  repeat' first | ((first | refine LookP.mk _ rfl ?_ | refine ShlP.mk _ (by first | (simp only [List.set, over, List.take, List.drop, List.append_eq, List.nil_append, List.cons_append, List.length]; rfl) | rfl) ?_ | refine HpP.force ?_); conv => whnf)
  exact fin rfl
 ·exfalso; simp at ht
end Go.Tz
namespace Go.Tz
open Go Go.AL Go.Proofs Go.Ma
variable {G : Nat → Option (List D)}
def appG (w : Nat) (g : Gt) (l : List Ps) : List Ps := redRows (l.map (thrG w g)) (2 * w)
theorem thrG_vl {w : Nat} (hw : w ≤ 12) {g : Gt} {bits : Int} (hg : gchk g w bits = 0) (hk : kindB g.k = true) {q : Ps} (hq : Vl w q) : Vl w (thrG w g q) := thr_vl hw (gR_of hg hk).1 hq
theorem thrG_all {w : Nat} (hw : w ≤ 12) {g : Gt} {bits : Int} (hg : gchk g w bits = 0) (hk : kindB g.k = true) {l : List Ps} (hv : ∀ q, q ∈ l → Vl w q) : ∀ q, q ∈ l.map (thrG w g) → Vl w q := fun q hq => by
 obtain ⟨r, hr, rfl⟩ := List.mem_map.1 hq
 exact thrG_vl hw hg hk (hv r hr)
theorem appG_sok {w : Nat} {g : Gt} {bits : Int} (hg : gchk g w bits = 0) (hk : kindB g.k = true) {l : List Ps} (h : SOk w l) : SOk w (appG w g l) := app_sok (gR_of hg hk).1 h
theorem appG_red {w : Nat} {g : Gt} {bits : Int} (hg : gchk g w bits = 0) (hk : kindB g.k = true) {l : List Ps} (h : SOk w l) : redRows (appG w g l) (2 * w) = appG w g l := red_red (map_thr_sok (gR_of hg hk).1 h)
theorem chk125 : chkFn Tryz.f125 = true := by kernel_rfl
theorem applied125 {w : Nat} (hw : 1 ≤ w ∧ w ≤ 12) {k b i : Int} {ws : List Int} {u : Bool} (hg : gchk ⟨k, ws, u, b, 0⟩ w 0 = 0) (hk : kindB k = true) (l : List Ps) (t : Bool) (hn : l.length ≤ 1000) (hv : ∀ q, q ∈ l → Vl w q) :
  PO Pr G 125 [stD w l t, (Gt.mk k ws u b i).d] (.agg [.d (iD w), .sl 0 4 0 l.length l.length true]) [(0, some (dblk 4 ((appG w ⟨k, ws, u, b, 0⟩ l).map Ps.l)))] 1 := by
 have hwl : ws.length ≤ 1000 := by
  have h := (gchk_ok hg).2.1
  simp only at h
  have : arI k ≤ 3 := by unfold arI; split <;> (try split) <;> (try split) <;> omega
  omega
 have hgv := thrG_all hw.2 hg hk hv
 have hc := canon105o (G := G) hw (l.map (thrG w ⟨k, ws, u, b, 0⟩)) false (by simpa using hn) hgv
 have ht : ∀ q, Vl w q → PC Pr G 69 [q.d, (Gt.mk k ws u b 0).d] (.tup [(thrG w ⟨k, ws, u, b, 0⟩ q).d, iD 0]) := fun q hq => by
  have := through69 (G := G) hw ⟨k, ws, u, b, 0⟩ hwl hq
  unfold thrD at this
  rw [if_neg (fun h => h hg), if_pos hk] at this
  exact this
 show PO Pr G 125 _ _ [(0, some (dblk 4 ((redRows (l.map (thrG w ⟨k, ws, u, b, 0⟩)) (2 * w)).map Ps.l)))] 1
 generalize thrG w ⟨k, ws, u, b, 0⟩ = F at hc ht ⊢
 have hlen : (l.map F).length = l.length := by simp
 rw [hlen] at hc
 generalize redRows (l.map F) (2 * w) = R at hc ⊢
 refine ⟨isFn_of Tryz.func125 chk125, acall_sub (K := fun v H _ => v = .agg [.d (iD w), .sl 5 4 0 l.length l.length true] ∧ H.get 5 = some (dblk 4 (R.map Ps.l))) (fn_walk pok Tryz.func125 chk125 ?_) ?_⟩
 ·conv => whnf
  repeat' first | ((first | refine LookP.mk _ rfl ?_ | refine ShlP.mk _ (by first | (simp only [List.set, over, List.take, List.drop, List.append_eq, List.nil_append, List.cons_append, List.length]; rfl) | rfl) ?_ | refine HpP.force ?_); conv => whnf)
  refine for_use pok (fun j => ⟨[(3, .ptr 1 4 0 0), (4, .ptr 2 2 0 0), (5, .ptr 3 2 0 0), (15, .d (rowsD l t)), (16, .d (iD (l.map Ps.l).length)), (17, .d (iD j))], [(1, some (.arr 4 [[.d (iD k), .d (intsD ws u), .d (iD b), .d (iD 0)]])), (2, some (.arr 2 [[.d (iD 0), .d (.sl [] true)]])), (3, some (.arr 2 [[.d (iD w), .sl 4 4 0 j j false]])), (4, some (dblk 4 (((l.take j).map F).map Ps.l)))], 5⟩) (l.length) (fun _ => True) (trivial) ?_ (by kernel_rfl) ?_ ?_
  ·refine Sub.trans (sub_nilH2 (nm := 3) (S := 4) (Nat.zero_le _) rfl) ?_
   refine keep_env (by first | exact Nat.zero_le _ | exact Nat.le_of_ble_eq_true rfl) ?_ ?_ trivial
   ·repeat' first | exact trivial | refine ⟨⟨by first | rfl | assumption, rfl⟩, ?_⟩
   ·repeat' first | exact trivial | refine ⟨⟨ltB rfl, _, rfl, by first | rfl | assumption, by first | exact below1 rfl | exact below_dblk _ _ _ | exact below_arr rfl⟩, ?_⟩
  ·intro j A_j h_j I_j N_j
   have e_j : iadd .i64 (j : Int) 1 = ((j + 1 : Nat) : Int) := iadd_nat (by first | omega | (simp at *; omega))
   have hj := ht l[j] (hv _ (List.getElem_mem h_j))
   have hsn : ((l.take (j + 1)).map F).map Ps.l = ((l.take j).map F).map Ps.l ++ [(F l[j]).l] := by rw [take_snoc h_j, List.map_append, List.map_append]; rfl
   have hml : (((l.take j).map F).map Ps.l).length = j := by rw [List.length_map, List.length_map, List.length_take]; omega
   generalize ((l.take j).map F).map Ps.l = M at hsn hml
   generalize F l[j] = r at hj hsn
   conv => whnf
   repeat (refine LookP.mk _ rfl ?_; conv => whnf)
   intro t ht
   cases t
   ·exfalso; first | (simp at ht; done) | (simp at ht; omega)
   conv => whnf
   repeat' first | ((first | refine LookP.mk _ (by first | rfl | exact get_l h_j) ?_ | refine ShlP.mk _ (by first | (simp only [List.set, over, List.take, List.drop, List.append_eq, List.nil_append, List.cons_append, List.length]; rfl) | rfl) ?_ | (refine And.intro (by first | exact Nat.le_refl _ | exact ⟨by rw [List.length_map]; exact hml, by decide, by show (2 * (j + 1) + 192) * 32 ≤ 281474976710656; omega⟩ | assumption | exact ⟨by kernel_rfl, rfl⟩ | decide | omega) ?_) | refine pc_use hj ?_ | rw [nbeq] | refine HpP.force ?_); conv => whnf)
   refine N_j _ ?_ ?_
   ·first | trivial | assumption | omega
   ·first | refine ren_env [(4, 8)] ?_ ?_ ?_ trivial | refine ren_envB [(4, 8)] rfl rfl ?_ ?_ ?_ trivial
    ·repeat' first | exact trivial | refine ⟨⟨by first | rfl | assumption | exact congrArg (fun n => AV.d (iD n)) e_j, rfl⟩, ?_⟩
    ·repeat' first | exact trivial | refine ⟨⟨ltB rfl, _, rfl, by first | rfl | assumption | exact get_ren rfl (by first | rfl | assumption | exact get_ren rfl (by rw [hsn]; exact congrArg some (dblk_snoc rfl))) | exact get_ren rfl (by rw [hsn]; exact congrArg some (dblk_snoc rfl)), by first | exact below1 rfl | exact below_dblk _ _ _ | exact below_arr rfl⟩, ?_⟩
    ·repeat' first | exact trivial | (refine And.intro ?_ ?_) | (exact fun _ => rfl) | (exact fun h => absurd h (Nat.ne_of_beq_eq_false rfl))
  ·intro A_last I_last
   have hT : l.take l.length = l := List.take_of_length_le (Nat.le_refl _)
   rw [hT]
   conv => whnf
   repeat (refine LookP.mk _ rfl ?_; conv => whnf)
   intro t ht
   cases t
   rotate_left
   ·exfalso; first | (simp at ht; done) | (simp at ht; omega)
   conv => whnf
   repeat' first | ((first | refine LookP.mk _ rfl ?_ | refine ShlP.mk _ (by first | (simp only [List.set, over, List.take, List.drop, List.append_eq, List.nil_append, List.cons_append, List.length]; rfl) | rfl) ?_ | refine po_giveS hc rfl (by simp) ?_ | refine HpP.force ?_); conv => whnf)
   refine fin ⟨rfl, ?_⟩
   show some (Blk.ren _ (dblk 4 _)) = _
   rw [ren_dblk]
 ·rintro v H n ⟨rfl, h2⟩
  refine ⟨_, _, 1, ?_, rfl, rfl, rfl⟩
  first | refine ren_env [(0, 5)] ?_ ?_ ?_ trivial | refine ren_envB [(0, 5)] rfl rfl ?_ ?_ ?_ trivial
  ·repeat' first | exact trivial | refine ⟨⟨by first | rfl | assumption, rfl⟩, ?_⟩
  ·repeat' first | exact trivial | refine ⟨⟨ltB rfl, _, rfl, by first | rfl | assumption | exact get_ren rfl (by first | rfl | assumption | exact get_ren rfl h2) | exact get_ren rfl h2, by first | exact below1 rfl | exact below_dblk _ _ _ | exact below_arr rfl⟩, ?_⟩
  ·repeat' first | exact trivial | (refine And.intro ?_ ?_) | (exact fun _ => rfl) | (exact fun h => absurd h (Nat.ne_of_beq_eq_false rfl))
end Go.Tz
namespace Go.Tz
open Go Go.AL Go.Proofs Go.Ma
variable {G : Nat → Option (List D)}
theorem through122g {w : Nat} (hw : 1 ≤ w ∧ w ≤ 12) {g : Gt} {bits : Int} (h : gchk g w bits = 0) (hk : kindB g.k = true) {q : Ps} (hq : Vl w q) : PC Pr G 122 [q.d, g.d] (thrG w g q).d := by
 obtain ⟨h1, h2, h3⟩ := gR_of h hk
 unfold thrG
 obtain ⟨k, ws, u, b, f⟩ := g
 simp only at h1 h2 h3 hk
 generalize gK ⟨k, ws, u, b, f⟩ = K at h1 h2 h3 ⊢
 generalize gA ⟨k, ws, u, b, f⟩ = A at h1 h3 ⊢
 generalize gB ⟨k, ws, u, b, f⟩ = B at h1 h3 ⊢
 rw [h3]
 rcases h1 with ⟨k1, k2, ha⟩ | ⟨k1, k2, ha, hb, hab⟩
 ·have e : wsOf K A B = [(A : Int)] := if_pos k2
  rw [e]
  exact through122a h2 hw k1 k2 ha hq
 ·have e : wsOf K A B = [(A : Int), (B : Int)] := if_neg (by omega)
  rw [e]
  exact through122b h2 hw k1 k2 ha hb hab hq
theorem chk44 : chkFn Tryz.f44 = true := by kernel_rfl
theorem apply44 {w : Nat} (hw : 1 ≤ w ∧ w ≤ 12) (g : Gt) {bits : Int} (hg : gchk g w bits = 0) (hk : kindB g.k = true) (l : List Ps) (t : Bool) (hpos : 0 < l.length) (hn : l.length ≤ 1000) (hv : ∀ q, q ∈ l → Vl w q) :
  PC Pr G 44 [stD w l t, g.d] (stD w (appG w g l) false) := by
 have hgv := thrG_all hw.2 hg hk hv
 have hc := canon26 (G := G) w (l.map (thrG w g)) false w (by simpa using hn) (by simpa using hpos) (fun q hq => vl_w (hgv q hq)) (by omega) (by omega)
 rw [Int.toNat_natCast] at hc
 have ht := fun q hq => through122g (G := G) hw hg hk (q := q) hq
 show PC Pr G 44 _ (stD w (redRows (l.map (thrG w g)) (2 * w)) false)
 generalize thrG w g = F at hc ht ⊢
 generalize redRows (l.map F) (2 * w) = R at hc ⊢
 obtain ⟨k, ws, u, b, i⟩ := g
 refine pc_walk pok Tryz.func44 chk44 ?_
 conv => whnf
 repeat' first | ((first | refine LookP.mk _ rfl ?_ | refine ShlP.mk _ (by first | (simp only [List.set, over, List.take, List.drop, List.append_eq, List.nil_append, List.cons_append, List.length]; rfl) | rfl) ?_ | refine HpP.force ?_); conv => whnf)
 refine for_use pok (fun j => ⟨[(2, .ptr 0 2 0 0), (3, .ptr 1 4 0 0), (4, .ptr 2 2 0 0), (5, .ptr 3 2 0 0), (6, .d (iD j))], [(0, some (.arr 2 [[.d (iD w), .d (rowsD l t)]])), (1, some (.arr 4 [[.d (iD k), .d (intsD ws u), .d (iD b), .d (iD i)]])), (2, some (.arr 2 [[.d (iD 0), .d (.sl [] true)]])), (3, some (.arr 2 [[.d (iD w), .sl 4 4 0 j j false]])), (4, some (dblk 4 (((l.take j).map F).map Ps.l)))], 5⟩) (l.length) (fun _ => True) (trivial) ?_ (by kernel_rfl) ?_ ?_
 ·refine Sub.trans (sub_nilH2 (nm := 3) (S := 4) (Nat.zero_le _) rfl) ?_
  refine keep_env (by first | exact Nat.zero_le _ | exact Nat.le_of_ble_eq_true rfl) ?_ ?_ trivial
  ·repeat' first | exact trivial | refine ⟨⟨by first | rfl | assumption, rfl⟩, ?_⟩
  ·repeat' first | exact trivial | refine ⟨⟨ltB rfl, _, rfl, by first | rfl | assumption, by first | exact below1 rfl | exact below_dblk _ _ _ | exact below_arr rfl⟩, ?_⟩
 ·intro j A_j h_j I_j N_j
  have e_j : iadd .i64 (j : Int) 1 = ((j + 1 : Nat) : Int) := iadd_nat (by first | omega | (simp at *; omega))
  have hj := ht l[j] (hv _ (List.getElem_mem h_j))
  have hsn : ((l.take (j + 1)).map F).map Ps.l = ((l.take j).map F).map Ps.l ++ [(F l[j]).l] := by rw [take_snoc h_j, List.map_append, List.map_append]; rfl
  have hml : (((l.take j).map F).map Ps.l).length = j := by rw [List.length_map, List.length_map, List.length_take]; omega
  generalize ((l.take j).map F).map Ps.l = M at hsn hml
  generalize F l[j] = r at hj hsn
  conv => whnf
  repeat (refine LookP.mk _ rfl ?_; conv => whnf)
  intro t ht
  cases t
  ·exfalso; first | (simp at ht; done) | (simp at ht; omega)
  conv => whnf
  repeat' first | ((first | refine LookP.mk _ (by first | rfl | exact get_l h_j) ?_ | refine ShlP.mk _ (by first | (simp only [List.set, over, List.take, List.drop, List.append_eq, List.nil_append, List.cons_append, List.length]; rfl) | rfl) ?_ | (refine And.intro (by first | exact Nat.le_refl _ | exact ⟨by rw [List.length_map]; exact hml, by decide, by show (2 * (j + 1) + 192) * 32 ≤ 281474976710656; omega⟩ | assumption | exact ⟨by kernel_rfl, rfl⟩ | decide | omega) ?_) | refine pc_head hj ?_ | rw [nbeq] | refine HpP.force ?_); conv => whnf)
  refine N_j _ ?_ ?_
  ·first | trivial | assumption | omega
  ·first | refine ren_env [(4, 6)] ?_ ?_ ?_ trivial | refine ren_envB [(4, 6)] rfl rfl ?_ ?_ ?_ trivial
   ·repeat' first | exact trivial | refine ⟨⟨by first | rfl | assumption | exact congrArg (fun n => AV.d (iD n)) e_j, rfl⟩, ?_⟩
   ·repeat' first | exact trivial | refine ⟨⟨ltB rfl, _, rfl, by first | rfl | assumption | exact get_ren rfl (by first | rfl | assumption | exact get_ren rfl (by rw [hsn]; exact congrArg some (dblk_snoc rfl))) | exact get_ren rfl (by rw [hsn]; exact congrArg some (dblk_snoc rfl)), by first | exact below1 rfl | exact below_dblk _ _ _ | exact below_arr rfl⟩, ?_⟩
   ·repeat' first | exact trivial | (refine And.intro ?_ ?_) | (exact fun _ => rfl) | (exact fun h => absurd h (Nat.ne_of_beq_eq_false rfl))
 ·intro A_last I_last
  have hT : l.take l.length = l := List.take_of_length_le (Nat.le_refl _)
  rw [hT]
  conv => whnf
  repeat (refine LookP.mk _ rfl ?_; conv => whnf)
  intro t ht
  cases t
  rotate_left
  ·exfalso; first | (simp at ht; done) | (simp at ht; omega)
  conv => whnf
  repeat' first | ((first | refine LookP.mk _ rfl ?_ | refine ShlP.mk _ (by first | (simp only [List.set, over, List.take, List.drop, List.append_eq, List.nil_append, List.cons_append, List.length]; rfl) | rfl) ?_ | refine pc_giveS hc rfl (by simp) ?_ | refine HpP.force ?_); conv => whnf)
  exact fin rfl
theorem chk42 : chkFn Tryz.f42 = true := by kernel_rfl
theorem kind42 (k : Int) : PC Pr G 42 [iD k] (.bool (kindB k)) := by
 refine pc_walk pok Tryz.func42 chk42 ?_
 conv => whnf
 repeat' first | (intro t ht; cases t <;> conv => whnf)
 all_goals
  refine fin ?_
  refine fiB ?_
  simp at *
  unfold kindB
  simp
  omega
theorem all_false {α : Type} {p : α → Bool} {l : List α} {i : Nat} (h : i < l.length) (h1 : p l[i] = false) : l.all p = false := List.all_eq_false.2 ⟨l[i], List.getElem_mem h, by simp [h1]⟩
end Go.Tz
namespace Go.Tz
open Go Go.AL Go.Proofs Go.Ma
variable {G : Nat → Option (List D)}
theorem gchk_bits {k b i : Int} {ws : List Int} {u : Bool} {w bits : Int} (hk : kindB k = true) (h : gchk ⟨k, ws, u, b, i⟩ w bits = 0) : gchk ⟨k, ws, u, b, 0⟩ w 0 = 0 := by
 obtain ⟨h1, h2, h3, h4, h5⟩ := gchk_ok h
 obtain ⟨b1, b2, b3, b4⟩ := bitE_ok h5
 have hk := of_decide_eq_true hk
 simp only at *
 unfold gchk
 simp only
 rw [if_neg h1, if_neg (by simpa using h2), if_neg (by rw [h3]; simp), if_neg (by rw [h4]; simp)]
 exact bitE0 (by simp only; omega) (by simp only; omega)
end Go.Tz
namespace Go.Tz
open Go Go.AL Go.Proofs Go.Ma
variable {G : Nat → Option (List D)}
theorem sok_len {w : Nat} {l : List Ps} (h : SOk w l) : l.length ≤ 1000 := by have := h.len; have := h.hi; omega
end Go.Tz
namespace Go.Tz
open Go Go.AL Go.Proofs Go.Ma
theorem cchk_own (w b : Int) (l : List Gt) : cchk w b (l.map Gt.own) = cchk w b l := by
 unfold cchk
 rw [List.length_map, List.find?_map]
 have e : ((fun g => decide (gchk g w b ≠ 0)) ∘ Gt.own) = fun g => decide (gchk g w b ≠ 0) := rfl
 rw [e]
 cases l.find? (fun g => decide (gchk g w b ≠ 0)) <;> rfl
end Go.Tz
namespace Go.Tz
open Go Go.AL Go.Proofs Go.Ma
abbrev wkF (w nm : Nat) (F : FuncId) : Blk := .arr 3 [[.d (iD w), .sl nm 4 0 w w true, .fn F [.ptr 2 3 0 0] []]]
def rangesOf : Code → List (Code × Code)
 | .seq c d => rangesOf c ++ rangesOf d
 | .cond _ c d => rangesOf c ++ rangesOf d
 | .block _ c => rangesOf c
 | .scope c => rangesOf c
 | .rangeFunc _ _ a b => [(a, b)]
 | _ => []
noncomputable def rgI (f : Func) (i : Nat) : Code × Code := match f.body with
 | some c => (rangesOf c).getD i (.skip, .skip)
 | none => (.skip, .skip)
def prS (p : Ps) (rf : Nat → Ps) (a0 m j : Nat) : Ps := if j < m ∧ j ≠ a0 ∧ comV p (rf j) = false then mulS (rf j) (rf a0) else rf j
section
variable {p : Ps} {rf : Nat → Ps} {a0 m : Nat}
theorem prS_0 {j : Nat} : prS p rf a0 0 j = rf j := by unfold prS; rw [if_neg (by omega)]
theorem prS_at : prS p rf a0 m m = rf m := by unfold prS; rw [if_neg (by omega)]
theorem prS_a0 : prS p rf a0 m a0 = rf a0 := by unfold prS; rw [if_neg fun h => h.2.1 rfl]
theorem prS_new (h1 : m ≠ a0) (h2 : comV p (rf m) = false) : prS p rf a0 (m + 1) m = mulS (rf m) (rf a0) := by unfold prS; rw [if_pos ⟨by omega, h1, h2⟩]
theorem prS_step (j : Nat) : (if j = m then Ps.l (prS p rf a0 (m + 1) m) else Ps.l (prS p rf a0 m j)) = Ps.l (prS p rf a0 (m + 1) j) := by
 by_cases h : j = m
 ·rw [if_pos h, h]
 ·rw [if_neg h]
  unfold prS
  have e : (j < m + 1 ∧ j ≠ a0 ∧ comV p (rf j) = false) ↔ (j < m ∧ j ≠ a0 ∧ comV p (rf j) = false) := by constructor <;> (rintro ⟨a, b, c⟩; exact ⟨by omega, b, c⟩)
  simp only [e]
theorem prS_same (h : comV p (rf m) = true ∨ m = a0) : prS p rf a0 (m + 1) = prS p rf a0 m := by
 funext j
 unfold prS
 by_cases hj : j = m
 ·subst hj
  rw [if_neg, if_neg (by omega)]
  rintro ⟨_, h2, h3⟩
  rcases h with h | h
  ·rw [h] at h3; cases h3
  ·exact h2 h
 ·have e : (j < m + 1 ∧ j ≠ a0 ∧ comV p (rf j) = false) ↔ (j < m ∧ j ≠ a0 ∧ comV p (rf j) = false) := by constructor <;> (rintro ⟨a, b, c⟩; exact ⟨by omega, b, c⟩)
  simp only [e]
end
theorem bneT {a : Int} {k : Bool → Prop} (h : k false) : ∀ t, (a != a) = t → k t := fun t e => by
 have e2 : false = t := (show (a != a) = false by simp).symm.trans e
 exact e2 ▸ h
theorem bneF {a b : Int} (hne : a ≠ b) {k : Bool → Prop} (h : k true) : ∀ t, (a != b) = t → k t := fun t e => by
 have e2 : true = t := (show (a != b) = true by simpa using hne).symm.trans e
 exact e2 ▸ h
theorem chk136 : chkFn Tryz.f136 = true := by kernel_rfl
theorem measure136c {w n o : Nat} (hw : 1 ≤ w ∧ w ≤ 12) (hn : n < w) (ho : o ≤ 1) (F : FuncId) {rf : Nat → Ps} {a0 : Nat} {R : List Nat} (hpv : Vl w (zP w n o)) (hvl : ∀ j, j < w → Vl w (rf j)) (hA : antL (zP w n o) rf w = a0 :: R)
  (hx2 : PC Pr GG 107 [.agg [iD w, .sl ((List.range w).map fun j => Ps.l (rf j)) true], (zP w n o).d] (iD 0)) :
  ACall Pr GG 136 [.ptr 2 3 0 0, .d (iD n), .d (iD o)] [(2, some (wkF w 3 F)), (3, some (dblk 4 ((List.range w).map fun j => Ps.l (rf j))))] 12 fun v H n' => v = .d (.tup [iD 1, iD 0]) ∧ H.get 2 = some (wkF w 12 F) ∧ H.get 12 = some (dblk 4 ((redRows (rowsL w (prjF rf (zP w n o) a0 R)) (2 * w)).map Ps.l)) ∧ n' = 13 := by
 have hsh : ishl .i64 1 (n : Int) = ((2 ^ n : Nat) : Int) := pow_nat (by omega)
 have him : imul .i64 2 (o : Int) = ((2 * o : Nat) : Int) := imul_nat (a := 2) (by omega)
 have hPv := prjF_vl hw.2 hvl hpv (ant_spec hA).1 (R := R)
 have hcan := canon105o (G := GG) hw (rowsL w (prjF rf (zP w n o) a0 R)) true (by simp; omega) (fun q hq => by
  obtain ⟨j, hj, rfl⟩ := List.mem_map.1 hq
  exact hPv j (List.mem_range.1 hj))
 obtain ⟨sp1, sp2, sp3, sp4⟩ := ant_spec hA
 have hno : (∀ j, j < w → comV (zP w n o) (rf j) = true) → False := fun h => by
  have := h a0 sp1
  rw [sp2] at this; cases this
 have hcan2 : PO Pr GG 105 [.agg [iD w, .sl ((List.range w).map fun j => Ps.l (prjF rf (zP w n o) a0 R j)) true]] (.agg [.d (iD w), .sl 0 4 0 w w true]) [(0, some (dblk 4 ((redRows (rowsL w (prjF rf (zP w n o) a0 R)) (2 * w)).map Ps.l)))] 1 := by
  have eR : (rowsL w (prjF rf (zP w n o) a0 R)).map Ps.l = (List.range w).map fun j => Ps.l (prjF rf (zP w n o) a0 R j) := by unfold rowsL; rw [List.map_map]; rfl
  have eL : (rowsL w (prjF rf (zP w n o) a0 R)).length = w := by simp
  rw [← eR]
  rw [eL] at hcan
  exact hcan
 clear hcan
 have hRm : ∀ j, j ∈ R ↔ j < w ∧ j ≠ a0 ∧ comV (zP w n o) (rf j) = false := fun j => by
  have hm : j ∈ a0 :: R ↔ j < w ∧ comV (zP w n o) (rf j) = false := by
   rw [← hA]; unfold antL; rw [List.mem_filter, List.mem_range]; simp
  have hnd : (a0 :: R).Nodup := by rw [← hA]; exact (List.nodup_range).filter _
  have haR : a0 ∉ R := (List.nodup_cons.1 hnd).1
  constructor
  ·intro h
   have := hm.1 (List.mem_cons_of_mem _ h)
   exact ⟨this.1, fun q => haR (q ▸ h), this.2⟩
  ·rintro ⟨h1, h2, h3⟩
   rcases List.mem_cons.1 (hm.2 ⟨h1, h3⟩) with q | q
   ·exact absurd q h2
   ·exact q
 have hB0 : chkCode Tryz.f136.ntmps (rgI Tryz.f136 0).2 = true := by kernel_rfl
 have hB1 : chkCode Tryz.f136.ntmps (rgI Tryz.f136 1).2 = true := by kernel_rfl
 refine acall_sub (fn_walk pok Tryz.func136 chk136 (K := fun v H m => v = .d (.tup [iD 1, iD 0]) ∧ H.get 2 = some (wkF w 24 F) ∧ H.get 24 = some (dblk 4 ((redRows (rowsL w (prjF rf (zP w n o) a0 R)) (2 * w)).map Ps.l))) ?_) ?_
 ·conv => whnf
  repeat' first | ((first | refine LookP.mk _ (by first | rfl | exact lendW rfl (by simp)) ?_ | refine ShlP.mk _ (by first | (simp only [List.set, over, List.take, List.drop, List.append_eq, List.nil_append, List.cons_append, List.length]; rfl) | rfl) ?_ | refine And.intro (by first | assumption | exact ⟨by kernel_rfl, rfl⟩ | decide | omega) ?_ | rw [hsh] | rw [him] | refine spine_rd (l := [3]) (rd_call rfl rfl (show _ = some (dblk 4 ((List.range w).map fun j => Ps.l (rf j))) from rfl)) ?_ | refine pc_head hx2 ?_ | refine beqF1 rfl ?_ | refine HpP.force ?_); conv => whnf)
  refine call_walk pok Tryz.func195 chk195 ?_
  conv => whnf
  skip
  refine call_walk pok Tryz.func247 chk247 ?_
  conv => whnf
  repeat' first | (refine LookP.mk _ rfl ?_; conv => whnf)
  refine for_use pok (fun i => ⟨[(0, .yld 18), (4, .d (.fn 114 [.agg [iD w, iD 0, iD ((2 ^ n : Nat) : Int), iD ((2 * o : Nat) : Int)]] [])), (14, .sl 3 4 0 w w true), (15, .d (iD w)), (16, .d (iD i))], [(2, some (wkF w 3 F)), (3, some (dblk 4 ((List.range w).map fun j => Ps.l (rf j)))), (12, some (.arr 1 [[.ptr 2 3 0 0]])), (13, some (.arr 4 [[.d (iD w), .d (iD 0), .d (iD ((2 ^ n : Nat) : Int)), .d (iD ((2 * o : Nat) : Int))]])), (14, some (.arr 1 [[.d (iD (-1))]])), (15, some (.arr 1 [[.ptr 2 3 0 0]])), (16, some (.arr 4 [[.d (iD w), .d (iD 0), .d (iD ((2 ^ n : Nat) : Int)), .d (iD ((2 * o : Nat) : Int))]])), (17, some (.raw (.deferred (some [])))), (18, some (.lp [(34, .fn 247 [] [.ptr 16 4 0 0, .ptr 15 1 0 0]), (33, .d (.agg [iD w, iD 0, iD ((2 ^ n : Nat) : Int), iD ((2 * o : Nat) : Int)])), (32, .ptr 2 3 0 0), (9, .ptr 14 1 0 0), (30, .d (.bool false)), (31, .d (.bool false)), (28, .d (.bool false)), (29, .d (.bool false)), (27, .d (iD 0)), (26, .d (.agg [iD w, iD 0, iD ((2 ^ n : Nat) : Int), iD ((2 * o : Nat) : Int)])), (25, .agg [.d (iD w), .sl 3 4 0 w w true]), (24, .ptr 2 3 0 0), (23, .ptr 2 3 0 0), (22, .ptr 2 3 0 0), (8, .ptr 13 4 0 0), (21, .d (.agg [iD w, iD 0, iD ((2 ^ n : Nat) : Int), iD ((2 * o : Nat) : Int)])), (20, .d (iD ((2 * o : Nat) : Int))), (19, .d (iD o)), (18, .d (iD ((2 ^ n : Nat) : Int))), (17, .d (iD n)), (16, .d (iD w)), (15, .ptr 2 3 0 0), (14, .ptr 2 3 0 0), (13, .ptr 2 3 0 0), (12, .ptr 2 3 0 0), (7, .d (iD 0)), (6, .d (iD 0)), (3, .ptr 12 1 0 0), (0, .ptr 2 3 0 0), (1, .d (iD n)), (2, .d (iD o))] Tryz.f136.ntmps #[35] (rgI Tryz.f136 0).1 (rgI Tryz.f136 0).2 .ready none 17))], 19⟩) (w) (fun i => ∀ j, j < i → comV (zP w n o) (rf j) = true) (by omega) ?_ (by kernel_rfl) ?_ ?_
  ·refine keep_env (by first | exact Nat.zero_le _ | exact Nat.le_of_ble_eq_true rfl) ?_ ?_ trivial
   ·repeat' first | exact trivial | refine ⟨⟨by first | rfl | assumption, rfl⟩, ?_⟩
   ·repeat' first | exact trivial | refine ⟨⟨ltB rfl, _, rfl, by first | rfl | assumption, by first | exact below1 rfl | exact below_dblk _ _ _ | exact below_arr rfl | exact trivial | exact ⟨rfl, Nat.le_of_ble_eq_true rfl⟩⟩, ?_⟩
  ·intro i A_i h_i I_i N_i
   have e_i : iadd .i64 (i : Int) 1 = ((i + 1 : Nat) : Int) := iadd_nat (by first | omega | (simp at *; omega))
   have hc := with114 (G := GG) hw hpv (hvl i h_i)
   cases hb : comV (zP w n o) (rf i) with
   | true =>
    rw [hb] at hc
    conv => whnf
    repeat (refine LookP.mk _ rfl ?_; conv => whnf)
    intro t ht
    cases t
    ·exfalso; first | (simp at ht; done) | (simp at ht; omega)
    conv => whnf
    repeat' first | ((first | refine LookP.mk _ (by first | rfl | exact get_rw h_i) ?_ | refine ShlP.mk _ (by first | (simp only [List.set, over, List.take, List.drop, List.append_eq, List.nil_append, List.cons_append, List.length]; rfl) | rfl) ?_ | refine And.intro (by first | assumption | exact ⟨by kernel_rfl, rfl⟩ | decide | omega) ?_ | refine pc_use hc ?_ | refine HpP.force ?_); conv => whnf)
    refine N_i _ ?_ ?_
    ·(intro j hj; rcases Nat.lt_or_ge j i with h | h; exact I_i j h; rw [show j = i by omega]; exact hb)
    ·refine keep_env (by first | exact Nat.zero_le _ | exact Nat.le_of_ble_eq_true rfl) ?_ ?_ trivial
     ·repeat' first | exact trivial | refine ⟨⟨by first | rfl | assumption | exact congrArg (fun n => AV.d (iD n)) e_i, rfl⟩, ?_⟩
     ·repeat' first | exact trivial | refine ⟨⟨ltB rfl, _, rfl, by first | rfl | assumption, by first | exact below1 rfl | exact below_dblk _ _ _ | exact below_arr rfl | exact trivial | exact ⟨rfl, Nat.le_of_ble_eq_true rfl⟩⟩, ?_⟩
   | false =>
    rw [hb] at hc
    have hia : i = a0 := by
     rcases Nat.lt_trichotomy i a0 with q | q | q
     ·have := sp3 i q
      rw [hb] at this; cases this
     ·exact q
     ·have := I_i a0 q
      rw [sp2] at this; cases this
    conv => whnf
    repeat (refine LookP.mk _ rfl ?_; conv => whnf)
    intro t ht
    cases t
    ·exfalso; first | (simp at ht; done) | (simp at ht; omega)
    conv => whnf
    repeat' first | ((first | refine LookP.mk _ (by first | rfl | exact get_rw h_i) ?_ | refine ShlP.mk _ (by first | (simp only [List.set, over, List.take, List.drop, List.append_eq, List.nil_append, List.cons_append, List.length]; rfl) | rfl) ?_ | refine And.intro (by first | assumption | exact ⟨by kernel_rfl, rfl⟩ | decide | omega) ?_ | refine pc_use hc ?_ | refine HpP.force ?_); conv => whnf)
    refine round_walk pok ?_
    conv => whnf
    repeat' first | ((first | refine LookP.mk _ rfl ?_ | refine ShlP.mk _ (by first | (simp only [List.set, over, List.take, List.drop, List.append_eq, List.nil_append, List.cons_append, List.length]; rfl) | rfl) ?_ | refine HpP.force ?_); conv => whnf)
    refine call_walk pok Tryz.func195 chk195 ?_
    conv => whnf
    skip
    refine call_walk pok Tryz.func247 chk247 ?_
    conv => whnf
    repeat' first | (refine LookP.mk _ rfl ?_; conv => whnf)
    refine for_use pok (fun m => ⟨[(0, .yld 23), (4, .d (.fn 114 [.agg [iD w, iD 0, iD ((2 ^ n : Nat) : Int), iD ((2 * o : Nat) : Int)]] [])), (14, .sl 3 4 0 w w true), (15, .d (iD w)), (16, .d (iD m))], [(2, some (wkF w 3 F)), (3, some (dblk 4 ((List.range w).map fun j => Ps.l (prS (zP w n o) rf a0 m j)))), (12, some (.arr 1 [[.ptr 2 3 0 0]])), (13, some (.arr 4 [[.d (iD w), .d (iD 0), .d (iD ((2 ^ n : Nat) : Int)), .d (iD ((2 * o : Nat) : Int))]])), (14, some (.arr 1 [[.d (iD a0)]])), (17, some (.raw (.deferred (some [])))), (20, some (.arr 1 [[.ptr 2 3 0 0]])), (21, some (.arr 4 [[.d (iD w), .d (iD 0), .d (iD ((2 ^ n : Nat) : Int)), .d (iD ((2 * o : Nat) : Int))]])), (22, some (.raw (.deferred (some [])))), (23, some (.lp [(39, .fn 247 [] [.ptr 21 4 0 0, .ptr 20 1 0 0]), (38, .d (.agg [iD w, iD 0, iD ((2 ^ n : Nat) : Int), iD ((2 * o : Nat) : Int)])), (37, .ptr 2 3 0 0), (34, .fn 247 [] [.ptr 16 4 0 0, .ptr 15 1 0 0]), (33, .d (.agg [iD w, iD 0, iD ((2 ^ n : Nat) : Int), iD ((2 * o : Nat) : Int)])), (32, .ptr 2 3 0 0), (9, .ptr 14 1 0 0), (30, .d (.bool false)), (31, .d (.bool false)), (28, .d (.bool false)), (29, .d (.bool false)), (27, .d (iD 0)), (26, .d (.agg [iD w, iD 0, iD ((2 ^ n : Nat) : Int), iD ((2 * o : Nat) : Int)])), (25, .agg [.d (iD w), .sl 3 4 0 w w true]), (24, .ptr 2 3 0 0), (23, .ptr 2 3 0 0), (22, .ptr 2 3 0 0), (8, .ptr 13 4 0 0), (21, .d (.agg [iD w, iD 0, iD ((2 ^ n : Nat) : Int), iD ((2 * o : Nat) : Int)])), (20, .d (iD ((2 * o : Nat) : Int))), (19, .d (iD o)), (18, .d (iD ((2 ^ n : Nat) : Int))), (17, .d (iD n)), (16, .d (iD w)), (15, .ptr 2 3 0 0), (14, .ptr 2 3 0 0), (13, .ptr 2 3 0 0), (12, .ptr 2 3 0 0), (7, .d (iD 0)), (6, .d (iD 0)), (3, .ptr 12 1 0 0), (0, .ptr 2 3 0 0), (1, .d (iD n)), (2, .d (iD o))] Tryz.f136.ntmps #[40] (rgI Tryz.f136 1).1 (rgI Tryz.f136 1).2 .ready none 22))], 24⟩) (w) (fun _ => True) (trivial) ?_ (by kernel_rfl) ?_ ?_
    ·refine keep_env (by first | exact Nat.zero_le _ | exact Nat.le_of_ble_eq_true rfl) ?_ ?_ trivial
     ·repeat' first | exact trivial | refine ⟨⟨by first | rfl | assumption, rfl⟩, ?_⟩
     ·repeat' first | exact trivial | refine ⟨⟨ltB rfl, _, rfl, by first | rfl | assumption | exact congrArg some (psB_congr fun j => by rw [prS_0]) | (rw [hia]; rfl), by first | exact below1 rfl | exact below_dblk _ _ _ | exact below_arr rfl | exact trivial | exact ⟨rfl, Nat.le_of_ble_eq_true rfl⟩⟩, ?_⟩
    ·intro m A_m h_m I_m N_m
     have e_m : iadd .i64 (m : Int) 1 = ((m + 1 : Nat) : Int) := iadd_nat (by first | omega | (simp at *; omega))
     have hcm := with114 (G := GG) hw hpv (hvl m h_m)
     have hst : ∀ j, (if j = m then Ps.l (prS (zP w n o) rf a0 (m + 1) m) else Ps.l (prS (zP w n o) rf a0 m j)) = Ps.l (prS (zP w n o) rf a0 (m + 1) j) := fun j => prS_step j
     have hgm : (fun j => Ps.l (prS (zP w n o) rf a0 m j)) m = Ps.l (rf m) := by dsimp only; rw [prS_at]
     cases hbm : comV (zP w n o) (rf m) with
     | true =>
      rw [hbm] at hcm
      have hsame : ∀ j, Ps.l (prS (zP w n o) rf a0 m j) = Ps.l (prS (zP w n o) rf a0 (m + 1) j) := fun j => by rw [prS_same (.inl hbm)]
      generalize prS (zP w n o) rf a0 m = g at hgm hsame hst
      conv => whnf
      repeat (refine LookP.mk _ rfl ?_; conv => whnf)
      intro t ht
      cases t
      ·exfalso; first | (simp at ht; done) | (simp at ht; omega)
      conv => whnf
      repeat' first | ((first | refine LookP.mk _ (by first | rfl | exact get_rwE h_m hgm) ?_ | refine ShlP.mk _ (by first | (simp only [List.set, over, List.take, List.drop, List.append_eq, List.nil_append, List.cons_append, List.length]; rfl) | rfl) ?_ | refine And.intro (by first | assumption | exact ⟨by kernel_rfl, rfl⟩ | decide | omega) ?_ | refine pc_use hcm ?_ | refine HpP.force ?_); conv => whnf)
      refine N_m _ ?_ ?_
      ·first | trivial | assumption | omega
      ·refine keep_env (by first | exact Nat.zero_le _ | exact Nat.le_of_ble_eq_true rfl) ?_ ?_ trivial
       ·repeat' first | exact trivial | refine ⟨⟨by first | rfl | assumption | exact congrArg (fun n => AV.d (iD n)) e_m, rfl⟩, ?_⟩
       ·repeat' first | exact trivial | refine ⟨⟨ltB rfl, _, rfl, by first | rfl | assumption | exact congrArg some (psB_congr hsame), by first | exact below1 rfl | exact below_dblk _ _ _ | exact below_arr rfl | exact trivial | exact ⟨rfl, Nat.le_of_ble_eq_true rfl⟩⟩, ?_⟩
     | false =>
      rw [hbm] at hcm
      by_cases hma : m = a0
      ·have hsame : ∀ j, Ps.l (prS (zP w n o) rf a0 m j) = Ps.l (prS (zP w n o) rf a0 (m + 1) j) := fun j => by rw [prS_same (.inr hma)]
       generalize prS (zP w n o) rf a0 m = g at hgm hsame hst
       generalize prS (zP w n o) rf a0 (m + 1) = g' at hsame hst N_m
       subst hma
       conv => whnf
       repeat (refine LookP.mk _ rfl ?_; conv => whnf)
       intro t ht
       cases t
       ·exfalso; first | (simp at ht; done) | (simp at ht; omega)
       conv => whnf
       repeat' first | ((first | refine LookP.mk _ (by first | rfl | exact get_rwE h_m hgm) ?_ | refine ShlP.mk _ (by first | (simp only [List.set, over, List.take, List.drop, List.append_eq, List.nil_append, List.cons_append, List.length]; rfl) | rfl) ?_ | refine And.intro (by first | assumption | exact ⟨by kernel_rfl, rfl⟩ | decide | omega) ?_ | refine pc_use hcm ?_ | refine HpP.force ?_); conv => whnf)
       refine round_walk pok ?_
       conv => whnf
       repeat' first | ((first | refine LookP.mk _ rfl ?_ | rw [hB1] | refine bneT ?_); conv => whnf)
       refine N_m _ ?_ ?_
       ·first | trivial | assumption | omega
       ·refine keep_env (by first | exact Nat.zero_le _ | exact Nat.le_of_ble_eq_true rfl) ?_ ?_ trivial
        ·repeat' first | exact trivial | refine ⟨⟨by first | rfl | assumption | exact congrArg (fun n => AV.d (iD n)) e_m, rfl⟩, ?_⟩
        ·repeat' first | exact trivial | refine ⟨⟨ltB rfl, _, rfl, by first | rfl | assumption | exact congrArg some (psB_congr hsame), by first | exact below1 rfl | exact below_dblk _ _ _ | exact below_arr rfl | exact trivial | exact ⟨rfl, Nat.le_of_ble_eq_true rfl⟩⟩, ?_⟩
      ·have hma' : (m : Int) ≠ a0 := by omega
       have hta := times183v (G := GG) hw (rf m) [rf a0] true (by simp) (hvl m h_m) (by intro r hr; rw [List.mem_singleton.1 hr]; exact hvl a0 sp1)
       have hme2 : ([rf a0].foldl mulS (rf m)) = prS (zP w n o) rf a0 (m + 1) m := (prS_new hma hbm).symm
       rw [hme2] at hta
       have hga : prS (zP w n o) rf a0 m a0 = rf a0 := prS_a0
       generalize prS (zP w n o) rf a0 m = g at hgm hst hga
       generalize hg1 : prS (zP w n o) rf a0 (m + 1) = g' at hst hta N_m
       generalize hr' : g' m = r' at hta hst
       have hst2 : ∀ j, (if j = m then [iD r'.w, iD r'.x, iD r'.z, iD r'.p] else Ps.l (g j)) = Ps.l (g' j) := hst
       have hgA : (fun j => Ps.l (g j)) a0 = Ps.l (rf a0) := by dsimp only; rw [hga]
       conv => whnf
       repeat (refine LookP.mk _ rfl ?_; conv => whnf)
       intro t ht
       cases t
       ·exfalso; first | (simp at ht; done) | (simp at ht; omega)
       conv => whnf
       repeat' first | ((first | refine LookP.mk _ (by first | rfl | exact get_rwE h_m hgm) ?_ | refine ShlP.mk _ (by first | (simp only [List.set, over, List.take, List.drop, List.append_eq, List.nil_append, List.cons_append, List.length]; rfl) | rfl) ?_ | refine And.intro (by first | assumption | exact ⟨by kernel_rfl, rfl⟩ | decide | omega) ?_ | refine pc_use hcm ?_ | refine HpP.force ?_); conv => whnf)
       refine round_walk pok ?_
       conv => whnf
       repeat' first | ((first | refine LookP.mk _ (by first | rfl | exact get_rwE h_m hgm | exact get_rwE sp1 hgA) ?_ | refine ShlP.mk _ (by first | exact set_rw (x := [_, _, _, _]) h_m | (simp only [List.set, over, List.take, List.drop, List.append_eq, List.nil_append, List.cons_append, List.length]; rfl) | rfl) ?_ | refine And.intro (by first | exact ⟨Int.natCast_nonneg _, by omega⟩ | assumption | exact ⟨by kernel_rfl, rfl⟩ | decide | omega) ?_ | rw [hB1] | refine bneF hma' ?_ | refine pc_head hta ?_ | refine HpP.force ?_); conv => whnf)
       refine N_m _ ?_ ?_
       ·first | trivial | assumption | omega
       ·refine keep_env (by first | exact Nat.zero_le _ | exact Nat.le_of_ble_eq_true rfl) ?_ ?_ trivial
        ·repeat' first | exact trivial | refine ⟨⟨by first | rfl | assumption | exact congrArg (fun n => AV.d (iD n)) e_m, rfl⟩, ?_⟩
        ·repeat' first | exact trivial | refine ⟨⟨ltB rfl, _, rfl, by first | rfl | assumption | exact congrArg some (psB_congr hst2), by first | exact below1 rfl | exact below_dblk _ _ _ | exact below_arr rfl | exact trivial | exact ⟨rfl, Nat.le_of_ble_eq_true rfl⟩⟩, ?_⟩
    ·intro A_last I_last
     have hfin : ∀ j, (if j = a0 then [iD w, iD 0, iD ((2 ^ n : Nat) : Int), iD ((2 * o : Nat) : Int)] else Ps.l (prS (zP w n o) rf a0 w j)) = Ps.l (prjF rf (zP w n o) a0 R j) := fun j => by
      unfold prjF prjR prS
      by_cases h : j = a0
      ·rw [if_pos h, if_pos h]; rfl
      ·rw [if_neg h, if_neg h]
       by_cases hr : j ∈ R
       ·rw [if_pos hr, if_pos ((hRm j).1 hr)]
       ·rw [if_neg hr, if_neg fun q => hr ((hRm j).2 q)]
     have hgA : (fun j => Ps.l (prS (zP w n o) rf a0 w j)) a0 = Ps.l (rf a0) := by dsimp only; rw [prS_a0]
     generalize prS (zP w n o) rf a0 w = g at hfin hgA
     generalize prjF rf (zP w n o) a0 R = g' at hfin hcan2 ⊢
     conv => whnf
     repeat (refine LookP.mk _ rfl ?_; conv => whnf)
     intro t ht
     cases t
     rotate_left
     ·exfalso; first | (simp at ht; done) | (simp at ht; omega)
     conv => whnf
     repeat' first | ((first | refine LookP.mk _ (by first | rfl | exact get_rwE sp1 hgA | exact lendA (congrArg some (psB_congr hfin)) (by simp)) ?_ | refine ShlP.mk _ (by first | exact set_rw (x := [_, _, _, _]) sp1 | (simp only [List.set, over, List.take, List.drop, List.append_eq, List.nil_append, List.cons_append, List.length]; rfl) | rfl) ?_ | refine And.intro (by first | exact ⟨Int.natCast_nonneg _, by omega⟩ | assumption | exact ⟨by kernel_rfl, rfl⟩ | decide | omega) ?_ | refine spine_rd (l := [3]) (rd_call rfl rfl (show _ = some (dblk 4 ((List.range w).map fun j => Ps.l (g' j))) from congrArg some (psB_congr hfin))) ?_ | refine po_head hcan2 ?_ | rw [flOf_rows] | refine ShhP.mk _ rfl ?_ | refine HpP.force ?_); conv => whnf)
     refine fin ⟨rfl, rfl, ?_⟩
     show some (Blk.ren _ (dblk 4 _)) = _
     rw [ren_dblk]
  ·intro A_last I_last
   exact (hno I_last).elim
 ·rintro v H m ⟨rfl, h2, h3⟩
  refine ⟨.d (.tup [iD 1, iD 0]), [(2, some (wkF w 12 F)), (12, some (dblk 4 ((redRows (rowsL w (prjF rf (zP w n o) a0 R)) (2 * w)).map Ps.l)))], 13, ?_, rfl, rfl, rfl, rfl⟩
  first | refine ren_env [(2, 2), (12, 24)] ?_ ?_ ?_ trivial | refine ren_envB [(2, 2), (12, 24)] rfl rfl ?_ ?_ ?_ trivial
  ·repeat' first | exact trivial | refine ⟨⟨by first | rfl | assumption, rfl⟩, ?_⟩
  ·repeat' first | exact trivial | refine ⟨⟨ltB rfl, _, rfl, by first | rfl | assumption | exact get_ren rfl (by first | rfl | assumption | exact h2 | exact get_ren rfl h3 | exact get_ren rfl h2) | exact h2 | exact get_ren rfl h3 | exact get_ren rfl h2, by first | exact below1 rfl | exact below_dblk _ _ _ | exact below_arr rfl⟩, ?_⟩
  ·repeat' first | exact trivial | (refine And.intro ?_ ?_) | (exact fun _ => rfl) | (exact fun h => absurd h (Nat.ne_of_beq_eq_false rfl))
end Go.Tz
namespace Go.Tz
open Go Go.AL Go.Proofs Go.Ma
abbrev mK (w : Nat) (F : FuncId) (v : AV) (nm : Nat) (R : List Ps) : AV → AHeap → Nat → Prop := fun v' H n' => v' = v ∧ H.get 2 = some (wkF w nm F) ∧ H.get nm = some (dblk 4 (R.map Ps.l)) ∧ n' = 13
abbrev mA (w : Nat) (F : FuncId) (L : List Ps) : AHeap := [(2, some (wkF w 3 F)), (3, some (dblk 4 (L.map Ps.l)))]
abbrev rV (n e : Int) : AV := .d (.tup [iD n, iD e])
theorem measure136s {w n o : Nat} {L : List Ps} (hs : SOk w L) (hn : n < w) (ho : o ≤ 1) (F : FuncId) {e r : Int} (he : expP L (zP w n o) = e) (h : (e = 1 ∧ r = 0) ∨ (e = -1 ∧ r = 6)) :
  ACall Pr GG 136 [.ptr 2 3 0 0, .d (iD n), .d (iD o)] (mA w F L) 12 (mK w F (rV 0 r) 3 L) := by
 have hlen := hs.len
 have hhi := hs.hi
 have hpv := zP_vl hn ho
 have hx := expected107 hs true hpv
 rw [he] at hx
 have hsh : ishl .i64 1 (n : Int) = ((2 ^ n : Nat) : Int) := pow_nat (by omega)
 have him : imul .i64 2 (o : Int) = ((2 * o : Nat) : Int) := imul_nat (a := 2) (by omega)
 have hx2 : PC Pr GG 107 [.agg [iD w, .sl (L.map Ps.l) true], (zP w n o).d] (iD e) := hx
 clear he hx
 rcases h with ⟨rfl, rfl⟩ | ⟨rfl, rfl⟩
 ·refine acall_sub (fn_walk pok Tryz.func136 chk136 (K := fun v H m => v = rV 0 0 ∧ H.get 2 = some (wkF w 3 F) ∧ H.get 3 = some (dblk 4 (L.map Ps.l))) ?_) ?_
  ·conv => whnf
   repeat' first | ((first | refine LookP.mk _ (by first | rfl | exact lendW rfl (by rw [List.length_map, hlen])) ?_ | refine ShlP.mk _ (by first | (simp only [List.set, over, List.take, List.drop, List.append_eq, List.nil_append, List.cons_append, List.length]; rfl) | rfl) ?_ | refine And.intro (by first | assumption | exact ⟨by kernel_rfl, rfl⟩ | decide | omega) ?_ | rw [hsh] | rw [him] | refine spine_rd (l := [3]) (rd_call rfl rfl (show _ = some (dblk 4 (L.map Ps.l)) from rfl)) ?_ | refine pc_head hx2 ?_ | refine beqT1 ?_ | refine HpP.force ?_); conv => whnf)
   exact fin ⟨rfl, rfl, rfl⟩
  ·rintro v H m ⟨rfl, h2, h3⟩
   refine ⟨rV 0 0, mA w F L, 13, ?_, rfl, rfl, rfl, rfl⟩
   first | refine ren_env [(2, 2), (3, 3)] ?_ ?_ ?_ trivial | refine ren_envB [(2, 2), (3, 3)] rfl rfl ?_ ?_ ?_ trivial
   ·repeat' first | exact trivial | refine ⟨⟨by first | rfl | assumption, rfl⟩, ?_⟩
   ·repeat' first | exact trivial | refine ⟨⟨ltB rfl, _, rfl, by first | rfl | assumption | exact get_ren rfl (by first | rfl | assumption | exact get_ren rfl h3 | exact get_ren rfl h2) | exact get_ren rfl h3 | exact get_ren rfl h2, by first | exact below1 rfl | exact below_dblk _ _ _ | exact below_arr rfl⟩, ?_⟩
   ·repeat' first | exact trivial | (refine And.intro ?_ ?_) | (exact fun _ => rfl) | (exact fun h => absurd h (Nat.ne_of_beq_eq_false rfl))
 ·refine acall_sub (fn_walk pok Tryz.func136 chk136 (K := fun v H m => v = rV 0 6 ∧ H.get 2 = some (wkF w 3 F) ∧ H.get 3 = some (dblk 4 (L.map Ps.l))) ?_) ?_
  ·conv => whnf
   repeat' first | ((first | refine LookP.mk _ (by first | rfl | exact lendW rfl (by rw [List.length_map, hlen])) ?_ | refine ShlP.mk _ (by first | (simp only [List.set, over, List.take, List.drop, List.append_eq, List.nil_append, List.cons_append, List.length]; rfl) | rfl) ?_ | refine And.intro (by first | assumption | exact ⟨by kernel_rfl, rfl⟩ | decide | omega) ?_ | rw [hsh] | rw [him] | refine spine_rd (l := [3]) (rd_call rfl rfl (show _ = some (dblk 4 (L.map Ps.l)) from rfl)) ?_ | refine pc_head hx2 ?_ | refine beqT1 ?_ | refine beqF1 rfl ?_ | refine HpP.force ?_); conv => whnf)
   exact fin ⟨rfl, rfl, rfl⟩
  ·rintro v H m ⟨rfl, h2, h3⟩
   refine ⟨rV 0 6, mA w F L, 13, ?_, rfl, rfl, rfl, rfl⟩
   first | refine ren_env [(2, 2), (3, 3)] ?_ ?_ ?_ trivial | refine ren_envB [(2, 2), (3, 3)] rfl rfl ?_ ?_ ?_ trivial
   ·repeat' first | exact trivial | refine ⟨⟨by first | rfl | assumption, rfl⟩, ?_⟩
   ·repeat' first | exact trivial | refine ⟨⟨ltB rfl, _, rfl, by first | rfl | assumption | exact get_ren rfl (by first | rfl | assumption | exact get_ren rfl h3 | exact get_ren rfl h2) | exact get_ren rfl h3 | exact get_ren rfl h2, by first | exact below1 rfl | exact below_dblk _ _ _ | exact below_arr rfl⟩, ?_⟩
   ·repeat' first | exact trivial | (refine And.intro ?_ ?_) | (exact fun _ => rfl) | (exact fun h => absurd h (Nat.ne_of_beq_eq_false rfl))
theorem measure136f {w n o : Nat} {L : List Ps} (hs : SOk w L) (hn : n < w) (ho : o ≤ 1) (F : FuncId) {a0 : Nat} {R : List Nat} (he : expP L (zP w n o) = 0) (hA : antL (zP w n o) (fun j => L.getD j Ps.z0) w = a0 :: R) :
  ACall Pr GG 136 [.ptr 2 3 0 0, .d (iD n), .d (iD o)] (mA w F L) 12 (mK w F (rV 1 0) 12 (redRows (rowsL w (prjF (fun j => L.getD j Ps.z0) (zP w n o) a0 R)) (2 * w))) := by
 have hlen := hs.len
 have hpv := zP_vl hn ho
 have hx := expected107 hs true hpv
 rw [he] at hx
 have hvl : ∀ j, j < w → Vl w (L.getD j Ps.z0) := fun j hj => by
  rw [List.getD_eq_getElem?_getD, List.getElem?_eq_getElem (by rw [hlen]; exact hj), Option.getD_some]
  exact hs.vl _ (List.getElem_mem _)
 have hLm : L.map Ps.l = (List.range w).map fun j => Ps.l ((fun j => L.getD j Ps.z0) j) := by
  have := rowsL_get L hlen
  conv => lhs; rw [← this]
  unfold rowsL; rw [List.map_map]; rfl
 have hx2 : PC Pr GG 107 [.agg [iD w, .sl (L.map Ps.l) true], (zP w n o).d] (iD 0) := hx
 unfold mA
 rw [hLm] at hx2 ⊢
 exact measure136c ⟨hs.lo, hs.hi⟩ hn ho F hpv hvl hA hx2
structure WC (f : FuncId) (args : List AV) (w : Nat) (F : FuncId) (L : List Ps) (v : AV) (nm : Nat) (R : List Ps) : Prop where
 fn : IsFn Pr f
 call : ACall Pr GG f args (mA w F L) 12 (mK w F v nm R)
theorem work_call {f : FuncId} {args : List AV} {w nm nx : Nat} {F : FuncId} {L R : List Ps} {v : AV} {H : AHeap} {k : AV → AHeap → Nat → Prop} (h : WC f args w F L v nm R) (hn : nx ≤ 12)
  (h2 : H.get 2 = some (wkF w 3 F)) (h3 : H.get 3 = some (dblk 4 (L.map Ps.l))) (hk : k v ((2, some (wkF w nm F)) :: (nm, some (dblk 4 (R.map Ps.l))) :: AHeap.del H 3) 13) : CallVC Pr GG f args H nx k := by
 refine ⟨h.fn, acall_frame h.call hn (fun m b hg => ?_) ?_⟩
 ·rw [get_consI, get_consI] at hg
  by_cases e2 : m = 2
  ·rw [if_pos e2] at hg; rw [e2, h2, hg]
  ·rw [if_neg e2] at hg
   by_cases e3 : m = 3
   ·rw [if_pos e3] at hg; rw [e3, h3, hg]
   ·rw [if_neg e3] at hg; cases hg
 ·rintro v' H1 n' ⟨rfl, g2, g3, rfl⟩
  refine ⟨_, fun m b hg => ?_, hk⟩
  rw [get_consI, get_consI] at hg
  by_cases e2 : m = 2
  ·rw [if_pos e2] at hg; exact .inl (by rw [e2, g2, hg])
  ·rw [if_neg e2] at hg
   by_cases e3 : m = nm
   ·rw [if_pos e3] at hg; exact .inl (by rw [e3, g3, hg])
   ·rw [if_neg e3, get_del] at hg
    by_cases e4 : m = 3
    ·rw [if_pos e4] at hg; cases hg
    ·rw [if_neg e4] at hg
     refine .inr ⟨?_, hg⟩
     rw [get_consI, get_consI, if_neg e2, if_neg e4]; rfl
theorem asD_agg4 {H : AHeap} {v1 v2 v3 v4 : AV} {d1 d2 d3 d4 : D} (h1 : AsD H v1 d1) (h2 : AsD H v2 d2) (h3 : AsD H v3 d3) (h4 : AsD H v4 d4) : AsD H (.agg [v1, v2, v3, v4]) (.agg [d1, d2, d3, d4]) := by
 refine .agg _ _ rfl fun j v d hv hd => ?_
 match j, hv, hd with
 | 0, hv, hd => simp at hv hd; subst hv hd; exact h1
 | 1, hv, hd => simp at hv hd; subst hv hd; exact h2
 | 2, hv, hd => simp at hv hd; subst hv hd; exact h3
 | 3, hv, hd => simp at hv hd; subst hv hd; exact h4
 | j + 4, hv, _ => simp at hv
theorem po_giveS3 {f : FuncId} {a c b i x : D} {nm sz N m : Nat} {t : Bool} {es : List (List D)} {v : AV} {M : AHeap} {n : Nat} {H : AHeap} {nx : Nat} {k : AV → AHeap → Nat → Prop} (h : PO Pr GG f [.agg [a, .sl es t], .agg [c, .sl [[x]] true, b, i]] v M n) (hg : H.get nm = some (dblk sz es)) (hm : H.get m = some (.arr 1 [[.d x]])) (hne : nm ≠ m) (hN : N = es.length)
  (hk : k (v.ren (· + nx)) (M.shift nx ++ dels [nm, m] H) (nx + n)) : CallVC Pr GG f [.agg [.d a, .sl nm sz 0 N N t], .agg [.d c, .sl m 1 0 1 1 true, .d b, .d i]] H nx k := by
 have g1 : AHeap.get [(nm, some (dblk sz es)), (m, some (dblk 1 [[x]]))] nm = some (dblk sz es) := get_cons_same _ _ _
 have g2 : AHeap.get [(nm, some (dblk sz es)), (m, some (dblk 1 [[x]]))] m = some (dblk 1 [[x]]) := by rw [get_cons_ne _ _ (Ne.symm hne), get_cons_same]
 refine ⟨h.fn, acall_give (HL := [(nm, some (dblk sz es)), (m, some (dblk 1 [[x]]))]) (L := [nm, m]) (acall_data h.call ?_) rfl (fun q bl hq => ?_) (fun j u d h1 h2 => ?_)⟩
 ·rintro v' N' m' ⟨rfl, rfl, rfl⟩
  exact hk
 ·rw [get_consI, get_consI] at hq
  by_cases e1 : q = nm
  ·rw [if_pos e1] at hq; exact ⟨by simp [e1], by rw [e1, hg, hq]⟩
  ·rw [if_neg e1] at hq
   by_cases e2 : q = m
   ·rw [if_pos e2] at hq; refine ⟨by simp [e2], ?_⟩; rw [e2, hm, ← hq]; rfl
   ·rw [if_neg e2] at hq; cases hq
 ·match j, h1, h2 with
  | 0, h1, h2 =>
   simp at h1 h2; subst h1 h2
   exact asD_agg2 (.d _) (asD_own g1 hN)
  | 1, h1, h2 =>
   simp at h1 h2; subst h1 h2
   exact asD_agg4 (.d _) (asD_own g2 rfl) (.d _) (.d _)
  | j + 2, h1, _ => simp at h1
def xG (n : Nat) : Gt := ⟨1, [(n : Int)], true, 0, 0⟩
theorem xG_ok {w n : Nat} (hn : n < w) : gchk (xG n) w 0 = 0 ∧ kindB (xG n).k = true := by
 refine ⟨?_, rfl⟩
 unfold gchk xG
 simp only
 rw [if_neg (by decide), if_neg (by simp [arI]), if_neg ?_, if_neg ?_]
 ·rfl
 ·simp [dupB, dupAt]
 ·rw [out_no]
  ·simp
  ·intro m hm
   rw [List.mem_singleton.1 hm]; omega
end Go.Tz
namespace Go.Tz
open Go Go.AL Go.Proofs Go.Ma
theorem chk137 : chkFn Tryz.f137 = true := by kernel_rfl
theorem reset137n {w n o : Nat} {L M : List Ps} {F : FuncId} {nm : Nat} {c x : Int} (hM : WC 136 [.ptr 2 3 0 0, .d (iD n), .d (iD o)] w F L (rV c x) nm M) (hnm : nm = 3 ∨ nm = 12) (h : (x = 6) ∨ (x = 0 ∧ o = 0)) :
  WC 137 [.ptr 2 3 0 0, .d (iD n), .d (iD o)] w F L (rV c x) nm M := by
 refine ⟨isFn_of Tryz.func137 chk137, ?_⟩
 rcases hnm with rfl | rfl
 ·refine acall_sub (fn_walk pok Tryz.func137 chk137 (K := fun v H m => v = rV c x ∧ H.get 2 = some (wkF w 3 F) ∧ H.get 3 = some (dblk 4 (M.map Ps.l))) ?_) ?_
  ·conv => whnf
   rcases h with rfl | ⟨rfl, rfl⟩
   all_goals
    repeat' first | ((first | refine work_call hM (Nat.le_refl 12) rfl rfl ?_ | refine beqT1 ?_ | refine beqF1 rfl ?_); conv => whnf)
    exact fin ⟨rfl, rfl, rfl⟩
  ·rintro v H m ⟨rfl, h2, h3⟩
   refine ⟨rV c x, mA w F M, 13, ?_, rfl, rfl, rfl, rfl⟩
   first | refine ren_env [(2, 2), (3, 3)] ?_ ?_ ?_ trivial | refine ren_envB [(2, 2), (3, 3)] rfl rfl ?_ ?_ ?_ trivial
   ·repeat' first | exact trivial | refine ⟨⟨by first | rfl | assumption, rfl⟩, ?_⟩
   ·repeat' first | exact trivial | refine ⟨⟨ltB rfl, _, rfl, by first | rfl | assumption | exact get_ren rfl (by first | rfl | assumption | exact get_ren rfl h3 | exact get_ren rfl h2) | exact get_ren rfl h3 | exact get_ren rfl h2, by first | exact below1 rfl | exact below_dblk _ _ _ | exact below_arr rfl⟩, ?_⟩
   ·repeat' first | exact trivial | (refine And.intro ?_ ?_) | (exact fun _ => rfl) | (exact fun h => absurd h (Nat.ne_of_beq_eq_false rfl))
 ·refine acall_sub (fn_walk pok Tryz.func137 chk137 (K := fun v H m => v = rV c x ∧ H.get 2 = some (wkF w 12 F) ∧ H.get 12 = some (dblk 4 (M.map Ps.l))) ?_) ?_
  ·conv => whnf
   rcases h with rfl | ⟨rfl, rfl⟩
   all_goals
    repeat' first | ((first | refine work_call hM (Nat.le_refl 12) rfl rfl ?_ | refine beqT1 ?_ | refine beqF1 rfl ?_); conv => whnf)
    exact fin ⟨rfl, rfl, rfl⟩
  ·rintro v H m ⟨rfl, h2, h3⟩
   refine ⟨rV c x, [(2, some (wkF w 12 F)), (12, some (dblk 4 (M.map Ps.l)))], 13, ?_, rfl, rfl, rfl, rfl⟩
   first | refine ren_env [(2, 2), (12, 12)] ?_ ?_ ?_ trivial | refine ren_envB [(2, 2), (12, 12)] rfl rfl ?_ ?_ ?_ trivial
   ·repeat' first | exact trivial | refine ⟨⟨by first | rfl | assumption, rfl⟩, ?_⟩
   ·repeat' first | exact trivial | refine ⟨⟨ltB rfl, _, rfl, by first | rfl | assumption | exact get_ren rfl (by first | rfl | assumption | exact get_ren rfl h3 | exact get_ren rfl h2) | exact get_ren rfl h3 | exact get_ren rfl h2, by first | exact below1 rfl | exact below_dblk _ _ _ | exact below_arr rfl⟩, ?_⟩
   ·repeat' first | exact trivial | (refine And.intro ?_ ?_) | (exact fun _ => rfl) | (exact fun h => absurd h (Nat.ne_of_beq_eq_false rfl))
theorem reset137x {w n : Nat} {L M : List Ps} {F : FuncId} {nm : Nat} {c : Int} (hw : 1 ≤ w ∧ w ≤ 12) (hn : n < w) (hM : WC 136 [.ptr 2 3 0 0, .d (iD n), .d (iD 1)] w F L (rV c 0) nm M) (hnm : nm = 3 ∨ nm = 12) (hlen : M.length = w) (hv : ∀ q, q ∈ M → Vl w q) :
  WC 137 [.ptr 2 3 0 0, .d (iD n), .d (iD 1)] w F L (rV c 0) 12 (appG w (xG n) M) := by
 refine ⟨isFn_of Tryz.func137 chk137, ?_⟩
 have ha := applied125 (G := GG) hw (i := 0) (xG_ok hn).1 (xG_ok hn).2 M true (by omega) hv
 have e : appG w ⟨1, [(n : Int)], true, 0, 0⟩ M = appG w (xG n) M := rfl
 have ha : PO Pr GG 125 [.agg [iD w, .sl (M.map Ps.l) true], .agg [iD 1, .sl [[iD n]] true, iD 0, iD 0]] (.agg [.d (iD w), .sl 0 4 0 w w true]) [(0, some (dblk 4 ((appG w (xG n) M).map Ps.l)))] 1 := by
  rw [hlen] at ha
  exact ha
 have hml : w = (M.map Ps.l).length := by rw [List.length_map, hlen]
 generalize appG w (xG n) M = Q at ha ⊢
 rcases hnm with rfl | rfl
 ·refine acall_sub (fn_walk pok Tryz.func137 chk137 (K := fun v H m => v = rV c 0 ∧ H.get 2 = some (wkF w 14 F) ∧ H.get 14 = some (dblk 4 (Q.map Ps.l))) ?_) ?_
  ·conv => whnf
   repeat' first | ((first | refine LookP.mk _ rfl ?_ | refine ShlP.mk _ (by first | (simp only [List.set, over, List.take, List.drop, List.append_eq, List.nil_append, List.cons_append, List.length]; rfl) | rfl) ?_ | refine work_call hM (Nat.le_refl 12) rfl rfl ?_ | refine beqT1 ?_ | refine po_giveS3 ha rfl rfl (by decide) hml ?_ | refine HpP.force ?_); conv => whnf)
   refine fin ⟨rfl, rfl, ?_⟩
   show some (Blk.ren _ (dblk 4 _)) = _
   rw [ren_dblk]
  ·rintro v H m ⟨rfl, h2, h3⟩
   refine ⟨rV c 0, [(2, some (wkF w 12 F)), (12, some (dblk 4 (Q.map Ps.l)))], 13, ?_, rfl, rfl, rfl, rfl⟩
   first | refine ren_env [(2, 2), (12, 14)] ?_ ?_ ?_ trivial | refine ren_envB [(2, 2), (12, 14)] rfl rfl ?_ ?_ ?_ trivial
   ·repeat' first | exact trivial | refine ⟨⟨by first | rfl | assumption, rfl⟩, ?_⟩
   ·repeat' first | exact trivial | refine ⟨⟨ltB rfl, _, rfl, by first | rfl | assumption | exact get_ren rfl (by first | rfl | assumption | exact get_ren rfl h3 | exact get_ren rfl h2 | exact h2) | exact get_ren rfl h3 | exact get_ren rfl h2 | exact h2, by first | exact below1 rfl | exact below_dblk _ _ _ | exact below_arr rfl⟩, ?_⟩
   ·repeat' first | exact trivial | (refine And.intro ?_ ?_) | (exact fun _ => rfl) | (exact fun h => absurd h (Nat.ne_of_beq_eq_false rfl))
 ·refine acall_sub (fn_walk pok Tryz.func137 chk137 (K := fun v H m => v = rV c 0 ∧ H.get 2 = some (wkF w 14 F) ∧ H.get 14 = some (dblk 4 (Q.map Ps.l))) ?_) ?_
  ·conv => whnf
   repeat' first | ((first | refine LookP.mk _ rfl ?_ | refine ShlP.mk _ (by first | (simp only [List.set, over, List.take, List.drop, List.append_eq, List.nil_append, List.cons_append, List.length]; rfl) | rfl) ?_ | refine work_call hM (Nat.le_refl 12) rfl rfl ?_ | refine beqT1 ?_ | refine po_giveS3 ha rfl rfl (by decide) hml ?_ | refine HpP.force ?_); conv => whnf)
   refine fin ⟨rfl, rfl, ?_⟩
   show some (Blk.ren _ (dblk 4 _)) = _
   rw [ren_dblk]
  ·rintro v H m ⟨rfl, h2, h3⟩
   refine ⟨rV c 0, [(2, some (wkF w 12 F)), (12, some (dblk 4 (Q.map Ps.l)))], 13, ?_, rfl, rfl, rfl, rfl⟩
   first | refine ren_env [(2, 2), (12, 14)] ?_ ?_ ?_ trivial | refine ren_envB [(2, 2), (12, 14)] rfl rfl ?_ ?_ ?_ trivial
   ·repeat' first | exact trivial | refine ⟨⟨by first | rfl | assumption, rfl⟩, ?_⟩
   ·repeat' first | exact trivial | refine ⟨⟨ltB rfl, _, rfl, by first | rfl | assumption | exact get_ren rfl (by first | rfl | assumption | exact get_ren rfl h3 | exact get_ren rfl h2 | exact h2) | exact get_ren rfl h3 | exact get_ren rfl h2 | exact h2, by first | exact below1 rfl | exact below_dblk _ _ _ | exact below_arr rfl⟩, ?_⟩
   ·repeat' first | exact trivial | (refine And.intro ?_ ?_) | (exact fun _ => rfl) | (exact fun h => absurd h (Nat.ne_of_beq_eq_false rfl))
end Go.Tz
namespace Go.Tz
open Go Go.AL Go.Proofs Go.Ma
abbrev wA (n o : Nat) : List AV := [.ptr 2 3 0 0, .d (iD n), .d (iD o)]
theorem meas {w n o : Nat} {l r : List Ps} (h : SOk w l) (h' : SOk w r) (hg : SameG (r.map nf) (l.map nf)) (hn : n < w) (ho : o ≤ 1) (F : FuncId) :
  (expR w l (zP w n o) = 1 ∧ WC 136 (wA n o) w F r (rV 0 0) 3 r) ∨ (expR w l (zP w n o) = -1 ∧ WC 136 (wA n o) w F r (rV 0 6) 3 r) ∨
  (expR w l (zP w n o) = 0 ∧ SOk w (prjL (zP w n o) l) ∧ WC 136 (wA n o) w F r (rV 1 0) 12 (redRows (prjL (zP w n o) l) (2 * w))) := by
 have hpv := zP_vl hn ho
 have hok := zP_ok h.hi hn ho
 obtain ⟨e1, e2⟩ := mea_gen h h' hg hpv hok
 have hf := isFn_of Tryz.func136 chk136
 rcases expOk_cases (expR_ok h hpv hok) with ⟨a, _⟩ | ⟨a, _⟩ | ⟨a, _⟩
 ·exact .inl ⟨a, hf, measure136s h' hn ho F (e1.trans a) (.inl ⟨rfl, rfl⟩)⟩
 ·exact .inr (.inl ⟨a, hf, measure136s h' hn ho F (e1.trans a) (.inr ⟨rfl, rfl⟩)⟩)
 ·obtain ⟨b, a0, R, hA, _, hR⟩ := e2 a
  refine .inr (.inr ⟨a, b, hf, ?_⟩)
  rw [← hR]
  exact measure136f h' hn ho F (e1.trans a) hA
theorem rese {w n o : Nat} {l r : List Ps} (h : SOk w l) (h' : SOk w r) (hg : SameG (r.map nf) (l.map nf)) (hn : n < w) (ho : o ≤ 1) (F : FuncId) :
  (expR w l (zP w n o) = 1 ∧ ∃ nm, (nm = 3 ∨ nm = 12) ∧ WC 137 (wA n o) w F r (rV 0 0) nm (if o = 1 then appG w (xG n) r else r)) ∨ (expR w l (zP w n o) = -1 ∧ WC 137 (wA n o) w F r (rV 0 6) 3 r) ∨
  (expR w l (zP w n o) = 0 ∧ SOk w (prjL (zP w n o) l) ∧ WC 137 (wA n o) w F r (rV 1 0) 12 (if o = 1 then appG w (xG n) (redRows (prjL (zP w n o) l) (2 * w)) else redRows (prjL (zP w n o) l) (2 * w))) := by
 have hw : 1 ≤ w ∧ w ≤ 12 := ⟨h.lo, h.hi⟩
 have h01 : o = 0 ∨ o = 1 := by omega
 rcases meas h h' hg hn ho F with ⟨a, b⟩ | ⟨a, b⟩ | ⟨a, s, b⟩
 ·refine .inl ⟨a, ?_⟩
  rcases h01 with rfl | rfl
  ·exact ⟨3, .inl rfl, reset137n b (.inl rfl) (.inr ⟨rfl, rfl⟩)⟩
  ·exact ⟨12, .inr rfl, reset137x hw hn b (.inl rfl) h'.len h'.vl⟩
 ·exact .inr (.inl ⟨a, reset137n b (.inl rfl) (.inl rfl)⟩)
 ·refine .inr (.inr ⟨a, s, ?_⟩)
  have hS := (redRows_ok s).1
  rcases h01 with rfl | rfl
  ·exact reset137n b (.inr rfl) (.inr ⟨rfl, rfl⟩)
  ·exact reset137x hw hn b (.inr rfl) hS.len hS.vl
theorem chk128 : chkFn Tryz.f128 = true := by kernel_rfl
abbrev own3 (w : Nat) (c : Int) : AV := .tup [.agg [.d (iD w), .sl 0 4 0 w w true], .d (iD c), .d (iD 0)]
theorem found_ok {w n o : Nat} {l R : List Ps} (t : Bool) (hs : SOk w l) (hn : n < w) (ho : o ≤ 1) {f : FuncId} {rs : Bool} (hf : (f = 136 ∧ rs = false) ∨ (f = 137 ∧ rs = true)) {c : Int} {nm : Nat} (hnm : nm = 3 ∨ nm = 12)
  (hM : WC f (wA n o) w f (redRows l (2 * w)) (rV c 0) nm R) : PO Pr GG 128 [stD w l t, iD n, iD o, .bool rs] (own3 w c) [(0, some (dblk 4 (R.map Ps.l)))] 1 := by
 have c1 := check36 w l t (sok_len hs)
 rw [ok_chk hs] at c1
 have c2 := opened95 (G := GG) ⟨hs.lo, hs.hi⟩ l t (sok_len hs) hs.vl
 rw [hs.len] at c2
 generalize redRows l (2 * w) = L at c2 hM
 refine ⟨isFn_of Tryz.func128 chk128, acall_sub (K := fun v H _ => v = .tup [.agg [.d (iD w), .sl nm 4 0 w w true], .d (iD c), .d (iD 0)] ∧ H.get nm = some (dblk 4 (R.map Ps.l))) (fn_walk pok Tryz.func128 chk128 ?_) ?_⟩
 ·conv => whnf
  rcases hf with ⟨rfl, rfl⟩ | ⟨rfl, rfl⟩ <;> rcases hnm with rfl | rfl
  all_goals
   repeat' first | ((first | refine LookP.mk _ rfl ?_ | refine ShlP.mk _ (by first | (simp only [List.set, over, List.take, List.drop, List.append_eq, List.nil_append, List.cons_append, List.length]; rfl) | rfl) ?_ | refine bneT ?_ | refine pc_use c1 ?_ | refine po_use c2 ?_ | refine work_call hM (by decide) rfl (show some (Blk.ren _ (dblk 4 (L.map Ps.l))) = _ from by rw [ren_dblk]) ?_ | refine HpP.force ?_); conv => whnf) | (intro t ht; cases t <;> conv => whnf)
   all_goals first | exact fin ⟨rfl, rfl⟩ | (exfalso; simp at ht; done) | (exfalso; simp at ht; omega)
 ·rintro v H n ⟨rfl, h2⟩
  refine ⟨_, _, 1, ?_, rfl, rfl, rfl⟩
  rcases hnm with rfl | rfl
  ·first | refine ren_env [(0, 3)] ?_ ?_ ?_ trivial | refine ren_envB [(0, 3)] rfl rfl ?_ ?_ ?_ trivial
   ·repeat' first | exact trivial | refine ⟨⟨by first | rfl | assumption, rfl⟩, ?_⟩
   ·repeat' first | exact trivial | refine ⟨⟨ltB rfl, _, rfl, by first | rfl | assumption | exact get_ren rfl (by first | rfl | assumption | exact get_ren rfl h2) | exact get_ren rfl h2, by first | exact below1 rfl | exact below_dblk _ _ _ | exact below_arr rfl⟩, ?_⟩
   ·repeat' first | exact trivial | (refine And.intro ?_ ?_) | (exact fun _ => rfl) | (exact fun h => absurd h (Nat.ne_of_beq_eq_false rfl))
  ·first | refine ren_env [(0, 12)] ?_ ?_ ?_ trivial | refine ren_envB [(0, 12)] rfl rfl ?_ ?_ ?_ trivial
   ·repeat' first | exact trivial | refine ⟨⟨by first | rfl | assumption, rfl⟩, ?_⟩
   ·repeat' first | exact trivial | refine ⟨⟨ltB rfl, _, rfl, by first | rfl | assumption | exact get_ren rfl (by first | rfl | assumption | exact get_ren rfl h2) | exact get_ren rfl h2, by first | exact below1 rfl | exact below_dblk _ _ _ | exact below_arr rfl⟩, ?_⟩
   ·repeat' first | exact trivial | (refine And.intro ?_ ?_) | (exact fun _ => rfl) | (exact fun h => absurd h (Nat.ne_of_beq_eq_false rfl))
end Go.Tz
namespace Go.Tz
open Go Go.AL Go.Proofs Go.Ma
abbrev no3 (e : Int) : D := .tup [stD 0 [] true, iD 0, iD e]
theorem found_none {w n o : Nat} {l R : List Ps} (t : Bool) (hs : SOk w l) (hn : n < w) (ho : o ≤ 1) {f : FuncId} {rs : Bool} (hf : (f = 136 ∧ rs = false) ∨ (f = 137 ∧ rs = true))
  (hM : WC f (wA n o) w f (redRows l (2 * w)) (rV 0 6) 3 R) : PC Pr GG 128 [stD w l t, iD n, iD o, .bool rs] (no3 6) := by
 have c1 := check36 w l t (sok_len hs)
 rw [ok_chk hs] at c1
 have c2 := opened95 (G := GG) ⟨hs.lo, hs.hi⟩ l t (sok_len hs) hs.vl
 rw [hs.len] at c2
 generalize redRows l (2 * w) = L at c2 hM
 rcases hf with ⟨rfl, rfl⟩ | ⟨rfl, rfl⟩
 all_goals
  refine pc_walk pok Tryz.func128 chk128 ?_
  conv => whnf
  repeat' first | ((first | refine LookP.mk _ rfl ?_ | refine ShlP.mk _ (by first | (simp only [List.set, over, List.take, List.drop, List.append_eq, List.nil_append, List.cons_append, List.length]; rfl) | rfl) ?_ | refine bneT ?_ | refine pc_use c1 ?_ | refine po_use c2 ?_ | refine work_call hM (by decide) rfl (show some (Blk.ren _ (dblk 4 (L.map Ps.l))) = _ from by rw [ren_dblk]) ?_ | refine HpP.force ?_); conv => whnf) | (intro t ht; cases t <;> conv => whnf)
  all_goals first | exact fin rfl | (exfalso; simp at ht; done) | (exfalso; simp at ht; omega)
def fE (w : Int) (l : List Ps) (n o : Int) : Int := if chkS w l ≠ 0 then chkS w l else if n < 0 ∨ n ≥ w then 1 else if o < 0 ∨ o > 1 then 3 else 0
theorem found_e {w n o : Int} {l : List Ps} (h : fE w l n o ≠ 0) (t rs : Bool) (hl : l.length ≤ 1000) : PC Pr GG 128 [stD w l t, iD n, iD o, .bool rs] (no3 (fE w l n o)) := by
 have c1 := check36 w l t hl
 unfold fE at h ⊢
 by_cases hc : chkS w l = 0
 ·rw [if_neg (fun q => q hc)] at h ⊢
  rw [hc] at c1
  by_cases h1 : n < 0 ∨ n ≥ w
  ·rw [if_pos h1]
   refine pc_walk pok Tryz.func128 chk128 ?_
   conv => whnf
   repeat' first | ((first | refine LookP.mk _ rfl ?_ | refine ShlP.mk _ (by first | (simp only [List.set, over, List.take, List.drop, List.append_eq, List.nil_append, List.cons_append, List.length]; rfl) | rfl) ?_ | refine bneT ?_ | refine pc_use c1 ?_ | refine HpP.force ?_); conv => whnf) | (intro t ht; cases t <;> conv => whnf)
   all_goals first | exact fin rfl | skip
   all_goals (exfalso; simp at *; omega)
  ·rw [if_neg h1] at h ⊢
   by_cases h2 : o < 0 ∨ o > 1
   ·rw [if_pos h2]
    refine pc_walk pok Tryz.func128 chk128 ?_
    conv => whnf
    repeat' first | ((first | refine LookP.mk _ rfl ?_ | refine ShlP.mk _ (by first | (simp only [List.set, over, List.take, List.drop, List.append_eq, List.nil_append, List.cons_append, List.length]; rfl) | rfl) ?_ | refine bneT ?_ | refine pc_use c1 ?_ | refine HpP.force ?_); conv => whnf) | (intro t ht; cases t <;> conv => whnf)
    all_goals first | exact fin rfl | skip
    all_goals (exfalso; simp at *; omega)
   ·rw [if_neg h2] at h; exact absurd rfl h
 ·rw [if_pos hc]
  generalize chkS w l = e at c1 hc ⊢
  refine pc_walk pok Tryz.func128 chk128 ?_
  conv => whnf
  repeat' first | ((first | refine LookP.mk _ rfl ?_ | refine ShlP.mk _ (by first | (simp only [List.set, over, List.take, List.drop, List.append_eq, List.nil_append, List.cons_append, List.length]; rfl) | rfl) ?_ | refine bneF hc ?_ | refine pc_use c1 ?_ | refine HpP.force ?_); conv => whnf)
  all_goals first | exact fin rfl | (exfalso; simp at ht; exact hc ht) | skip
theorem chk56 : chkFn Tryz.f56 = true := by kernel_rfl
theorem chk57 : chkFn Tryz.f57 = true := by kernel_rfl
theorem measure56 {w : Nat} {n o : Int} {l R : List Ps} {t : Bool} {c : Int} (h : PO Pr GG 128 [stD w l t, iD n, iD o, .bool false] (own3 w c) [(0, some (dblk 4 (R.map Ps.l)))] 1) : PO Pr GG 56 [stD w l t, iD n, iD o] (own3 w c) [(0, some (dblk 4 (R.map Ps.l)))] 1 := by
 refine ⟨isFn_of Tryz.func56 chk56, acall_sub (K := fun v H _ => v = .tup [.agg [.d (iD w), .sl 2 4 0 w w true], .d (iD c), .d (iD 0)] ∧ H.get 2 = some (dblk 4 (R.map Ps.l))) (fn_walk pok Tryz.func56 chk56 ?_) ?_⟩
 ·conv => whnf
  repeat' first | ((first | refine LookP.mk _ rfl ?_ | refine ShlP.mk _ (by first | (simp only [List.set, over, List.take, List.drop, List.append_eq, List.nil_append, List.cons_append, List.length]; rfl) | rfl) ?_ | refine po_use h ?_ | refine HpP.force ?_); conv => whnf)
  refine fin ⟨rfl, ?_⟩
  show some (Blk.ren _ (dblk 4 _)) = _
  rw [ren_dblk]
 ·rintro v H n ⟨rfl, h2⟩
  refine ⟨_, _, 1, ?_, rfl, rfl, rfl⟩
  first | refine ren_env [(0, 2)] ?_ ?_ ?_ trivial | refine ren_envB [(0, 2)] rfl rfl ?_ ?_ ?_ trivial
  ·repeat' first | exact trivial | refine ⟨⟨by first | rfl | assumption, rfl⟩, ?_⟩
  ·repeat' first | exact trivial | refine ⟨⟨ltB rfl, _, rfl, by first | rfl | assumption | exact get_ren rfl (by first | rfl | assumption | exact get_ren rfl h2) | exact get_ren rfl h2, by first | exact below1 rfl | exact below_dblk _ _ _ | exact below_arr rfl⟩, ?_⟩
  ·repeat' first | exact trivial | (refine And.intro ?_ ?_) | (exact fun _ => rfl) | (exact fun h => absurd h (Nat.ne_of_beq_eq_false rfl))
theorem reset57 {w : Nat} {n o : Int} {l R : List Ps} {t : Bool} {c : Int} (h : PO Pr GG 128 [stD w l t, iD n, iD o, .bool true] (own3 w c) [(0, some (dblk 4 (R.map Ps.l)))] 1) : PO Pr GG 57 [stD w l t, iD n, iD o] (own3 w c) [(0, some (dblk 4 (R.map Ps.l)))] 1 := by
 refine ⟨isFn_of Tryz.func57 chk57, acall_sub (K := fun v H _ => v = .tup [.agg [.d (iD w), .sl 2 4 0 w w true], .d (iD c), .d (iD 0)] ∧ H.get 2 = some (dblk 4 (R.map Ps.l))) (fn_walk pok Tryz.func57 chk57 ?_) ?_⟩
 ·conv => whnf
  repeat' first | ((first | refine LookP.mk _ rfl ?_ | refine ShlP.mk _ (by first | (simp only [List.set, over, List.take, List.drop, List.append_eq, List.nil_append, List.cons_append, List.length]; rfl) | rfl) ?_ | refine po_use h ?_ | refine HpP.force ?_); conv => whnf)
  refine fin ⟨rfl, ?_⟩
  show some (Blk.ren _ (dblk 4 _)) = _
  rw [ren_dblk]
 ·rintro v H n ⟨rfl, h2⟩
  refine ⟨_, _, 1, ?_, rfl, rfl, rfl⟩
  first | refine ren_env [(0, 2)] ?_ ?_ ?_ trivial | refine ren_envB [(0, 2)] rfl rfl ?_ ?_ ?_ trivial
  ·repeat' first | exact trivial | refine ⟨⟨by first | rfl | assumption, rfl⟩, ?_⟩
  ·repeat' first | exact trivial | refine ⟨⟨ltB rfl, _, rfl, by first | rfl | assumption | exact get_ren rfl (by first | rfl | assumption | exact get_ren rfl h2) | exact get_ren rfl h2, by first | exact below1 rfl | exact below_dblk _ _ _ | exact below_arr rfl⟩, ?_⟩
  ·repeat' first | exact trivial | (refine And.intro ?_ ?_) | (exact fun _ => rfl) | (exact fun h => absurd h (Nat.ne_of_beq_eq_false rfl))
theorem measure56e {w n o e : Int} {l : List Ps} {t : Bool} (h : PC Pr GG 128 [stD w l t, iD n, iD o, .bool false] (no3 e)) : PC Pr GG 56 [stD w l t, iD n, iD o] (no3 e) := by
 refine pc_walk pok Tryz.func56 chk56 ?_
 conv => whnf
 repeat' first | ((first | refine LookP.mk _ rfl ?_ | refine ShlP.mk _ (by first | (simp only [List.set, over, List.take, List.drop, List.append_eq, List.nil_append, List.cons_append, List.length]; rfl) | rfl) ?_ | refine pc_use h ?_ | refine HpP.force ?_); conv => whnf)
 exact fin rfl
theorem reset57e {w n o e : Int} {l : List Ps} {t : Bool} (h : PC Pr GG 128 [stD w l t, iD n, iD o, .bool true] (no3 e)) : PC Pr GG 57 [stD w l t, iD n, iD o] (no3 e) := by
 refine pc_walk pok Tryz.func57 chk57 ?_
 conv => whnf
 repeat' first | ((first | refine LookP.mk _ rfl ?_ | refine ShlP.mk _ (by first | (simp only [List.set, over, List.take, List.drop, List.append_eq, List.nil_append, List.cons_append, List.length]; rfl) | rfl) ?_ | refine pc_use h ?_ | refine HpP.force ?_); conv => whnf)
 exact fin rfl
end Go.Tz
namespace Go.Tz
open Go Go.AL Go.Proofs Go.Ma
theorem chk53 : chkFn Tryz.f53 = true := by kernel_rfl
abbrev mD (w : Int) (l : List Ps) (t : Bool) (c e : Int) : D := .tup [stD w l t, iD c, iD e]
theorem canonR {w : Nat} {l : List Ps} (hs : SOk w l) (t : Bool) : PC Pr GG 26 [stD w l t] (stD w (redRows l (2 * w)) false) := by
 have h := canon26 (G := GG) w l t w (sok_len hs) (by have := hs.len; have := hs.lo; omega) (fun q hq => vl_w (hs.vl q hq)) (by have := hs.lo; omega) (by have := hs.hi; omega)
 simpa using h
theorem measure53a {w n o : Nat} {l : List Ps} (hs : SOk w l) (hn : n < w) (ho : o ≤ 1) (t : Bool) (h : expR w l (zP w n o) = 1) : PC Pr GG 53 [stD w l t, iD n, iD o] (mD w (redRows l (2 * w)) false 0 0) := by
 have hsh : ishl .i64 1 (n : Int) = ((2 ^ n : Nat) : Int) := pow_nat (by have := hs.hi; omega)
 have him : imul .i64 2 (o : Int) = ((2 * o : Nat) : Int) := imul_nat (a := 2) (by omega)
 have hx := expect45 (G := GG) hs t (zP_vl hn ho)
 rw [h] at hx
 have hc := canonR hs t
 generalize redRows l (2 * w) = R at hc ⊢
 refine pc_walk pok Tryz.func53 chk53 ?_
 conv => whnf
 repeat' first | ((first | refine LookP.mk _ rfl ?_ | refine ShlP.mk _ (by first | (simp only [List.set, over, List.take, List.drop, List.append_eq, List.nil_append, List.cons_append, List.length]; rfl) | rfl) ?_ | refine And.intro (by first | assumption | exact ⟨by kernel_rfl, rfl⟩ | decide | omega) ?_ | rw [hsh] | rw [him] | refine beqT1 ?_ | refine pc_use hx ?_ | refine pc_use hc ?_ | refine HpP.force ?_); conv => whnf)
 exact fin rfl
theorem measure53b {w n o : Nat} {l : List Ps} (hs : SOk w l) (hn : n < w) (ho : o ≤ 1) (t : Bool) (h : expR w l (zP w n o) = -1) : PC Pr GG 53 [stD w l t, iD n, iD o] (mD 0 [] true 0 6) := by
 have hsh : ishl .i64 1 (n : Int) = ((2 ^ n : Nat) : Int) := pow_nat (by have := hs.hi; omega)
 have him : imul .i64 2 (o : Int) = ((2 * o : Nat) : Int) := imul_nat (a := 2) (by omega)
 have hx := expect45 (G := GG) hs t (zP_vl hn ho)
 rw [h] at hx
 refine pc_walk pok Tryz.func53 chk53 ?_
 conv => whnf
 repeat' first | ((first | refine LookP.mk _ rfl ?_ | refine ShlP.mk _ (by first | (simp only [List.set, over, List.take, List.drop, List.append_eq, List.nil_append, List.cons_append, List.length]; rfl) | rfl) ?_ | refine And.intro (by first | assumption | exact ⟨by kernel_rfl, rfl⟩ | decide | omega) ?_ | rw [hsh] | rw [him] | refine beqT1 ?_ | refine beqF1 rfl ?_ | refine pc_use hx ?_ | refine HpP.force ?_); conv => whnf)
 exact fin rfl
theorem measure53c {w n o : Nat} {l : List Ps} (hs : SOk w l) (hn : n < w) (ho : o ≤ 1) (t : Bool) (h : expR w l (zP w n o) = 0) (hP : SOk w (prjL (zP w n o) l)) : PC Pr GG 53 [stD w l t, iD n, iD o] (mD w (redRows (prjL (zP w n o) l) (2 * w)) false 1 0) := by
 have hsh : ishl .i64 1 (n : Int) = ((2 ^ n : Nat) : Int) := pow_nat (by have := hs.hi; omega)
 have him : imul .i64 2 (o : Int) = ((2 * o : Nat) : Int) := imul_nat (a := 2) (by omega)
 have hx := expect45 (G := GG) hs t (zP_vl hn ho)
 rw [h] at hx
 have hc := canonR hP false
 generalize redRows (prjL (zP w n o) l) (2 * w) = R at hc ⊢
 have hhi := hs.hi
 have hSl := hs.len
 have hSv := hs.vl
 have hpv := zP_vl hn ho
 have hpd : AV.agg [.d (iD w), .d (iD 0), .d (iD (2 ^ n : Nat)), .d (iD (2 * o : Nat))] = AV.agg ((zP w n o).l.map AV.d) := rfl
 refine pc_walk pok Tryz.func53 chk53 ?_
 conv => whnf
 repeat' first | ((first | refine LookP.mk _ rfl ?_ | refine ShlP.mk _ (by first | (simp only [List.set, over, List.take, List.drop, List.append_eq, List.nil_append, List.cons_append, List.length]; rfl) | rfl) ?_ | refine And.intro (by first | assumption | exact ⟨by kernel_rfl, rfl⟩ | decide | omega) ?_ | rw [hsh] | rw [him] | refine beqF1 rfl ?_ | refine pc_use hx ?_ | refine HpP.force ?_); conv => whnf)
 clear hsh him hpd
 refine for_use pok (fun j => ⟨[(3, .ptr 0 2 0 0), (6, .ptr 1 2 0 0), (9, .ptr 2 4 0 0), (10, .d (iD (idxI (fun q => !comV q (zP w n o)) (l.take j)))), (11, .ptr 3 2 0 0), (12, .d (iD j))], [(0, some (.arr 2 [[.d (iD w), .d (rowsD l t)]])), (1, some (.arr 2 [[.d (iD 0), .d (.sl [] true)]])), (2, some (.arr 4 [(zP w n o).l.map AV.d])), (3, some (.arr 2 [[.d (iD w), .sl 4 4 0 j j false]])), (4, some (dblk 4 ((prjL (zP w n o) (l.take j)).map Ps.l)))], 5⟩) (l.length) (fun _ => True) (trivial) ?_ (by kernel_rfl) ?_ ?_
 ·refine Sub.trans (sub_nilH2 (nm := 3) (S := 4) (Nat.zero_le _) rfl) ?_
  refine keep_env (by first | exact Nat.zero_le _ | exact Nat.le_of_ble_eq_true rfl) ?_ ?_ trivial
  ·repeat' first | exact trivial | refine ⟨⟨by first | rfl | assumption, rfl⟩, ?_⟩
  ·repeat' first | exact trivial | refine ⟨⟨ltB rfl, _, rfl, by first | rfl | assumption, by first | exact below1 rfl | exact below_dblk _ _ _ | exact below_arr rfl⟩, ?_⟩
 ·intro j A_j h_j I_j N_j
  have e_j : iadd .i64 (j : Int) 1 = ((j + 1 : Nat) : Int) := iadd_nat (by first | omega | (simp at *; omega))
  generalize zP w n o = p at *
  have hqv := hSv _ (List.getElem_mem h_j)
  have hcm := commute89 (G := GG) l[j] p (by rw [vl_w hqv]; omega) (by rw [vl_w hqv, vl_w hpv])
  rw [com_mul hhi hqv hpv] at hcm
  have hgq : (l.map Ps.l)[(j : Int).toNat]? = some (l[j]).l := get_l h_j
  have hsn : (prjL p (l.take (j + 1))).map Ps.l = (prjL p (l.take j)).map Ps.l ++ [(if comV l[j] p = true then l[j] else match (l.take j).find? (fun r => !comV r p) with
    | some f => mulS f l[j]
    | none => p).l] := by
   rw [take_snoc h_j, prjL_snoc, List.map_append]; rfl
  have hml : ((prjL p (l.take j)).map Ps.l).length = j := by rw [List.length_map, prjL_len, List.length_take]; omega
  generalize (prjL p (l.take j)).map Ps.l = M at hsn hml
  cases hcc : comV l[j] p with
  | true =>
   rw [hcc] at hcm hsn
   rw [if_pos rfl] at hsn
   have hix : idxI (fun q => !comV q p) (l.take (j + 1)) = idxI (fun q => !comV q p) (l.take j) := idxI_snocF h_j (by simp [hcc])
   generalize idxI (fun q => !comV q p) (l.take j) = fi at hix ⊢
   generalize l[j] = q at hsn hgq hcm
   conv => whnf
   repeat (refine LookP.mk _ rfl ?_; conv => whnf)
   intro t ht
   cases t
   ·exfalso; first | (simp at ht; done) | (simp at ht; omega)
   conv => whnf
   repeat' first | ((first | refine LookP.mk _ (by first | rfl | exact hgq) ?_ | refine ShlP.mk _ (by first | (simp only [List.set, over, List.take, List.drop, List.append_eq, List.nil_append, List.cons_append, List.length]; rfl) | rfl) ?_ | (refine And.intro (by first | exact Nat.le_refl _ | exact ⟨by rw [List.length_map]; exact hml, by decide, by show (2 * (j + 1) + 192) * 32 ≤ 281474976710656; omega⟩ | assumption | exact ⟨by kernel_rfl, rfl⟩ | decide | omega) ?_) | refine pc_use hcm ?_ | rw [nbeq] | refine HpP.force ?_); conv => whnf)
   refine N_j _ ?_ ?_
   ·first | trivial | assumption | omega
   ·first | refine ren_env [(4, 7)] ?_ ?_ ?_ trivial | refine ren_envB [(4, 7)] rfl rfl ?_ ?_ ?_ trivial
    ·repeat' first | exact trivial | refine ⟨⟨by first | rfl | assumption | exact congrArg (fun n => AV.d (iD n)) e_j | exact congrArg (fun n => AV.d (iD n)) hix.symm, rfl⟩, ?_⟩
    ·repeat' first | exact trivial | refine ⟨⟨ltB rfl, _, rfl, by first | rfl | assumption | exact get_ren rfl (by first | rfl | assumption | exact get_ren rfl (by rw [hsn]; exact congrArg some (dblk_snoc rfl))) | exact get_ren rfl (by rw [hsn]; exact congrArg some (dblk_snoc rfl)), by first | exact below1 rfl | exact below_dblk _ _ _ | exact below_arr rfl⟩, ?_⟩
    ·repeat' first | exact trivial | (refine And.intro ?_ ?_) | (exact fun _ => rfl) | (exact fun h => absurd h (Nat.ne_of_beq_eq_false rfl))
  | false =>
   rw [hcc] at hcm hsn
   rw [if_neg (by decide)] at hsn
   rcases idx_case (fun q => !comV q p) (l.take j) with ⟨hf, hi2⟩ | ⟨i, hil, hi2, hf⟩
   ·rw [hf] at hsn
    dsimp only at hsn
    have hix : idxI (fun q => !comV q p) (l.take (j + 1)) = j := idxI_new h_j (by simp [hcc]) hi2
    rw [hi2]
    generalize l[j] = q at hsn hgq hcm
    conv => whnf
    repeat (refine LookP.mk _ rfl ?_; conv => whnf)
    intro t ht
    cases t
    ·exfalso; first | (simp at ht; done) | (simp at ht; omega)
    conv => whnf
    repeat' first | ((first | refine LookP.mk _ (by first | rfl | exact hgq) ?_ | refine ShlP.mk _ (by first | (simp only [List.set, over, List.take, List.drop, List.append_eq, List.nil_append, List.cons_append, List.length]; rfl) | rfl) ?_ | (refine And.intro (by first | exact Nat.le_refl _ | exact ⟨by rw [List.length_map]; exact hml, by decide, by show (2 * (j + 1) + 192) * 32 ≤ 281474976710656; omega⟩ | assumption | exact ⟨by kernel_rfl, rfl⟩ | decide | omega) ?_) | refine pc_use hcm ?_ | rw [nbeq] | refine HpP.force ?_); conv => whnf) | (intro t ht; cases t <;> conv => whnf)
    ·exact absurd ht (by decide)
    ·refine N_j _ ?_ ?_
     ·first | trivial | assumption | omega
     ·first | refine ren_env [(4, 7)] ?_ ?_ ?_ trivial | refine ren_envB [(4, 7)] rfl rfl ?_ ?_ ?_ trivial
      ·repeat' first | exact trivial | refine ⟨⟨by first | rfl | assumption | exact congrArg (fun n => AV.d (iD n)) e_j | exact congrArg (fun n => AV.d (iD n)) hix.symm, rfl⟩, ?_⟩
      ·repeat' first | exact trivial | refine ⟨⟨ltB rfl, _, rfl, by first | rfl | assumption | exact get_ren rfl (by first | rfl | assumption | exact get_ren rfl (by rw [hsn]; exact congrArg some (dblk_snoc rfl))) | exact get_ren rfl (by rw [hsn]; exact congrArg some (dblk_snoc rfl)), by first | exact below1 rfl | exact below_dblk _ _ _ | exact below_arr rfl⟩, ?_⟩
      ·repeat' first | exact trivial | (refine And.intro ?_ ?_) | (exact fun _ => rfl) | (exact fun h => absurd h (Nat.ne_of_beq_eq_false rfl))
   ·rw [hf] at hsn
    dsimp only at hsn
    have hix := idxI_old (p := fun q => !comV q p) h_j hi2
    have hij : i < j := by rw [List.length_take] at hil; omega
    have hiL : i < l.length := by omega
    have eL : (l.take j)[i] = l[i] := by simp
    rw [eL] at hsn
    have hfv := hSv _ (List.getElem_mem hiL)
    have hmul := mulS_c (G := GG) l[i] l[j] (by rw [vl_w hfv]; omega) (by rw [vl_w hqv, vl_w hfv])
    have hgf : (l.map Ps.l)[((i : Nat) : Int).toNat]? = some (l[i]).l := get_l hiL
    rw [hi2]
    generalize l[j] = q at hsn hgq hcm hmul
    generalize l[i] = f at hsn hgf hmul
    generalize mulS f q = r at hsn hmul
    conv => whnf
    repeat (refine LookP.mk _ rfl ?_; conv => whnf)
    intro t ht
    cases t
    ·exfalso; first | (simp at ht; done) | (simp at ht; omega)
    conv => whnf
    repeat' first | ((first | refine LookP.mk _ (by first | rfl | exact hgq | exact hgf) ?_ | refine ShlP.mk _ (by first | (simp only [List.set, over, List.take, List.drop, List.append_eq, List.nil_append, List.cons_append, List.length]; rfl) | rfl) ?_ | (refine And.intro (by first | exact Nat.le_refl _ | exact ⟨by rw [List.length_map]; exact hml, by decide, by show (2 * (j + 1) + 192) * 32 ≤ 281474976710656; omega⟩ | assumption | exact ⟨by kernel_rfl, rfl⟩ | decide | omega) ?_) | refine pc_use hcm ?_ | refine pc_head hmul ?_ | rw [nbeq] | refine HpP.force ?_); conv => whnf) | (intro t ht; cases t <;> conv => whnf)
    ·refine N_j _ ?_ ?_
     ·first | trivial | assumption | omega
     ·first | refine ren_env [(4, 7)] ?_ ?_ ?_ trivial | refine ren_envB [(4, 7)] rfl rfl ?_ ?_ ?_ trivial
      ·repeat' first | exact trivial | refine ⟨⟨by first | rfl | assumption | exact congrArg (fun n => AV.d (iD n)) e_j | exact congrArg (fun n => AV.d (iD n)) hix.symm, rfl⟩, ?_⟩
      ·repeat' first | exact trivial | refine ⟨⟨ltB rfl, _, rfl, by first | rfl | assumption | exact get_ren rfl (by first | rfl | assumption | exact get_ren rfl (by rw [hsn]; exact congrArg some (dblk_snoc rfl))) | exact get_ren rfl (by rw [hsn]; exact congrArg some (dblk_snoc rfl)), by first | exact below1 rfl | exact below_dblk _ _ _ | exact below_arr rfl⟩, ?_⟩
      ·repeat' first | exact trivial | (refine And.intro ?_ ?_) | (exact fun _ => rfl) | (exact fun h => absurd h (Nat.ne_of_beq_eq_false rfl))
    ·exfalso; simp at ht; omega
 ·intro A_last I_last
  have hT : l.take l.length = l := List.take_of_length_le (Nat.le_refl _)
  rw [hT]
  have hml : ((prjL (zP w n o) l).map Ps.l).length = l.length := by rw [List.length_map, prjL_len]
  conv => whnf
  repeat (refine LookP.mk _ rfl ?_; conv => whnf)
  intro t ht
  cases t
  rotate_left
  ·exfalso; first | (simp at ht; done) | (simp at ht; omega)
  conv => whnf
  repeat' first | ((first | refine LookP.mk _ rfl ?_ | refine ShlP.mk _ (by first | (simp only [List.set, over, List.take, List.drop, List.append_eq, List.nil_append, List.cons_append, List.length]; rfl) | rfl) ?_ | refine pc_giveS hc rfl hml.symm ?_ | refine HpP.force ?_); conv => whnf)
  exact fin rfl
end Go.Tz
namespace Go.Tz
open Go Go.AL Go.Proofs Go.Ma
def mB (g : Gt) : Bool := decide (g.k = 13 ∨ g.k = 14)
structure As where
 (r : List Ps)
 (bs : List Int)
 (c k : Nat)
 (f : FuncId)
def pA (w : Nat) (wa : List Int) (s : As) (g : Gt) : Ps := zP w (gA g) (wa.getD s.k 0).toNat
def onB (s : As) (g : Gt) : Bool := decide (g.i = 0) || decide (s.bs.getD (g.i - 1).toNat 0 = 1)
def rA (w : Nat) (wa : List Int) (s : As) (g : Gt) : List Ps := if expR w s.r (pA w wa s g) = 1 then s.r else redRows (prjL (pA w wa s g) s.r) (2 * w)
def stepA (w : Nat) (wa : List Int) (s : As) (g : Gt) : As :=
 if mB g = true then ⟨if g.k = 14 ∧ (wa.getD s.k 0).toNat = 1 then appG w (xG (gA g)) (rA w wa s g) else rA w wa s g, if g.k = 13 then s.bs.set g.b.toNat (wa.getD s.k 0) else s.bs, if expR w s.r (pA w wa s g) = 1 then s.c else s.c + 1, s.k + 1, if g.k = 13 then 136 else 137⟩
 else if onB s g = true then { s with r := appG w g s.r } else s
def runA (w : Nat) (wa : List Int) (b : Int) (l : List Ps) (gs : List Gt) : As := gs.foldl (stepA w wa) ⟨redRows l (2 * w), List.replicate b.toNat 0, 0, 0, 136⟩
def badA (w : Nat) (wa : List Int) (b : Int) (l : List Ps) (gs : List Gt) (i : Nat) (g : Gt) : Bool := mB g && decide (expR w (runA w wa b l (gs.take i)).r (pA w wa (runA w wa b l (gs.take i)) g) = -1)
theorem runA_snoc {w : Nat} {wa : List Int} {b : Int} {l : List Ps} {gs : List Gt} {i : Nat} (h : i < gs.length) : runA w wa b l (gs.take (i + 1)) = stepA w wa (runA w wa b l (gs.take i)) gs[i] := by
 unfold runA; rw [take_snoc h, List.foldl_append]; rfl
structure AOk (w : Nat) (b : Int) (gs : List Gt) (wa : List Int) : Prop where
 hw : 1 ≤ w ∧ w ≤ 12
 hb : 0 ≤ b ∧ b ≤ 8
 len : gs.length ≤ 120
 gc : ∀ g, g ∈ gs → gchk g w b = 0
 kd : ∀ g, g ∈ gs → mB g = true ∨ kindB g.k = true
 cnt : wa.length = gs.countP mB
 bit : ∀ x, x ∈ wa → x = 0 ∨ x = 1
structure Inv (w : Nat) (b : Int) (n : Nat) (k : Nat) (s : As) : Prop where
 ok : SOk w s.r
 red : redRows s.r (2 * w) = s.r
 bl : (s.bs.length : Int) = b
 bv : ∀ x, x ∈ s.bs → x = 0 ∨ x = 1
 c : s.c ≤ n
 k : s.k = k
theorem mB_wire {g : Gt} {w : Nat} {b : Int} (h : gchk g w b = 0) (hm : mB g = true) : g.ws = [(gA g : Int)] ∧ gA g < w ∧ g.i = 0 := by
 obtain ⟨h1, h2, h3, h4, h5⟩ := gchk_ok h
 obtain ⟨b1, b2, b3, b4⟩ := bitE_ok h5
 have hm : g.k = 13 ∨ g.k = 14 := of_decide_eq_true hm
 have har : arI g.k = 1 := by rcases hm with e | e <;> rw [e] <;> rfl
 rw [har] at h2
 obtain ⟨a, ha⟩ : ∃ a, g.ws = [a] := by
  match hq : g.ws with
  | [] => rw [hq] at h2; simp at h2
  | [a] => exact ⟨a, rfl⟩
  | _ :: _ :: _ => rw [hq] at h2; simp at h2; omega
 rw [ha] at h3
 have hgA : gA g = a.toNat := by unfold gA; rw [ha]; rfl
 have h3 : ¬ (a < 0 ∨ a ≥ (w : Int)) := by
  unfold outB at h3
  simpa using h3
 refine ⟨?_, by omega, b3 hm⟩
 rw [ha, hgA, show ((a.toNat : Nat) : Int) = a by omega]
theorem mB_bit {g : Gt} {w : Nat} {b : Int} (h : gchk g w b = 0) (hm : g.k = 13) : 0 ≤ g.b ∧ g.b < b := (bitE_ok (gchk_ok h).2.2.2.2).2.1 hm
theorem want_at {wa : List Int} (hb : ∀ x, x ∈ wa → x = 0 ∨ x = 1) (k : Nat) : (wa.getD k 0 = 0 ∨ wa.getD k 0 = 1) ∧ (wa.getD k 0).toNat ≤ 1 ∧ (((wa.getD k 0).toNat : Nat) : Int) = wa.getD k 0 := by
 have h : wa.getD k 0 = 0 ∨ wa.getD k 0 = 1 := by
  rw [List.getD_eq_getElem?_getD]
  cases hq : wa[k]? with
  | none => exact .inl rfl
  | some x => exact hb x (List.mem_of_getElem? hq)
 exact ⟨h, by omega, by omega⟩
theorem cnt_le {gs : List Gt} {i : Nat} (h : i < gs.length) (hm : mB gs[i] = true) : (gs.take i).countP mB < gs.countP mB := by
 have e := List.take_append_drop (i + 1) gs
 conv => rhs; rw [← e, List.countP_append, take_snoc h, List.countP_append]
 simp [List.countP_cons, hm]
 omega
theorem rA_ok {w : Nat} {b : Int} {n k : Nat} {s : As} (h : Inv w b n k s) {g : Gt} (hg : gchk g w b = 0) (hm : mB g = true) {wa : List Int} (hb : ∀ x, x ∈ wa → x = 0 ∨ x = 1) (hx : expR w s.r (pA w wa s g) ≠ -1) : SOk w (rA w wa s g) ∧ redRows (rA w wa s g) (2 * w) = rA w wa s g := by
 obtain ⟨h1, h2, h3⟩ := mB_wire hg hm
 unfold rA
 by_cases e : expR w s.r (pA w wa s g) = 1
 ·rw [if_pos e]; exact ⟨h.ok, h.red⟩
 ·rw [if_neg e]
  have hs : SOk w (prjL (pA w wa s g) s.r) := by
   rcases meas h.ok h.ok (fun _ => Iff.rfl) h2 (want_at hb s.k).2.1 0 with ⟨a, _⟩ | ⟨a, _⟩ | ⟨_, a, _⟩
   ·exact absurd a e
   ·exact absurd a hx
   ·exact a
  exact ⟨(redRows_ok hs).1, red_red hs⟩
theorem step_inv {w : Nat} {b : Int} {n k : Nat} {s : As} (h : Inv w b n k s) {g : Gt} (hg : gchk g w b = 0) (hk : mB g = true ∨ kindB g.k = true) {wa : List Int} (hb : ∀ x, x ∈ wa → x = 0 ∨ x = 1) (hx : mB g = true → expR w s.r (pA w wa s g) ≠ -1) : Inv w b (n + 1) (k + if mB g = true then 1 else 0) (stepA w wa s g) := by
 unfold stepA
 have hc := h.c
 by_cases hm : mB g = true
 ·obtain ⟨r1, r2⟩ := rA_ok h hg hm hb (hx hm)
  obtain ⟨h1, h2, h3⟩ := mB_wire hg hm
  obtain ⟨x1, x2⟩ := xG_ok h2
  rw [if_pos hm, if_pos hm]
  refine ⟨?_, ?_, ?_, ?_, ?_, by show s.k + 1 = k + 1; rw [h.k]⟩
  ·dsimp only
   split
   ·exact appG_sok x1 x2 r1
   ·exact r1
  ·dsimp only
   split
   ·exact appG_red x1 x2 r1
   ·exact r2
  ·dsimp only
   split
   ·rw [List.length_set]; exact h.bl
   ·exact h.bl
  ·dsimp only
   split
   ·intro x hxm
    rcases List.mem_or_eq_of_mem_set hxm with q | q
    ·exact h.bv x q
    ·rw [q]; exact (want_at hb s.k).1
   ·exact h.bv
  ·dsimp only
   split <;> omega
 ·have hk2 : kindB g.k = true := hk.resolve_left hm
  rw [if_neg hm, if_neg hm]
  split
  ·exact ⟨appG_sok hg hk2 h.ok, appG_red hg hk2 h.ok, h.bl, h.bv, Nat.le_succ_of_le hc, h.k⟩
  ·exact ⟨h.ok, h.red, h.bl, h.bv, Nat.le_succ_of_le hc, h.k⟩
theorem runA_inv {w : Nat} {wa : List Int} {b : Int} {l : List Ps} {gs : List Gt} (hA : AOk w b gs wa) (hs : SOk w l) : ∀ i, i ≤ gs.length → (∀ j (h : j < gs.length), j < i → badA w wa b l gs j gs[j] = false) → Inv w b i ((gs.take i).countP mB) (runA w wa b l (gs.take i))
 | 0, _, _ => ⟨(redRows_ok hs).1, red_red hs, by show ((List.replicate b.toNat (0 : Int)).length : Int) = b; rw [List.length_replicate]; have := hA.hb; omega, fun x hx => .inl (List.eq_of_mem_replicate hx), Nat.le_refl _, rfl⟩
 | i + 1, hi, hb => by
  have ih := runA_inv hA hs i (by omega) fun j h hj => hb j h (by omega)
  have hbi := hb i (by omega) (by omega)
  have hmem := List.getElem_mem (show i < gs.length by omega)
  rw [runA_snoc (by omega)]
  have h := step_inv ih (hA.gc _ hmem) (hA.kd _ hmem) hA.bit (fun hm => by
   unfold badA at hbi
   rw [hm] at hbi
   simpa using hbi)
  have e : (gs.take (i + 1)).countP mB = (gs.take i).countP mB + if mB gs[i] = true then 1 else 0 := by
   rw [take_snoc (by omega), List.countP_append]
   simp [List.countP_cons]
  rw [e]; exact h
end Go.Tz
namespace Go.Tz
open Go Go.AL Go.Proofs Go.Ma
theorem asD_tup4 {H : AHeap} {v1 v2 v3 v4 : AV} {d1 d2 d3 d4 : D} (h1 : AsD H v1 d1) (h2 : AsD H v2 d2) (h3 : AsD H v3 d3) (h4 : AsD H v4 d4) : AsD H (.tup [v1, v2, v3, v4]) (.tup [d1, d2, d3, d4]) := by
 refine .tup _ _ rfl fun j v d hv hd => ?_
 match j, hv, hd with
 | 0, hv, hd => simp at hv hd; subst hv hd; exact h1
 | 1, hv, hd => simp at hv hd; subst hv hd; exact h2
 | 2, hv, hd => simp at hv hd; subst hv hd; exact h3
 | 3, hv, hd => simp at hv hd; subst hv hd; exact h4
 | j + 4, hv, _ => simp at hv
abbrev nums (bs : List Int) : List (List D) := bs.map fun x => [iD x]
theorem get_is {bs : List Int} {m : Nat} (h : m < bs.length) : ((nums bs).map fun el => el.map AV.d)[0 + (m : Int).toNat]? = some ([iD (bs.getD m 0)].map AV.d) := by
 rw [List.getD_eq_getElem?_getD, List.getElem?_eq_getElem h]
 simp [h]
theorem set_is {bs : List Int} {m : Nat} {x : Int} : ((nums bs).map fun el => el.map AV.d).set (0 + (m : Int).toNat) ([iD x].map AV.d) = (nums (bs.set m x)).map fun el => el.map AV.d := by
 simp [nums, List.map_set]
def okB (g : Gt) : Bool := mB g || kindB g.k
def alE (w : Nat) (l : List Ps) (cw : Int) (b : Int) (gs : List Gt) (wa : List Int) : Int :=
 if cw ≠ w ∨ gs.all okB = false then 7 else if wa.length ≠ gs.countP mB then 2 else if wa.all (fun x => !offB x 0 1) = false then 3
 else if (List.range gs.length).any (fun j => badA w wa b l gs j (gs.getD j ⟨0, [], true, 0, 0⟩)) = true then 6 else 0
theorem mB_ge {g : Gt} {w b : Int} (h : gchk g w b = 0) : mB g = decide (g.k ≥ 13) := by
 have h1 := (gchk_ok h).1
 have h2 : ¬ (g.k < 1 ∨ g.k > 14) := fun q => h1 (ari0 q)
 unfold mB
 rw [Bool.eq_iff_iff]; simp; omega
theorem al7 {w : Nat} {l : List Ps} {cw b : Int} {gs : List Gt} {wa : List Int} (h : cw ≠ w ∨ gs.all okB = false) : alE w l cw b gs wa = 7 := by unfold alE; rw [if_pos h]
theorem al2 {w : Nat} {l : List Ps} {b : Int} {gs : List Gt} {wa : List Int} (h : gs.all okB = true) (h2 : wa.length ≠ gs.countP mB) : alE w l w b gs wa = 2 := by unfold alE; rw [if_neg (by simp [h]), if_pos h2]
theorem al3 {w : Nat} {l : List Ps} {b : Int} {gs : List Gt} {wa : List Int} (h : gs.all okB = true) (h2 : wa.length = gs.countP mB) (h3 : wa.all (fun x => !offB x 0 1) = false) : alE w l w b gs wa = 3 := by
 unfold alE; rw [if_neg (by simp [h]), if_neg (fun q => q h2), if_pos h3]
theorem al6 {w : Nat} {l : List Ps} {b : Int} {gs : List Gt} {wa : List Int} (h : gs.all okB = true) (h2 : wa.length = gs.countP mB) (h3 : wa.all (fun x => !offB x 0 1) = true) {j : Nat} (hj : j < gs.length) (h4 : badA w wa b l gs j gs[j] = true) : alE w l w b gs wa = 6 := by
 unfold alE; rw [if_neg (by simp [h]), if_neg (fun q => q h2), if_neg (by simp [h3]), if_pos]
 refine List.any_eq_true.2 ⟨j, List.mem_range.2 hj, ?_⟩
 rw [List.getD_eq_getElem?_getD, List.getElem?_eq_getElem hj]; exact h4
theorem al0 {w : Nat} {l : List Ps} {b : Int} {gs : List Gt} {wa : List Int} (h : gs.all okB = true) (h2 : wa.length = gs.countP mB) (h3 : wa.all (fun x => !offB x 0 1) = true) (h4 : ∀ j (h : j < gs.length), j < gs.length → badA w wa b l gs j gs[j] = false) : alE w l w b gs wa = 0 := by
 unfold alE; rw [if_neg (by simp [h]), if_neg (fun q => q h2), if_neg (by simp [h3]), if_neg]
 intro q
 obtain ⟨j, hj, hq⟩ := List.any_eq_true.1 q
 have hj := List.mem_range.1 hj
 rw [List.getD_eq_getElem?_getD, List.getElem?_eq_getElem hj] at hq
 have := h4 j hj hj
 simp only [Option.getD_some] at hq
 rw [this] at hq; cases hq
def alR (w : Nat) (l : List Ps) (cw b : Int) (gs : List Gt) (wa : List Int) : D :=
 if alE w l cw b gs wa = 0 then .tup [stD w (runA w wa b l gs).r false, intsD (runA w wa b l gs).bs true, iD (runA w wa b l gs).c, iD 0] else .tup [stD 0 [] true, .sl [] true, iD 0, iD (alE w l cw b gs wa)]
theorem alR_e {w : Nat} {l : List Ps} {cw b : Int} {gs : List Gt} {wa : List Int} {e : Int} (he : e ≠ 0) (h : alE w l cw b gs wa = e) : alR w l cw b gs wa = .tup [stD 0 [] true, .sl [] true, iD 0, iD e] := by unfold alR; rw [h, if_neg he]
theorem okW_a {w : Nat} {b : Int} {gs : List Gt} {wa : List Int} (hC : cchk w b gs = 0) (h : gs.all okB = true) (h2 : wa.length = gs.countP mB) (h3 : wa.all (fun x => !offB x 0 1) = true) : AOk w b gs wa := by
 obtain ⟨a1, a2, a3, a4⟩ := cchk_ok hC
 refine ⟨by omega, a2, a3, a4, fun g hg => ?_, h2, fun x hx => ?_⟩
 ·have := List.all_eq_true.1 h g hg
  unfold okB at this
  simpa using this
 ·have := List.all_eq_true.1 h3 x hx
  unfold offB at this
  simp at this
  omega
end Go.Tz
namespace Go.Tz
open Go Go.AL Go.Proofs Go.Ma
theorem chk55 : chkFn Tryz.f55 = true := by kernel_rfl
theorem want_get {wa : List Int} {k : Nat} (h : k < wa.length) : (wa.map fun k => [iD k])[(k : Int).toNat]? = some [iD (wa.getD k 0)] := by
 rw [List.getD_eq_getElem?_getD, List.getElem?_eq_getElem h]
 simp [h]
theorem decF {p : Prop} [Decidable p] (h : ¬ p) {k : Bool → Prop} (hk : k false) : ∀ t, decide p = t → k t := fun t e => by
 rw [decide_eq_false h] at e; exact e ▸ hk
theorem mea53 {w b n k : Nat} {s : As} (hI : Inv w b n k s) {g : Gt} (hg : gchk g w b = 0) (hm : mB g = true) {wa : List Int} (hb : ∀ x, x ∈ wa → x = 0 ∨ x = 1) :
  (expR w s.r (pA w wa s g) = -1 ∧ PC Pr GG 53 [stD w s.r false, iD (gA g), iD ((wa.getD s.k 0).toNat : Nat)] (mD 0 [] true 0 6)) ∨
  (expR w s.r (pA w wa s g) ≠ -1 ∧ ∃ ch : Nat, ch ≤ 1 ∧ (if expR w s.r (pA w wa s g) = 1 then s.c else s.c + 1) = s.c + ch ∧ PC Pr GG 53 [stD w s.r false, iD (gA g), iD ((wa.getD s.k 0).toNat : Nat)] (mD w (rA w wa s g) false ch 0)) := by
 obtain ⟨h1, h2, h3⟩ := mB_wire hg hm
 have ho := (want_at hb s.k).2.1
 unfold rA
 rcases meas hI.ok hI.ok (fun _ => Iff.rfl) h2 ho 0 with ⟨a, _⟩ | ⟨a, _⟩ | ⟨a, hP, _⟩
 ·have c := measure53a hI.ok h2 ho false a
  rw [hI.red] at c
  have a' : expR w s.r (pA w wa s g) = 1 := a
  rw [a', if_pos rfl, if_pos rfl]
  exact .inr ⟨by decide, 0, by omega, rfl, c⟩
 ·exact .inl ⟨a, measure53b hI.ok h2 ho false a⟩
 ·have c := measure53c hI.ok h2 ho false a hP
  have a' : expR w s.r (pA w wa s g) = 0 := a
  rw [a', if_neg (by decide), if_neg (by decide)]
  exact .inr ⟨by decide, 1, by omega, rfl, c⟩
theorem step_off {w : Nat} {wa : List Int} {s : As} {g : Gt} (hm : mB g = false) : stepA w wa s g = if onB s g = true then { s with r := appG w g s.r } else s := by
 unfold stepA; rw [if_neg (by simp [hm])]
theorem step_13 {w : Nat} {wa : List Int} {s : As} {g : Gt} (hk : g.k = 13) : stepA w wa s g = ⟨rA w wa s g, s.bs.set g.b.toNat (wa.getD s.k 0), if expR w s.r (pA w wa s g) = 1 then s.c else s.c + 1, s.k + 1, 136⟩ := by
 unfold stepA
 rw [if_pos (show mB g = true by unfold mB; simp [hk]), if_neg (by rw [hk]; intro h; exact absurd h.1 (by decide)), if_pos hk, if_pos hk]
theorem step_14 {w : Nat} {wa : List Int} {s : As} {g : Gt} (hk : g.k = 14) : stepA w wa s g = ⟨if (wa.getD s.k 0).toNat = 1 then appG w (xG (gA g)) (rA w wa s g) else rA w wa s g, s.bs, if expR w s.r (pA w wa s g) = 1 then s.c else s.c + 1, s.k + 1, 137⟩ := by
 unfold stepA
 rw [if_pos (show mB g = true by unfold mB; simp [hk]), if_neg (show ¬ g.k = 13 by rw [hk]; decide), if_neg (show ¬ g.k = 13 by rw [hk]; decide)]
 simp only [hk, true_and]
set_option maxHeartbeats 4000000 in
theorem along55 {w b : Nat} {l : List Ps} (hs : SOk w l) (cw : Int) (gs : List Gt) (wa : List Int) (ct t u : Bool) (hC : cchk cw b gs = 0) (hwn : wa.length ≤ 1000) : PC Pr GG 55 [circD cw b gs ct, stD w l t, intsD wa u] (alR w l cw b gs wa) := by
 obtain ⟨hcw, hb, hgl, hgc⟩ := cchk_ok hC
 have c26 := canonR hs t
 have hw : 1 ≤ w ∧ w ≤ 12 := ⟨hs.lo, hs.hi⟩
 refine pc_freeze (isFn_of Tryz.func55 chk55) (fn_walk pok Tryz.func55 chk55 ?_)
 conv => whnf
 repeat' first | ((first | refine LookP.mk _ rfl ?_ | refine ShlP.mk _ (by first | (simp only [List.set, over, List.take, List.drop, List.append_eq, List.nil_append, List.cons_append, List.length]; rfl) | rfl) ?_ | refine HpP.force ?_); conv => whnf) | (intro t ht; cases t <;> conv => whnf)
 ·have hcw : cw = w := by simpa using ht
  subst hcw
  refine for_use pok (fun i => ⟨[(2, .d (intsD wa u)), (3, .ptr 0 3 0 0), (4, .ptr 1 2 0 0), (6, .ptr 2 2 0 0), (10, .d (iD ((gs.take i).countP mB : Nat))), (11, .d (iD i))], [(0, some (.arr 3 [[.d (iD w), .d (iD b), .d (gatesD gs ct)]])), (1, some (.arr 2 [[.d (iD w), .d (rowsD l t)]])), (2, some (.arr 2 [[.d (iD 0), .d (.sl [] true)]]))], 3⟩) (gs.length) (fun i => (gs.take i).all okB = true) (rfl) ?_ (by kernel_rfl) ?_ ?_
  ·refine keep_env (by first | exact Nat.zero_le _ | exact Nat.le_of_ble_eq_true rfl) ?_ ?_ trivial
   ·repeat' first | exact trivial | refine ⟨⟨by first | rfl | assumption, rfl⟩, ?_⟩
   ·repeat' first | exact trivial | refine ⟨⟨ltB rfl, _, rfl, by first | rfl | assumption, by first | exact below1 rfl | exact below_dblk _ _ _ | exact below_arr rfl⟩, ?_⟩
  ·intro i A_i h_i I_i N_i
   have e_i : iadd .i64 (i : Int) 1 = ((i + 1 : Nat) : Int) := iadd_nat (by first | omega | (simp at *; omega))
   have hgi := hgc _ (List.getElem_mem h_i)
   have hge := mB_ge hgi
   have hgg : (gs.map Gt.l)[(i : Int).toNat]? = some (gs[i]).l := get_g h_i
   have hcs : (gs.take (i + 1)).countP mB = (gs.take i).countP mB + if mB gs[i] = true then 1 else 0 := by
    rw [take_snoc h_i, List.countP_append]
    simp [List.countP_cons]
   have hal : (gs.take (i + 1)).all okB = ((gs.take i).all okB && okB gs[i]) := by
    rw [take_snoc h_i, List.all_append]; simp
   have hkn := kind42 (G := GG) gs[i].k
   have hex : okB gs[i] = false → gs.all okB = false := fun q => all_false h_i q
   have hcb : (gs.take i).countP mB ≤ i := by
    have := List.countP_le_length (p := mB) (l := gs.take i)
    rw [List.length_take] at this; omega
   rw [I_i] at hal
   rw [show okB gs[i] = (mB gs[i] || kindB gs[i].k) from rfl] at hal hex
   generalize gs[i] = g at hge hgg hcs hal hkn hex
   obtain ⟨k, ws, ug, gb, gi⟩ := g
   generalize mB ⟨k, ws, ug, gb, gi⟩ = m at hge hcs hal hex
   generalize (gs.take i).countP mB = n at hcs hcb ⊢
   have hia : iadd .i64 (n : Int) 1 = ((n + 1 : Nat) : Int) := iadd_nat (b := 1) (by omega)
   have hge : m = decide (k ≥ 13) := hge
   conv => whnf
   repeat (refine LookP.mk _ rfl ?_; conv => whnf)
   intro t ht
   cases t
   ·exfalso; first | (simp at ht; done) | (simp at ht; omega)
   conv => whnf
   repeat' first | ((first | refine LookP.mk _ (by first | rfl | exact hgg) ?_ | refine ShlP.mk _ (by first | (simp only [List.set, over, List.take, List.drop, List.append_eq, List.nil_append, List.cons_append, List.length]; rfl) | rfl) ?_ | refine And.intro (by first | assumption | exact ⟨by kernel_rfl, rfl⟩ | decide | omega) ?_ | fail); conv => whnf) | (refine pc_useB hkn ?_) | (refine HpP.force ?_; conv => whnf) | (intro t ht; cases t <;> conv => whnf)
   ·rename_i q1
    have hm : m = false := hge.trans q1
    subst hm
    rw [alR_e (by decide) (al7 (.inr (hex (by show (false || kindB k) = false; exact ht))))]
    exact fin (.d _)
   ·rename_i q1
    have hm : m = false := hge.trans q1
    subst hm
    refine N_i _ ?_ ?_
    ·(rw [hal]; exact (show kindB k = true from ht))
    ·refine keep_env (by first | exact Nat.zero_le _ | exact Nat.le_of_ble_eq_true rfl) ?_ ?_ trivial
     ·repeat' first | exact trivial | refine ⟨⟨by first | rfl | assumption | exact congrArg (fun n => AV.d (iD n)) e_i | (rw [hcs]; rfl), rfl⟩, ?_⟩
     ·repeat' first | exact trivial | refine ⟨⟨ltB rfl, _, rfl, by first | rfl | assumption, by first | exact below1 rfl | exact below_dblk _ _ _ | exact below_arr rfl⟩, ?_⟩
   ·have hm : m = true := hge.trans ht
    subst hm
    refine N_i _ ?_ ?_
    ·(rw [hal]; rfl)
    ·refine keep_env (by first | exact Nat.zero_le _ | exact Nat.le_of_ble_eq_true rfl) ?_ ?_ trivial
     ·repeat' first | exact trivial | refine ⟨⟨by first | rfl | assumption | exact congrArg (fun n => AV.d (iD n)) e_i | (rw [hcs, hia]; rfl), rfl⟩, ?_⟩
     ·repeat' first | exact trivial | refine ⟨⟨ltB rfl, _, rfl, by first | rfl | assumption, by first | exact below1 rfl | exact below_dblk _ _ _ | exact below_arr rfl⟩, ?_⟩
  ·intro A_last I_last
   rw [List.take_length] at I_last ⊢
   have I_last : gs.all okB = true := I_last
   conv => whnf
   repeat (refine LookP.mk _ rfl ?_; conv => whnf)
   intro t ht
   cases t
   rotate_left
   ·exfalso; first | (simp at ht; done) | (simp at ht; omega)
   conv => whnf
   repeat' first | ((first | refine LookP.mk _ rfl ?_ | refine ShlP.mk _ (by first | (simp only [List.set, over, List.take, List.drop, List.append_eq, List.nil_append, List.cons_append, List.length]; rfl) | rfl) ?_ | refine HpP.force ?_); conv => whnf) | (intro t ht; cases t <;> conv => whnf)
   ·have hcn : wa.length = gs.countP mB := by simp at ht; omega
    refine for_use pok (fun i => ⟨[(2, .d (intsD wa u)), (3, .ptr 0 3 0 0), (4, .ptr 1 2 0 0), (6, .ptr 2 2 0 0), (12, .d (iD i))], [(0, some (.arr 3 [[.d (iD w), .d (iD b), .d (gatesD gs ct)]])), (1, some (.arr 2 [[.d (iD w), .d (rowsD l t)]])), (2, some (.arr 2 [[.d (iD 0), .d (.sl [] true)]]))], 3⟩) (wa.length) (fun i => (wa.take i).all (fun x => !offB x 0 1) = true) (rfl) ?_ (by kernel_rfl) ?_ ?_
    ·refine keep_env (by first | exact Nat.zero_le _ | exact Nat.le_of_ble_eq_true rfl) ?_ ?_ trivial
     ·repeat' first | exact trivial | refine ⟨⟨by first | rfl | assumption, rfl⟩, ?_⟩
     ·repeat' first | exact trivial | refine ⟨⟨ltB rfl, _, rfl, by first | rfl | assumption, by first | exact below1 rfl | exact below_dblk _ _ _ | exact below_arr rfl⟩, ?_⟩
    ·intro i A_i h_i I_i N_i
     have e_i : iadd .i64 (i : Int) 1 = ((i + 1 : Nat) : Int) := iadd_nat (by first | omega | (simp at *; omega))
     have hgw := want_get h_i
     have hof := off88 (G := GG) (wa.getD i 0) 0 1
     have hgd : wa.getD i 0 = wa[i] := by rw [List.getD_eq_getElem?_getD, List.getElem?_eq_getElem h_i]; rfl
     have hex : (!offB wa[i] 0 1) = false → wa.all (fun x => !offB x 0 1) = false := fun q => all_false h_i q
     have hal : (wa.take (i + 1)).all (fun x => !offB x 0 1) = ((wa.take i).all (fun x => !offB x 0 1) && !offB wa[i] 0 1) := by
      rw [take_snoc h_i, List.all_append]; simp
     rw [I_i] at hal
     rw [← hgd] at hex hal
     generalize wa.getD i 0 = x at hgw hof hex hal
     conv => whnf
     repeat (refine LookP.mk _ rfl ?_; conv => whnf)
     intro t ht
     cases t
     ·exfalso; first | (simp at ht; done) | (simp at ht; omega)
     conv => whnf
     repeat' first | ((first | refine LookP.mk _ (by first | rfl | exact hgw) ?_ | refine ShlP.mk _ (by first | (simp only [List.set, over, List.take, List.drop, List.append_eq, List.nil_append, List.cons_append, List.length]; rfl) | rfl) ?_ | refine And.intro (by first | assumption | exact ⟨by kernel_rfl, rfl⟩ | decide | omega) ?_ | fail); conv => whnf) | (refine pc_useB hof ?_) | (refine HpP.force ?_; conv => whnf) | (intro t ht; cases t <;> conv => whnf)
     ·refine N_i _ ?_ ?_
      ·(rw [hal, show offB x 0 1 = false from ht]; rfl)
      ·refine keep_env (by first | exact Nat.zero_le _ | exact Nat.le_of_ble_eq_true rfl) ?_ ?_ trivial
       ·repeat' first | exact trivial | refine ⟨⟨by first | rfl | assumption | exact congrArg (fun n => AV.d (iD n)) e_i, rfl⟩, ?_⟩
       ·repeat' first | exact trivial | refine ⟨⟨ltB rfl, _, rfl, by first | rfl | assumption, by first | exact below1 rfl | exact below_dblk _ _ _ | exact below_arr rfl⟩, ?_⟩
     ·rw [alR_e (by decide) (al3 I_last hcn (hex (by rw [show offB x 0 1 = true from ht]; rfl)))]
      exact fin (.d _)
    ·intro A_last2 I_last2
     rw [List.take_length] at I_last2
     conv => whnf
     repeat (refine LookP.mk _ rfl ?_; conv => whnf)
     intro t ht
     cases t
     rotate_left
     ·exfalso; first | (simp at ht; done) | (simp at ht; omega)
     conv => whnf
     repeat' first | ((first | refine LookP.mk _ rfl ?_ | refine ShlP.mk _ (by first | (simp only [List.set, over, List.take, List.drop, List.append_eq, List.nil_append, List.cons_append, List.length]; rfl) | rfl) ?_ | refine And.intro (by first | exact ⟨hb.1, rfl, by show 8 * b ≤ _; omega, by decide, by decide⟩ | assumption | exact ⟨by kernel_rfl, rfl⟩ | decide | omega) ?_ | refine pc_use c26 ?_ | refine HpP.force ?_); conv => whnf)
     have hA := okW_a hC I_last hcn I_last2
     refine for_use pok (fun i => ⟨[(2, .d (intsD wa u)), (3, .ptr 0 3 0 0), (6, .ptr 2 2 0 0), (13, .sl 3 1 0 b b true), (14, .ptr 4 2 0 0), (15, .d (iD (runA w wa b l (gs.take i)).k)), (16, .d (iD (runA w wa b l (gs.take i)).c)), (17, .d (iD i))], [(0, some (.arr 3 [[.d (iD w), .d (iD b), .d (gatesD gs ct)]])), (2, some (.arr 2 [[.d (iD 0), .d (.sl [] true)]])), (3, some (dblk 1 (nums (runA w wa b l (gs.take i)).bs))), (4, some (.arr 2 [[.d (iD w), .d (rowsD (runA w wa b l (gs.take i)).r false)]]))], 5⟩) (gs.length) (fun i => ∀ j (h : j < gs.length), j < i → badA w wa b l gs j gs[j] = false) (fun j _ h => absurd h (Nat.not_lt_zero j)) ?_ (by kernel_rfl) ?_ ?_
     ·refine keep_env (by first | exact Nat.zero_le _ | exact Nat.le_of_ble_eq_true rfl) ?_ ?_ trivial
      ·repeat' first | exact trivial | refine ⟨⟨by first | rfl | assumption, rfl⟩, ?_⟩
      ·repeat' first | exact trivial | refine ⟨⟨ltB rfl, _, rfl, by first | rfl | assumption | exact congrArg some (show Blk.arr 1 (List.replicate b [AV.d (iD 0)]) = dblk 1 (nums (List.replicate b 0)) from by unfold dblk nums; simp), by first | exact below1 rfl | exact below_dblk _ _ _ | exact below_arr rfl⟩, ?_⟩
     ·intro i A_i h_i I_i N_i
      have e_i : iadd .i64 (i : Int) 1 = ((i + 1 : Nat) : Int) := iadd_nat (by first | omega | (simp at *; omega))
      have hI := runA_inv hA hs i (by omega) I_i
      have hgi := hgc _ (List.getElem_mem h_i)
      have hkd := hA.kd _ (List.getElem_mem h_i)
      have hgg : (gs.map Gt.l)[(i : Int).toNat]? = some (gs[i]).l := get_g h_i
      have hsn := runA_snoc (w := w) (wa := wa) (b := b) (l := l) h_i
      have hbd : badA w wa b l gs i gs[i] = (mB gs[i] && decide (expR w (runA w wa b l (gs.take i)).r (pA w wa (runA w wa b l (gs.take i)) gs[i]) = -1)) := rfl
      have hNx : badA w wa b l gs i gs[i] = false → ∀ j (h : j < gs.length), j < i + 1 → badA w wa b l gs j gs[j] = false := fun q j h hj => by
       rcases Nat.lt_or_ge j i with c | c
       ·exact I_i j h c
       ·obtain rfl : j = i := by omega
        exact q
      have hE6 : badA w wa b l gs i gs[i] = true → alE w l w b gs wa = 6 := fun q => al6 I_last hcn I_last2 h_i q
      have hkl : mB gs[i] = true → (runA w wa b l (gs.take i)).k < wa.length := fun hm => by rw [hI.k, hcn]; exact cnt_le h_i hm
      rw [hbd] at hNx hE6
      clear hbd
      have hkk : (runA w wa b l (gs.take i)).k ≤ i := by
       rw [hI.k]
       have := List.countP_le_length (p := mB) (l := gs.take i)
       rw [List.length_take] at this; omega
      generalize runA w wa b l (gs.take i) = s at hI hsn hNx hE6 hkl hkk ⊢
      generalize runA w wa b l (gs.take (i + 1)) = s' at hsn N_i
      generalize gs[i] = g at hgi hkd hgg hsn hNx hE6 hkl
      cases hm : mB g with
      | false =>
       rw [hm] at hNx
       have hk : kindB g.k = true := hkd.resolve_left (by simp [hm])
       have hlt : g.k < 13 := by have := of_decide_eq_true hk; omega
       have hst := step_off (w := w) (wa := wa) (s := s) hm
       obtain ⟨b1, b2, b3, b4⟩ := bitE_ok (gchk_ok hgi).2.2.2.2
       have hgb0 := b4 (by omega)
       have hg0 := hgi
       obtain ⟨k, ws, ug, gb, gi⟩ := g
       have ha := apply44 (G := GG) hw ⟨k, ws, ug, gb, 0⟩ (gchk_bits hk hg0) hk s.r false (by have := hI.ok.len; omega) (sok_len hI.ok) hI.ok.vl
       have hga : appG w ⟨k, ws, ug, gb, 0⟩ s.r = appG w ⟨k, ws, ug, gb, gi⟩ s.r := rfl
       rw [hga] at ha
       dsimp only at hgb0 hlt b1
       subst hgb0
       have hbl := hI.bl
       obtain ⟨r, bs, c, kk, f⟩ := s
       rw [hst] at hsn
       dsimp only at ha hsn hbl ⊢
       generalize appG w ⟨k, ws, ug, 0, gi⟩ r = r' at ha hsn
       by_cases hi0 : gi = 0
       ·subst hi0
        rw [show onB ⟨r, bs, c, kk, f⟩ ⟨k, ws, ug, 0, 0⟩ = true from rfl, if_pos rfl] at hsn
        subst hsn
        conv => whnf
        repeat (refine LookP.mk _ rfl ?_; conv => whnf)
        intro t ht
        cases t
        ·exfalso; first | (simp at ht; done) | (simp at ht; omega)
        conv => whnf
        repeat' first | ((first | refine LookP.mk _ (by first | rfl | exact hgg) ?_ | refine ShlP.mk _ (by first | (simp only [List.set, over, List.take, List.drop, List.append_eq, List.nil_append, List.cons_append, List.length]; rfl) | rfl) ?_ | refine And.intro (by first | assumption | exact ⟨by kernel_rfl, rfl⟩ | decide | omega) ?_ | refine beqT1 ?_ | refine pc_use ha ?_ | refine HpP.force ?_); conv => whnf) | (intro t ht; cases t <;> conv => whnf)
        ·exfalso; simp at ht; omega
        ·refine N_i _ ?_ ?_
         ·exact hNx rfl
         ·refine keep_env (by first | exact Nat.zero_le _ | exact Nat.le_of_ble_eq_true rfl) ?_ ?_ trivial
          ·repeat' first | exact trivial | refine ⟨⟨by first | rfl | assumption | exact congrArg (fun n => AV.d (iD n)) e_i, rfl⟩, ?_⟩
          ·repeat' first | exact trivial | refine ⟨⟨ltB rfl, _, rfl, by first | rfl | assumption, by first | exact below1 rfl | exact below_dblk _ _ _ | exact below_arr rfl⟩, ?_⟩
       ·obtain ⟨m, rfl⟩ : ∃ m : Nat, gi = ((m + 1 : Nat) : Int) := ⟨(gi - 1).toNat, by omega⟩
        have hsb : isub .i64 ((m + 1 : Nat) : Int) 1 = ((m : Nat) : Int) := isub_nat (b := 1) (by omega) (by omega)
        have hmb : m < bs.length := by omega
        have hgb := get_is hmb
        have hon : onB ⟨r, bs, c, kk, f⟩ ⟨k, ws, ug, 0, ((m + 1 : Nat) : Int)⟩ = decide (bs.getD m 0 = 1) := by
         unfold onB
         rw [decide_eq_false (show ¬ ((m + 1 : Nat) : Int) = 0 by omega), show (((m + 1 : Nat) : Int) - 1).toNat = m by omega]; rfl
        rw [hon] at hsn
        generalize bs.getD m 0 = x at hgb hsn
        conv => whnf
        repeat (refine LookP.mk _ rfl ?_; conv => whnf)
        intro t ht
        cases t
        ·exfalso; first | (simp at ht; done) | (simp at ht; omega)
        conv => whnf
        repeat' first | ((first | refine LookP.mk _ (by first | rfl | exact hgg | exact hgb) ?_ | refine ShlP.mk _ (by first | (simp only [List.set, over, List.take, List.drop, List.append_eq, List.nil_append, List.cons_append, List.length]; rfl) | rfl) ?_ | refine And.intro (by first | assumption | exact ⟨by kernel_rfl, rfl⟩ | decide | omega) ?_ | rw [hsb] | refine pc_use ha ?_ | refine HpP.force ?_); conv => whnf) | (intro t ht; cases t <;> conv => whnf)
        all_goals first | (exfalso; simp at ht; omega) | skip
        ·rw [decide_eq_false (show ¬ x = 1 from fun e => by subst e; cases ht), if_neg (by decide)] at hsn
         subst hsn
         refine N_i _ ?_ ?_
         ·exact hNx rfl
         ·refine keep_env (by first | exact Nat.zero_le _ | exact Nat.le_of_ble_eq_true rfl) ?_ ?_ trivial
          ·repeat' first | exact trivial | refine ⟨⟨by first | rfl | assumption | exact congrArg (fun n => AV.d (iD n)) e_i, rfl⟩, ?_⟩
          ·repeat' first | exact trivial | refine ⟨⟨ltB rfl, _, rfl, by first | rfl | assumption, by first | exact below1 rfl | exact below_dblk _ _ _ | exact below_arr rfl⟩, ?_⟩
        ·rw [decide_eq_true (show x = 1 from eq_of_beq ht), if_pos rfl] at hsn
         subst hsn
         refine N_i _ ?_ ?_
         ·exact hNx rfl
         ·refine keep_env (by first | exact Nat.zero_le _ | exact Nat.le_of_ble_eq_true rfl) ?_ ?_ trivial
          ·repeat' first | exact trivial | refine ⟨⟨by first | rfl | assumption | exact congrArg (fun n => AV.d (iD n)) e_i, rfl⟩, ?_⟩
          ·repeat' first | exact trivial | refine ⟨⟨ltB rfl, _, rfl, by first | rfl | assumption, by first | exact below1 rfl | exact below_dblk _ _ _ | exact below_arr rfl⟩, ?_⟩
      | true =>
       rw [hm] at hNx hE6
       have hkl := hkl hm
       obtain ⟨hws, hn, hi0⟩ := mB_wire hgi hm
       obtain ⟨w1, w2, w3⟩ := want_at hA.bit s.k
       have hwg := want_get hkl
       rw [← w3] at hwg
       have hib : iadd .i64 (s.k : Int) 1 = ((s.k + 1 : Nat) : Int) := iadd_nat (b := 1) (by omega)
       have hrc := hI.c
       have hbl := hI.bl
       rcases mea53 hI hgi hm hA.bit with ⟨hx, hc⟩ | ⟨hx, ch, hch, hcc, hc⟩
       ·rw [alR_e (by decide) (hE6 (by rw [hx]; rfl))]
        have hk13 : ¬ g.k < 13 := by have := of_decide_eq_true hm; omega
        clear hE6 hNx hx hsn hI w1 w2 w3 hkd hgi hm hib
        generalize (wa.getD s.k 0).toNat = o at *
        generalize gA g = n at *
        obtain ⟨k, ws, ug, gb, gi⟩ := g
        obtain ⟨r, bs, c, kk, f⟩ := s
        dsimp only at hws hc hwg hi0 hk13 ⊢
        subst hws
        conv => whnf
        repeat (refine LookP.mk _ rfl ?_; conv => whnf)
        intro t ht
        cases t
        ·exfalso; first | (simp at ht; done) | (simp at ht; omega)
        conv => whnf
        repeat' first | ((first | refine LookP.mk _ (by first | rfl | exact hgg | exact hwg) ?_ | refine ShlP.mk _ (by first | (simp only [List.set, over, List.take, List.drop, List.append_eq, List.nil_append, List.cons_append, List.length]; rfl) | rfl) ?_ | refine And.intro (by first | assumption | exact ⟨by kernel_rfl, rfl⟩ | decide | omega) ?_ | refine decF hk13 ?_ | refine pc_head hc ?_ | refine bneF (a := 6) (b := 0) (by decide) ?_ | refine HpP.force ?_); conv => whnf)
        all_goals first | exact fin (.d _) | (exfalso; simp at ht; done)
       ·have hNx2 := hNx (by rw [decide_eq_false hx]; rfl)
        have hia : iadd .i64 (s.c : Int) (ch : Int) = ((s.c + ch : Nat) : Int) := iadd_nat (by omega)
        rcases (of_decide_eq_true hm : g.k = 13 ∨ g.k = 14) with hk | hk
        ·have hbb := mB_bit hgi hk
         rw [step_13 hk, hcc, ← w3] at hsn
         clear hE6 hNx hx hI w1 hkd hgi hm hcc
         generalize rA w wa s g = R at hsn hc
         generalize (wa.getD s.k 0).toNat = o at *
         generalize gA g = n at *
         obtain ⟨k, ws, ug, gb, gi⟩ := g
         obtain ⟨r, bs, c, kk, f⟩ := s
         dsimp only at hk hws hi0 hbb hsn hc hwg hib hia ⊢
         subst hk hws hi0
         have a13 : ¬ (13 : Int) < 13 := by decide
         obtain ⟨m, rfl⟩ : ∃ m : Nat, gb = m := ⟨gb.toNat, by omega⟩
         have hmb : m < bs.length := by dsimp only at hbl; omega
         have hgb := get_is hmb
         subst hsn
         conv => whnf
         repeat (refine LookP.mk _ rfl ?_; conv => whnf)
         intro t ht
         cases t
         ·exfalso; first | (simp at ht; done) | (simp at ht; omega)
         conv => whnf
         repeat' first | ((first | refine LookP.mk _ (by first | rfl | exact hgg | exact hwg | exact hgb) ?_ | refine ShlP.mk _ (by first | exact set_is (x := o) | (simp only [List.set, over, List.take, List.drop, List.append_eq, List.nil_append, List.cons_append, List.length]; rfl) | rfl) ?_ | refine And.intro (by first | assumption | exact ⟨by kernel_rfl, rfl⟩ | decide | omega) ?_ | refine decF (a13 : ¬ (13 : Int) < 13) ?_ | refine pc_head hc ?_ | refine beqT1 ?_ | refine HpP.force ?_); conv => whnf)
         refine N_i _ ?_ ?_
         ·exact hNx2
         ·refine keep_env (by first | exact Nat.zero_le _ | exact Nat.le_of_ble_eq_true rfl) ?_ ?_ trivial
          ·repeat' first | exact trivial | refine ⟨⟨by first | rfl | assumption | exact congrArg (fun n => AV.d (iD n)) e_i | exact congrArg (fun n => AV.d (iD n)) hib | exact congrArg (fun n => AV.d (iD n)) hia, rfl⟩, ?_⟩
          ·repeat' first | exact trivial | refine ⟨⟨ltB rfl, _, rfl, by first | rfl | assumption, by first | exact below1 rfl | exact below_dblk _ _ _ | exact below_arr rfl⟩, ?_⟩
        ·obtain ⟨x1, x2⟩ := xG_ok hn
         obtain ⟨r1, r2⟩ := rA_ok hI hgi hm hA.bit hx
         have ha := apply44 (G := GG) hw ⟨1, [(gA g : Int)], g.u, 0, 0⟩ x1 x2 (rA w wa s g) false (by have := r1.len; omega) (sok_len r1) r1.vl
         have hga : appG w ⟨1, [(gA g : Int)], g.u, 0, 0⟩ (rA w wa s g) = appG w (xG (gA g)) (rA w wa s g) := rfl
         rw [hga] at ha
         rw [step_14 hk, hcc] at hsn
         clear hE6 hNx hx hI w1 hkd hgi hm hcc x1 x2 r1 r2 hga
         generalize appG w (xG (gA g)) (rA w wa s g) = R2 at hsn ha
         generalize rA w wa s g = R at hsn hc ha
         generalize (wa.getD s.k 0).toNat = o at *
         generalize gA g = n at *
         obtain ⟨k, ws, ug, gb, gi⟩ := g
         obtain ⟨r, bs, c, kk, f⟩ := s
         dsimp only at hk hws hi0 hsn hc ha hwg hib hia ⊢
         subst hk hws hi0
         have a14 : ¬ (14 : Int) < 13 := by decide
         by_cases ho1 : o = 1
         ·subst ho1
          rw [if_pos rfl] at hsn
          subst hsn
          conv => whnf
          repeat (refine LookP.mk _ rfl ?_; conv => whnf)
          intro t ht
          cases t
          ·exfalso; first | (simp at ht; done) | (simp at ht; omega)
          conv => whnf
          repeat' first | ((first | refine LookP.mk _ (by first | rfl | exact hgg | exact hwg) ?_ | refine ShlP.mk _ (by first | (simp only [List.set, over, List.take, List.drop, List.append_eq, List.nil_append, List.cons_append, List.length]; rfl) | rfl) ?_ | refine And.intro (by first | assumption | exact ⟨by kernel_rfl, rfl⟩ | decide | omega) ?_ | refine decF (a14 : ¬ (14 : Int) < 13) ?_ | refine pc_head hc ?_ | refine beqT1 ?_ | refine pc_use ha ?_ | refine HpP.force ?_); conv => whnf)
          refine N_i _ ?_ ?_
          ·exact hNx2
          ·refine keep_env (by first | exact Nat.zero_le _ | exact Nat.le_of_ble_eq_true rfl) ?_ ?_ trivial
           ·repeat' first | exact trivial | refine ⟨⟨by first | rfl | assumption | exact congrArg (fun n => AV.d (iD n)) e_i | exact congrArg (fun n => AV.d (iD n)) hib | exact congrArg (fun n => AV.d (iD n)) hia, rfl⟩, ?_⟩
           ·repeat' first | exact trivial | refine ⟨⟨ltB rfl, _, rfl, by first | rfl | assumption, by first | exact below1 rfl | exact below_dblk _ _ _ | exact below_arr rfl⟩, ?_⟩
         ·rw [if_neg ho1] at hsn
          have ho0 : (o : Int) ≠ 1 := by omega
          subst hsn
          conv => whnf
          repeat (refine LookP.mk _ rfl ?_; conv => whnf)
          intro t ht
          cases t
          ·exfalso; first | (simp at ht; done) | (simp at ht; omega)
          conv => whnf
          repeat' first | ((first | refine LookP.mk _ (by first | rfl | exact hgg | exact hwg) ?_ | refine ShlP.mk _ (by first | (simp only [List.set, over, List.take, List.drop, List.append_eq, List.nil_append, List.cons_append, List.length]; rfl) | rfl) ?_ | refine And.intro (by first | assumption | exact ⟨by kernel_rfl, rfl⟩ | decide | omega) ?_ | refine decF (a14 : ¬ (14 : Int) < 13) ?_ | refine pc_head hc ?_ | refine beqF2 ho0 ?_ | refine HpP.force ?_); conv => whnf)
          refine N_i _ ?_ ?_
          ·exact hNx2
          ·refine keep_env (by first | exact Nat.zero_le _ | exact Nat.le_of_ble_eq_true rfl) ?_ ?_ trivial
           ·repeat' first | exact trivial | refine ⟨⟨by first | rfl | assumption | exact congrArg (fun n => AV.d (iD n)) e_i | exact congrArg (fun n => AV.d (iD n)) hib | exact congrArg (fun n => AV.d (iD n)) hia, rfl⟩, ?_⟩
           ·repeat' first | exact trivial | refine ⟨⟨ltB rfl, _, rfl, by first | rfl | assumption, by first | exact below1 rfl | exact below_dblk _ _ _ | exact below_arr rfl⟩, ?_⟩
     ·intro A_last3 I_last3
      rw [List.take_length]
      have hE0 := al0 I_last hcn I_last2 I_last3
      have hR : alR w l w b gs wa = .tup [stD w (runA w wa b l gs).r false, intsD (runA w wa b l gs).bs true, iD (runA w wa b l gs).c, iD 0] := by unfold alR; rw [hE0, if_pos rfl]
      have hbl := (runA_inv hA hs gs.length (Nat.le_refl _) I_last3).bl
      rw [List.take_length] at hbl
      rw [hR]
      generalize runA w wa b l gs = s at hbl ⊢
      conv => whnf
      repeat (refine LookP.mk _ rfl ?_; conv => whnf)
      intro t ht
      cases t
      rotate_left
      ·exfalso; first | (simp at ht; done) | (simp at ht; omega)
      conv => whnf
      repeat' first | ((first | refine LookP.mk _ rfl ?_ | refine ShlP.mk _ (by first | (simp only [List.set, over, List.take, List.drop, List.append_eq, List.nil_append, List.cons_append, List.length]; rfl) | rfl) ?_ | refine HpP.force ?_); conv => whnf)
      exact fin (asD_tup4 (.d _) (asD_own rfl (by simp; omega)) (.d _) (.d _))
   ·have hcn : wa.length ≠ gs.countP mB := by simp at ht; omega
    rw [alR_e (by decide) (al2 I_last hcn)]
    exact fin (.d _)
 ·have hcw : cw ≠ w := by simpa using ht
  rw [alR_e (by decide) (al7 (.inl hcw))]
  exact fin (.d _)
end Go.Tz
namespace Go.Tz
open Go Go.AL Go.Proofs Go.Ma
theorem chk130 : chkFn Tryz.f130 = true := by kernel_rfl
theorem meas130 (g : Gt) : PC Pr GG 130 ([] ++ [g.d] ++ []) (.bool (mB g)) := by
 obtain ⟨k, ws, u, b, i⟩ := g
 show PC Pr GG 130 [(Gt.mk k ws u b i).d] _
 refine pc_walk pok Tryz.func130 chk130 ?_
 conv => whnf
 repeat' first | (refine LookP.mk _ rfl ?_; conv => whnf) | (intro t ht; cases t <;> conv => whnf)
 all_goals refine fin ?_
 all_goals refine fiB ?_
 all_goals (unfold mB; simp at *; try omega)
theorem chk133 : chkFn Tryz.f133 = true := by kernel_rfl
theorem kind133 (g : Gt) : PC Pr GG 133 [g.d] (.bool (kindB g.k)) := by
 obtain ⟨k, ws, u, b, i⟩ := g
 refine pc_walk pok Tryz.func133 chk133 ?_
 conv => whnf
 repeat' first | (refine LookP.mk _ rfl ?_; conv => whnf) | (intro t ht; cases t <;> conv => whnf)
 all_goals refine fin ?_
 all_goals refine fiB ?_
 all_goals (unfold kindB; simp at *; try omega)
theorem chk132 : chkFn Tryz.f132 = true := by kernel_rfl
theorem ok132 (g : Gt) : PC Pr GG 132 ([] ++ [g.d] ++ [.rop [.fn 130 [] []] 0]) (.bool (okB g)) := by
 have c1 := meas130 g
 have c2 := kind133 g
 have e : okB g = (mB g || kindB g.k) := rfl
 rw [e]
 generalize mB g = m at c1 ⊢
 generalize kindB g.k = n at c2 ⊢
 show PC Pr GG 132 [g.d, .rop [.fn 130 [] []] 0] _
 refine pc_walk pok Tryz.func132 chk132 ?_
 conv => whnf
 repeat' first | ((first | refine LookP.mk _ rfl ?_ | refine pc_use3B c1 rfl ?_); conv => whnf) | (refine pc_useB c2 ?_) | (intro t ht; cases t <;> conv => whnf)
 all_goals refine fin ?_
 all_goals refine fiB ?_
 all_goals simp_all
theorem chk135 : chkFn Tryz.f135 = true := by kernel_rfl
theorem bit135 (x : Int) : PC Pr GG 135 ([] ++ [iD x] ++ []) (.bool (!offB x 0 1)) := by
 show PC Pr GG 135 [iD x] _
 refine pc_walk pok Tryz.func135 chk135 ?_
 conv => whnf
 repeat' first | (intro t ht; cases t <;> conv => whnf)
 all_goals refine fin ?_
 all_goals refine fiB ?_
 all_goals (unfold offB; simp at *; try omega)
end Go.Tz
