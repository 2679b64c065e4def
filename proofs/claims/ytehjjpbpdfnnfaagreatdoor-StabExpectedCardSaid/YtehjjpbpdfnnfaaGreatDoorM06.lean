import Derived.Test.YtehjjpbpdfnnfaaGreatDoorM05
import Derived.Shelf.Spec.SlicesInsert
import Derived.Shelf.Spec.SlicesInsertGrow
namespace Go.Tz
open Go Go.AL Go.Proofs Go.Ma
variable {G : Nat → Option (List D)}
theorem does213o {w n l : Nat} {q : Ps} {K : Int} {ws : List Int} {u : Bool} {b i : Int} (hq : q.w = w) (hws : ws.length ≤ 1000) (hj : idxI (fun k => decide ((n : Int) = k)) ws = -1) :
  PC Pr G 213 [iD n, iD l, .rop (Gt.mk K ws u b i).l 0, .rop q.l 0] (oneS w n l).d := by
 obtain ⟨qw, qx, qz, qp⟩ := q
 obtain rfl : qw = w := hq
 have h99 := idx99 (G := G) ws u (n : Int) (by omega)
 rw [hj] at h99
 have h1 := one212 (G := G) w n l (Int.natCast_nonneg _)
 generalize oneS w n l = m at h1 ⊢
 refine pc_walk pok Tryz.func213 chk213 ?_
 conv => whnf
 repeat' first | ((first | refine LookP.mk _ rfl ?_ | refine ShlP.mk _ (by first | (simp only [List.set, over, List.take, List.drop, List.append_eq, List.nil_append, List.cons_append, List.length]; rfl) | rfl) ?_ | refine pc_use h99 ?_ | refine pc_use h1 ?_ | refine HpP.force ?_); conv => whnf) | (intro t ht; cases t <;> conv => whnf)
 all_goals first | exact fin rfl | (exfalso; simp at ht; done)
theorem idx_one (n a : Nat) : idxI (fun k => decide ((n : Int) = k)) [(a : Int)] = if n = a then 0 else -1 := by
 unfold idxI
 by_cases h : n = a
 ·simp [h]
 ·have : ¬ (n : Int) = a := by omega
  simp [h, this]
theorem idx_two (n a b : Nat) : idxI (fun k => decide ((n : Int) = k)) [(a : Int), (b : Int)] = if n = a then 0 else if n = b then 1 else -1 := by
 unfold idxI
 by_cases h : n = a
 ·simp [h, List.findIdx?_cons]
 ·have : ¬ (n : Int) = a := by omega
  by_cases h2 : n = b
  ·simp [h2, List.findIdx?_cons] at h this ⊢
   simp [h, this]
  ·have h3 : ¬ (n : Int) = b := by omega
   simp [h, h2, this, h3, List.findIdx?_cons]
theorem does213 {w k a b n l : Nat} {q : Ps} {K : Int} (hK : K = k) {u : Bool} {bb i : Int} (hw : 1 ≤ w ∧ w ≤ 12) (hg : gR w k a b) (hq : q.w = w) (hn : n < w) (hl : l = 1 ∨ l = 2 ∨ l = 3) :
  PC Pr G 213 [iD n, iD l, .rop (Gt.mk K (wsOf k a b) u bb i).l 0, .rop q.l 0] (imgS w k a b n l).d := by
 have key : ∀ {px pz : Ps} {ws : List Int} {j : Int}, ws.length ≤ 1000 → idxI (fun k => decide ((n : Int) = k)) ws = j → 0 ≤ j → (nf px = gE k a b (eL n true false) ∧ Vl w px) → (nf pz = gE k a b (eL n false true) ∧ Vl w pz) →
   PC Pr G 214 [iD w, (Gt.mk K ws u bb i).d, iD j] (.tup [px.d, pz.d]) → PC Pr G 213 [iD n, iD l, .rop (Gt.mk K ws u bb i).l 0, .rop q.l 0] (imgS w k a b n l).d := by
  intro px pz ws j h1 h2 h3 h4 h5 h6
  have h := does213w (u := u) (b := bb) (i := i) hw hq hl h1 h2 h3 h4.2 h6
  obtain ⟨e1, e2, e3⟩ := img_by hw.2 hg hn h4 h5
  rcases hl with rfl | rfl | rfl
  ·rw [if_pos rfl, e1] at h; exact h
  ·rw [if_neg (by decide), if_neg (by decide), e3] at h; exact h
  ·rw [if_neg (by decide), if_pos rfl, e2] at h; exact h
 have out : ∀ {ws : List Int}, ws.length ≤ 1000 → idxI (fun k => decide ((n : Int) = k)) ws = -1 → n ≠ a → (9 ≤ k → n ≠ b) → PC Pr G 213 [iD n, iD l, .rop (Gt.mk K ws u bb i).l 0, .rop q.l 0] (imgS w k a b n l).d := by
  intro ws h1 h2 h3 h4
  have h := does213o (G := G) (w := w) (n := n) (l := l) (K := K) (u := u) (b := bb) (i := i) hq h1 h2
  rw [img_out hw.2 hg hn (by omega) h3 h4] at h
  exact h
 rcases hg with ⟨k1, k2, ha⟩ | ⟨k1, k2, ha, hb, hab⟩
 ·have e : wsOf k a b = [(a : Int)] := if_pos k2
  rw [e]
  by_cases h : n = a
  ·subst h
   obtain ⟨i1, i2⟩ := im1_nf (b := b) hw.2 k1 k2 ha
   exact key (by simp) (by rw [idx_one, if_pos rfl]) (Int.le_refl _) i1 i2 (images1 hK k1 k2 u bb i)
  ·exact out (by simp) (by rw [idx_one, if_neg h]) h (by omega)
 ·have e : wsOf k a b = [(a : Int), (b : Int)] := if_neg (by omega)
  rw [e]
  obtain ⟨⟨i1, i2⟩, i3, i4⟩ := im2_nf hw.2 k1 k2 ha hb hab
  by_cases h : n = a
  ·subst h
   exact key (by simp) (by rw [idx_two, if_pos rfl]) (Int.le_refl _) i1 i2 (images2 hw hK k1 k2 true u bb i)
  ·by_cases h2 : n = b
   ·subst h2
    exact key (j := 1) (by simp) (by rw [idx_two, if_neg h, if_pos rfl]) (by decide) i3 i4 (images2 hw hK k1 k2 false u bb i)
   ·exact out (by simp) (by rw [idx_two, if_neg h, if_neg h2]) h fun _ => h2
end Go.Tz
namespace Go.Tz
open Go Go.AL Go.Proofs Go.Ma
variable {G : Nat → Option (List D)}
def outS (w k a b X Z P n : Nat) : Ps := dec w (gE k a b (nf (ptS w X Z P n)))
theorem pt_vl {w X Z P n : Nat} (hX : X < 2 ^ w) (hZ : Z < 2 ^ w) (hP : P < 4) : Vl w (ptS w X Z P n) :=
 ⟨_, _, _, rfl, Nat.lt_of_le_of_lt (Nat.mod_le _ _) hX, Nat.lt_of_le_of_lt (Nat.mod_le _ _) hZ, hP⟩
theorem out_vl {w k a b X Z P n : Nat} (hw : w ≤ 12) (h : gR w k a b) (hX : X < 2 ^ w) (hZ : Z < 2 ^ w) (hP : P < 4) : Vl w (outS w k a b X Z P n) := thr_vl hw h (pt_vl hX hZ hP)
theorem nf_out (w k a b X Z P n : Nat) : nf (outS w k a b X Z P n) = gE k a b (nf (ptS w X Z P n)) := nf_dec w (gE_lt _ _ _ _)
theorem out_0 {w k a b X Z P : Nat} (hw : w ≤ 12) (h : gR w k a b) (hX : X < 2 ^ w) (hZ : Z < 2 ^ w) (hP : P < 4) : (⟨w, 0, 0, P⟩ : Ps) = outS w k a b X Z P 0 := by
 have e : (⟨w, 0, 0, P⟩ : Ps) = ptS w X Z P 0 := by
  unfold ptS mk
  rw [Nat.pow_zero, Nat.mod_one, Nat.mod_one]; rfl
 rw [e]
 exact nf_inj hw (pt_vl hX hZ hP) (out_vl hw h hX hZ hP) (by rw [nf_out]; exact pt_0 (gR_ok hw h))
theorem out_end {w k a b X Z P : Nat} (hX : X < 2 ^ w) (hZ : Z < 2 ^ w) : outS w k a b X Z P w = thrS w k a b (mk w X Z P) := by
 unfold outS thrS
 rw [pt_all hX hZ]
theorem out_skip {w k a b X Z P n : Nat} (hw : w ≤ 12) (h : gR w k a b) (hn : n < w) (hx : X.testBit n = false) (hz : Z.testBit n = false) : outS w k a b X Z P (n + 1) = outS w k a b X Z P n := by
 unfold outS
 rw [pt_skip (gR_ok hw h) (by omega) hx hz rfl]
theorem out_step {w k a b X Z P n l : Nat} (hw : w ≤ 12) (h : gR w k a b) (hn : n < w) (hX : X < 2 ^ w) (hZ : Z < 2 ^ w) (hP : P < 4) (hx : X.testBit n = (decide (l = 1) || decide (l = 2))) (hz : Z.testBit n = (decide (l = 2) || decide (l = 3))) :
  timS (outS w k a b X Z P n) (imgS w k a b n l) = outS w k a b X Z P (n + 1) := by
 obtain ⟨t1, t2⟩ := tim_nf hw (out_vl (n := n) hw h hX hZ hP) (img_vl (l := l) hw h hn)
 refine nf_inj hw t2 (out_vl hw h hX hZ hP) (t1.trans ?_)
 rw [nf_out, nf_out]
 have e : nf (imgS w k a b n l) = gE k a b (eL n (X.testBit n) (Z.testBit n)) := by rw [hx, hz]; exact nf_dec w (gE_lt _ _ _ _)
 rw [e]
 exact pt_step (gR_ok hw h) (by omega) rfl
theorem chk145 : chkFn Tryz.f145 = true := by kernel_rfl
theorem chk215 : chkFn Tryz.f215 = true := by kernel_rfl
theorem chk259 : chkFn Tryz.f259 = true := by kernel_rfl
theorem through145 {w k a b : Nat} {q : Ps} {K : Int} (hK : K = k) {u : Bool} {bb i : Int} (hw : 1 ≤ w ∧ w ≤ 12) (hg : gR w k a b) (hq : Vl w q) : PC Pr G 145 [q.d, (Gt.mk K (wsOf k a b) u bb i).d] (thrS w k a b q).d := by
 obtain ⟨X, Z, P, rfl, hX, hZ, hP⟩ := hq
 have hpw : (2 : Nat) ^ w ≤ 2 ^ 12 := Nat.pow_le_pow_right (by decide) hw.2
 rw [← out_end hX hZ]
 have hd : ∀ n l : Nat, n < w → (l = 1 ∨ l = 2 ∨ l = 3) → PC Pr G 213 [iD n, iD l, .rop (Gt.mk K (wsOf k a b) u bb i).l 0, .rop (mk w X Z P).l 0] (imgS w k a b n l).d := fun n l hn hl => does213 hK hw hg rfl hn hl
 have hL : ∀ n : Nat, n < w → letterI (X : Int) (Z : Int) n = if X.testBit n && Z.testBit n then 2 else if X.testBit n then 1 else if Z.testBit n then 3 else 0 := fun n hn => letter_nat (by omega) (by omega) (by omega)
 have hlt : ∀ (n : Nat) (d : D), PC Pr G 157 [.agg [iD w, iD X, iD Z, iD P, d], iD n] (iD (letterI X Z n)) := fun n d => letter157 (mk w X Z P) d n (Int.natCast_nonneg _)
 have h0 := out_0 hw.2 hg hX hZ hP
 have hO := fun n => out_vl (n := n) hw.2 hg hX hZ hP
 have hS := fun n (hn : n < w) (l : Nat) (hx : X.testBit n = (decide (l = 1) || decide (l = 2))) (hz : Z.testBit n = (decide (l = 2) || decide (l = 3))) => out_step (l := l) hw.2 hg hn hX hZ hP hx hz
 have hK0 := fun n (hn : n < w) (hx : X.testBit n = false) (hz : Z.testBit n = false) => out_skip (P := P) hw.2 hg hn hx hz
 generalize wsOf k a b = ws at hd ⊢
 generalize outS w k a b X Z P = out at h0 hO hS hK0 ⊢
 generalize imgS w k a b = img at hd hS
 refine pc_walk pok Tryz.func145 chk145 ?_
 conv => whnf
 repeat' first | ((first | refine LookP.mk _ rfl ?_ | refine ShlP.mk _ (by first | (simp only [List.set, over, List.take, List.drop, List.append_eq, List.nil_append, List.cons_append, List.length]; rfl) | rfl) ?_ | refine HpP.force ?_); conv => whnf)
 refine call_walk pok Tryz.func215 chk215 ?_
 conv => whnf
 skip
 refine call_walk pok Tryz.func259 chk259 ?_
 conv => whnf
 repeat' first | (refine LookP.mk _ rfl ?_; conv => whnf)
 refine for_use pok (fun n => ⟨[(0, .yld 7), (1, .ptr 5 5 0 0), (6, .d (iD w)), (7, .d (iD n))], [(0, some (.arr 4 [[.d (iD w), .d (iD X), .d (iD Z), .d (iD P)]])), (1, some (.arr 4 [[.d (iD K), .d (intsD ws u), .d (iD bb), .d (iD i)]])), (2, some (.arr 4 [[.d (iD 0), .d (iD 0), .d (iD 0), .d (iD 0)]])), (3, some (.arr 5 [[.d (iD w), .d (iD X), .d (iD Z), .d (iD P), .fn 213 [] [.ptr 1 4 0 0, .ptr 0 4 0 0]]])), (4, some (.arr 4 [(out n).l.map AV.d])), (5, some (.arr 5 [[.d (iD w), .d (iD X), .d (iD Z), .d (iD P), .fn 213 [] [.ptr 1 4 0 0, .ptr 0 4 0 0]]])), (6, some (.raw (.deferred (some [])))), (7, some (.lp [(18, .fn 259 [] [.ptr 5 5 0 0]), (17, .agg [.d (iD w), .d (iD X), .d (iD Z), .d (iD P), .fn 213 [] [.ptr 1 4 0 0, .ptr 0 4 0 0]]), (6, .ptr 4 4 0 0), (16, .d (.agg [iD w, iD 0, iD 0, iD P])), (15, .d (iD P)), (14, .ptr 0 4 0 3), (13, .d (iD w)), (12, .ptr 0 4 0 0), (11, .ptr 3 5 0 4), (10, .fn 213 [] [.ptr 1 4 0 0, .ptr 0 4 0 0]), (5, .ptr 3 5 0 0), (9, .d (.agg [iD w, iD X, iD Z, iD P, .nilf])), (8, .d (.agg [iD w, iD X, iD Z, iD P])), (4, .ptr 2 4 0 0), (3, .ptr 1 4 0 0), (2, .ptr 0 4 0 0), (0, .d (.agg [iD w, iD X, iD Z, iD P])), (1, .d (.agg [iD K, intsD ws u, iD bb, iD i]))] Tryz.f145.ntmps #[19] (rgA Tryz.f145) (rgB Tryz.f145) .ready none 6))], 8⟩) (w) (fun _ => True) (trivial) ?_ (by kernel_rfl) ?_ ?_
 ·refine keep_env (by first | exact Nat.zero_le _ | exact Nat.le_of_ble_eq_true rfl) ?_ ?_ trivial
  ·repeat' first | exact trivial | refine ⟨⟨by first | rfl | assumption, rfl⟩, ?_⟩
  ·repeat' first | exact trivial | refine ⟨⟨ltB rfl, _, rfl, by first | rfl | assumption | (rw [← h0]; rfl), by first | exact below1 rfl | exact below_dblk _ _ _ | exact below_arr rfl | exact trivial | exact ⟨rfl, Nat.le_of_ble_eq_true rfl⟩⟩, ?_⟩
 ·intro n A_n h_n I_n N_n
  have e_n : iadd .i64 (n : Int) 1 = ((n + 1 : Nat) : Int) := iadd_nat (by first | omega | (simp at *; omega))
  have hB : chkCode Tryz.f145.ntmps (rgB Tryz.f145) = true := by kernel_rfl
  have hOn := hO n
  have hOw := vl_w hOn
  have hl := hlt n
  have hLn := hL n h_n
  have hSn := hS n h_n
  have hKn := hK0 n h_n
  rw [hLn] at hl
  cases hx : X.testBit n <;> cases hz : Z.testBit n
  ·have hl : ∀ d, PC Pr G 157 [.agg [iD w, iD X, iD Z, iD P, d], iD n] (iD 0) := fun d => by have := hl d; rw [hx, hz] at this; exact this
   have hnx := hKn hx hz
   conv => whnf
   repeat (refine LookP.mk _ rfl ?_; conv => whnf)
   intro t ht
   cases t
   ·exfalso; first | (simp at ht; done) | (simp at ht; omega)
   conv => whnf
   repeat' first | ((first | refine LookP.mk _ rfl ?_ | refine pc_lendc (hl (.fn 213 [] [.rop [iD K, intsD ws u, iD bb, iD i] 0, .rop [iD w, iD X, iD Z, iD P] 0])) rfl rfl ?_); conv => whnf) | (intro t ht; cases t <;> conv => whnf)
   ·refine N_n _ ?_ ?_
    ·first | trivial | assumption | omega
    ·refine keep_env (by first | exact Nat.zero_le _ | exact Nat.le_of_ble_eq_true rfl) ?_ ?_ trivial
     ·repeat' first | exact trivial | refine ⟨⟨by first | rfl | assumption | exact congrArg (fun n => AV.d (iD n)) e_n, rfl⟩, ?_⟩
     ·repeat' first | exact trivial | refine ⟨⟨ltB rfl, _, rfl, by first | rfl | assumption | (rw [hnx]; rfl), by first | exact below1 rfl | exact below_dblk _ _ _ | exact below_arr rfl | exact trivial | exact ⟨rfl, Nat.le_of_ble_eq_true rfl⟩⟩, ?_⟩
   ·exfalso; simp at ht
  ·have hl : ∀ d, PC Pr G 157 [.agg [iD w, iD X, iD Z, iD P, d], iD n] (iD 3) := fun d => by have := hl d; rw [hx, hz] at this; exact this
   have hdn := hd n 3 h_n (by decide)
   have ht2 := tim142s (G := G) (out n) (img n 3) (by rw [hOw]; omega)
   have hnx := hSn 3 hx hz
   rw [hnx] at ht2
   generalize img n 3 = d at hdn ht2
   generalize hon : out n = o at hOn hOw hnx ht2 ⊢
   obtain ⟨ow, ox, oz, op⟩ := o
   obtain rfl : ow = w := hOw
   conv => whnf
   repeat (refine LookP.mk _ rfl ?_; conv => whnf)
   intro t ht
   cases t
   ·exfalso; first | (simp at ht; done) | (simp at ht; omega)
   conv => whnf
   repeat' first | ((first | refine LookP.mk _ rfl ?_ | refine pc_lendc (hl (.fn 213 [] [.rop [iD K, intsD ws u, iD bb, iD i] 0, .rop [iD w, iD X, iD Z, iD P] 0])) rfl rfl ?_); conv => whnf) | (intro t ht; cases t <;> conv => whnf)
   all_goals first | (exfalso; simp at ht; done) | skip
   refine round_walk pok ?_
   conv => whnf
   repeat' first | ((first | refine LookP.mk _ rfl ?_ | refine ShlP.mk _ (by first | (simp only [List.set, over, List.take, List.drop, List.append_eq, List.nil_append, List.cons_append, List.length]; rfl) | rfl) ?_ | rw [hB] | refine pc_head (hl _) ?_ | refine pc_head hdn ?_ | refine pc_head ht2 ?_ | refine HpP.force ?_); conv => whnf)
   refine N_n _ ?_ ?_
   ·first | trivial | assumption | omega
   ·refine keep_env (by first | exact Nat.zero_le _ | exact Nat.le_of_ble_eq_true rfl) ?_ ?_ trivial
    ·repeat' first | exact trivial | refine ⟨⟨by first | rfl | assumption | exact congrArg (fun n => AV.d (iD n)) e_n, rfl⟩, ?_⟩
    ·repeat' first | exact trivial | refine ⟨⟨ltB rfl, _, rfl, by first | rfl | assumption, by first | exact below1 rfl | exact below_dblk _ _ _ | exact below_arr rfl | exact trivial | exact ⟨rfl, Nat.le_of_ble_eq_true rfl⟩⟩, ?_⟩
  ·have hl : ∀ d, PC Pr G 157 [.agg [iD w, iD X, iD Z, iD P, d], iD n] (iD 1) := fun d => by have := hl d; rw [hx, hz] at this; exact this
   have hdn := hd n 1 h_n (by decide)
   have ht2 := tim142s (G := G) (out n) (img n 1) (by rw [hOw]; omega)
   have hnx := hSn 1 hx hz
   rw [hnx] at ht2
   generalize img n 1 = d at hdn ht2
   generalize hon : out n = o at hOn hOw hnx ht2 ⊢
   obtain ⟨ow, ox, oz, op⟩ := o
   obtain rfl : ow = w := hOw
   conv => whnf
   repeat (refine LookP.mk _ rfl ?_; conv => whnf)
   intro t ht
   cases t
   ·exfalso; first | (simp at ht; done) | (simp at ht; omega)
   conv => whnf
   repeat' first | ((first | refine LookP.mk _ rfl ?_ | refine pc_lendc (hl (.fn 213 [] [.rop [iD K, intsD ws u, iD bb, iD i] 0, .rop [iD w, iD X, iD Z, iD P] 0])) rfl rfl ?_); conv => whnf) | (intro t ht; cases t <;> conv => whnf)
   all_goals first | (exfalso; simp at ht; done) | skip
   refine round_walk pok ?_
   conv => whnf
   repeat' first | ((first | refine LookP.mk _ rfl ?_ | refine ShlP.mk _ (by first | (simp only [List.set, over, List.take, List.drop, List.append_eq, List.nil_append, List.cons_append, List.length]; rfl) | rfl) ?_ | rw [hB] | refine pc_head (hl _) ?_ | refine pc_head hdn ?_ | refine pc_head ht2 ?_ | refine HpP.force ?_); conv => whnf)
   refine N_n _ ?_ ?_
   ·first | trivial | assumption | omega
   ·refine keep_env (by first | exact Nat.zero_le _ | exact Nat.le_of_ble_eq_true rfl) ?_ ?_ trivial
    ·repeat' first | exact trivial | refine ⟨⟨by first | rfl | assumption | exact congrArg (fun n => AV.d (iD n)) e_n, rfl⟩, ?_⟩
    ·repeat' first | exact trivial | refine ⟨⟨ltB rfl, _, rfl, by first | rfl | assumption, by first | exact below1 rfl | exact below_dblk _ _ _ | exact below_arr rfl | exact trivial | exact ⟨rfl, Nat.le_of_ble_eq_true rfl⟩⟩, ?_⟩
  ·have hl : ∀ d, PC Pr G 157 [.agg [iD w, iD X, iD Z, iD P, d], iD n] (iD 2) := fun d => by have := hl d; rw [hx, hz] at this; exact this
   have hdn := hd n 2 h_n (by decide)
   have ht2 := tim142s (G := G) (out n) (img n 2) (by rw [hOw]; omega)
   have hnx := hSn 2 hx hz
   rw [hnx] at ht2
   generalize img n 2 = d at hdn ht2
   generalize hon : out n = o at hOn hOw hnx ht2 ⊢
   obtain ⟨ow, ox, oz, op⟩ := o
   obtain rfl : ow = w := hOw
   conv => whnf
   repeat (refine LookP.mk _ rfl ?_; conv => whnf)
   intro t ht
   cases t
   ·exfalso; first | (simp at ht; done) | (simp at ht; omega)
   conv => whnf
   repeat' first | ((first | refine LookP.mk _ rfl ?_ | refine pc_lendc (hl (.fn 213 [] [.rop [iD K, intsD ws u, iD bb, iD i] 0, .rop [iD w, iD X, iD Z, iD P] 0])) rfl rfl ?_); conv => whnf) | (intro t ht; cases t <;> conv => whnf)
   all_goals first | (exfalso; simp at ht; done) | skip
   refine round_walk pok ?_
   conv => whnf
   repeat' first | ((first | refine LookP.mk _ rfl ?_ | refine ShlP.mk _ (by first | (simp only [List.set, over, List.take, List.drop, List.append_eq, List.nil_append, List.cons_append, List.length]; rfl) | rfl) ?_ | rw [hB] | refine pc_head (hl _) ?_ | refine pc_head hdn ?_ | refine pc_head ht2 ?_ | refine HpP.force ?_); conv => whnf)
   refine N_n _ ?_ ?_
   ·first | trivial | assumption | omega
   ·refine keep_env (by first | exact Nat.zero_le _ | exact Nat.le_of_ble_eq_true rfl) ?_ ?_ trivial
    ·repeat' first | exact trivial | refine ⟨⟨by first | rfl | assumption | exact congrArg (fun n => AV.d (iD n)) e_n, rfl⟩, ?_⟩
    ·repeat' first | exact trivial | refine ⟨⟨ltB rfl, _, rfl, by first | rfl | assumption, by first | exact below1 rfl | exact below_dblk _ _ _ | exact below_arr rfl | exact trivial | exact ⟨rfl, Nat.le_of_ble_eq_true rfl⟩⟩, ?_⟩
 ·intro A_last I_last
  have hoe := vl_w (hO w)
  generalize out w = o at hoe ⊢
  conv => whnf
  repeat (refine LookP.mk _ rfl ?_; conv => whnf)
  intro t ht
  cases t
  rotate_left
  ·exfalso; first | (simp at ht; done) | (simp at ht; omega)
  conv => whnf
  repeat' first | ((first | refine LookP.mk _ rfl ?_ | refine ShlP.mk _ (by first | (simp only [List.set, over, List.take, List.drop, List.append_eq, List.nil_append, List.cons_append, List.length]; rfl) | rfl) ?_ | refine HpP.force ?_); conv => whnf)
  exact fin rfl
end Go.Tz
namespace Go.Tz
open Go Go.AL Go.Proofs Go.Ma
variable {G : Nat → Option (List D)}
theorem asD_own {H : AHeap} {nm sz N : Nat} {t : Bool} {es : List (List D)} (hg : H.get nm = some (dblk sz es)) (hN : N = es.length) : AsD H (.sl nm sz 0 N N t) (.sl es t) := by
 subst hN
 have := asD_sl_map (H := H) (lo := 0) (len := es.length) (room := es.length) (t := t) hg (by simp)
 simpa using this
theorem give_get {nm sz : Nat} {es : List (List D)} {H : AHeap} (hg : H.get nm = some (dblk sz es)) : ∀ m b, AHeap.get [(nm, some (dblk sz es))] m = some b → m ∈ [nm] ∧ H.get m = some b := fun m b h => by
 by_cases em : m = nm
 ·subst em; rw [get_cons_same] at h; exact ⟨by simp, by rw [hg, ← h]⟩
 ·rw [get_cons_ne _ _ em] at h; cases h
theorem give_as {a : D} {nm sz N : Nat} {t : Bool} {es : List (List D)} (hN : N = es.length) : ∀ (i : Nat) (v : AV) (d : D), [AV.agg [.d a, .sl nm sz 0 N N t]][i]? = some v → [D.agg [a, .sl es t]][i]? = some d → AsD [(nm, some (dblk sz es))] v d := fun i v d h1 h2 => by
 match i, h1, h2 with
 | 0, h1, h2 =>
  simp at h1 h2; subst h1 h2
  exact asD_agg2 (.d _) (asD_own (get_cons_same nm _ []) hN)
 | i + 1, h1, _ => simp at h1
theorem po_giveS {f : FuncId} {a : D} {nm sz N : Nat} {t : Bool} {es : List (List D)} {v : AV} {M : AHeap} {n : Nat} {H : AHeap} {nx : Nat} {k : AV → AHeap → Nat → Prop} (h : PO Pr G f [.agg [a, .sl es t]] v M n) (hg : H.get nm = some (dblk sz es)) (hN : N = es.length)
  (hk : k (v.ren (· + nx)) (M.shift nx ++ dels [nm] H) (nx + n)) : CallVC Pr G f [.agg [.d a, .sl nm sz 0 N N t]] H nx k := by
 refine ⟨h.fn, acall_give (HL := [(nm, some (dblk sz es))]) (L := [nm]) (acall_data h.call ?_) rfl (give_get hg) (give_as hN)⟩
 rintro v' N' m ⟨rfl, rfl, rfl⟩
 exact hk
end Go.Tz
namespace Go.Tz
open Go Go.AL Go.Proofs Go.Ma
variable {G : Nat → Option (List D)}
def kindB (k : Int) : Bool := decide ((1 ≤ k ∧ k ≤ 6) ∨ (9 ≤ k ∧ k ≤ 11))
def cliffB (g : Gt) : Bool := decide (g.i = 0) && kindB g.k
theorem chk144 : chkFn Tryz.f144 = true := by kernel_rfl
theorem cliff144 (g : Gt) : PC Pr G 144 [g.d] (.bool (cliffB g)) := by
 obtain ⟨k, ws, u, b, f⟩ := g
 refine pc_walk pok Tryz.func144 chk144 ?_
 conv => whnf
 repeat' first | (refine LookP.mk _ rfl ?_; conv => whnf) | (intro t ht; cases t <;> conv => whnf)
 all_goals
  refine fin ?_
  refine fiB ?_
  simp at *
  unfold cliffB kindB
  simp
  omega
theorem gchk_ok {g : Gt} {w : Int} {bits : Int} (h : gchk g w bits = 0) : arI g.k ≠ 0 ∧ (g.ws.length : Int) = arI g.k ∧ outB w g.ws = false ∧ dupB g.ws = false ∧ bitE g bits = 0 := by
 unfold gchk at h
 split at h
 ·cases h
 ·split at h
  ·cases h
  ·split at h
   ·cases h
   ·split at h
    ·cases h
    ·rename_i h1 h2 h3 h4
     exact ⟨h1, by omega, by simpa using h3, by simpa using h4, h⟩
theorem bitE_ok {g : Gt} {bits : Int} (h : bitE g bits = 0) : (0 ≤ g.i ∧ g.i ≤ bits) ∧ (g.k = 13 → 0 ≤ g.b ∧ g.b < bits) ∧ ((g.k = 13 ∨ g.k = 14) → g.i = 0) ∧ (g.k ≠ 13 → g.b = 0) := by
 unfold bitE at h
 split at h
 ·cases h
 ·split at h
  ·cases h
  ·rename_i h1 h2
   exact ⟨by omega, by omega, by omega, by omega⟩
def gK (g : Gt) : Nat := g.k.toNat
def gA (g : Gt) : Nat := (g.ws.getD 0 0).toNat
def gB (g : Gt) : Nat := (g.ws.getD 1 0).toNat
theorem len2 {α : Type} : ∀ {l : List α}, l.length = 2 → ∃ a b, l = [a, b]
 | [a, b], _ => ⟨a, b, rfl⟩
theorem gR_of {g : Gt} {w : Nat} {bits : Int} (h : gchk g w bits = 0) (hk : kindB g.k = true) : gR w (gK g) (gA g) (gB g) ∧ g.k = gK g ∧ g.ws = wsOf (gK g) (gA g) (gB g) := by
 obtain ⟨h1, h2, h3, h4, _⟩ := gchk_ok h
 obtain ⟨k, ws, u, b, f⟩ := g
 simp only [gK, gA, gB] at *
 have hk := of_decide_eq_true hk
 have hin : ∀ n, n ∈ ws → 0 ≤ n ∧ n < w := fun n hn => by
  have := List.any_eq_false.1 h3 n hn
  simp at this; omega
 rcases hk with hk | hk
 ·rw [ari1 (by omega)] at h2
  obtain ⟨n, rfl⟩ := List.length_eq_one_iff.1 (show ws.length = 1 by omega)
  have hn := hin n (by simp)
  have e : (k.toNat ≤ 6) := by omega
  refine ⟨.inl ⟨by omega, by omega, ?_⟩, by omega, ?_⟩
  ·simp; omega
  ·unfold wsOf
   rw [if_pos e]
   simp; omega
 ·rw [ari2 (by omega)] at h2
  obtain ⟨n, m, rfl⟩ := len2 (show ws.length = 2 by omega)
  have hn := hin n (by simp)
  have hm := hin m (by simp)
  have hd : n ≠ m := fun q => by
   have := List.any_eq_false.1 h4 1 (List.mem_range.2 (by simp))
   rw [dupAt_lt (by simp)] at this
   simp [q] at this
  have e : ¬ (k.toNat ≤ 6) := by omega
  refine ⟨.inr ⟨by omega, by omega, ?_, ?_, ?_⟩, by omega, ?_⟩
  ·simp; omega
  ·simp; omega
  ·simp; omega
  ·unfold wsOf
   rw [if_neg e]
   simp; omega
def thrG (w : Nat) (g : Gt) (q : Ps) : Ps := thrS w (gK g) (gA g) (gB g) q
theorem through145g {w : Nat} (hw : 1 ≤ w ∧ w ≤ 12) {g : Gt} {bits : Int} (h : gchk g w bits = 0) (hk : kindB g.k = true) {q : Ps} (hq : Vl w q) : PC Pr G 145 [q.d, g.d] (thrG w g q).d := by
 obtain ⟨h1, h2, h3⟩ := gR_of h hk
 have := through145 (G := G) (u := g.u) (bb := g.b) (i := g.i) h2 hw h1 hq
 rw [← h3] at this
 exact this
theorem cchk_one {w : Nat} (hw : 1 ≤ w ∧ w ≤ 12) (g : Gt) : cchk w 0 [g] = gchk g w 0 := by
 by_cases h : gchk g w 0 = 0
 ·rw [h]
  exact cchk0 (by omega) (by simp) (by simpa using h)
 ·exact cchk_at (l := [g]) (i := 0) (by omega) (by simp) (by simp) (by simp) h
theorem chk69 : chkFn Tryz.f69 = true := by kernel_rfl
def thrD (w : Nat) (g : Gt) (q : Ps) : D := if gchk g w 0 ≠ 0 then .tup [Ps.d ⟨0, 0, 0, 0⟩, iD (gchk g w 0)] else if kindB g.k = true then .tup [(thrG w g q).d, iD 0] else .tup [Ps.d ⟨0, 0, 0, 0⟩, iD 7]
theorem through69 {w : Nat} (hw : 1 ≤ w ∧ w ≤ 12) (g : Gt) (hn : g.ws.length ≤ 1000) {q : Ps} (hq : Vl w q) : PC Pr G 69 [q.d, g.d] (thrD w g q) := by
 have h1 := check111 (G := G) q
 rw [pck_vl hw hq] at h1
 have hqw := vl_w hq
 have h2 : ∀ t, PC Pr G 129 [circD q.w 0 [g] t] (iD (gchk g w 0)) := fun t => by
  have := check129 (G := G) w 0 [g] t (by simp) (by simpa using hn)
  rw [cchk_one hw] at this
  rw [hqw]; exact this
 have h3 := cliff144 (G := G) g
 have h4 := fun h k => through145g (G := G) hw (g := g) (bits := 0) h k hq
 have hi0 : gchk g w 0 = 0 → g.i = 0 := fun h => by
  have := (bitE_ok (gchk_ok h).2.2.2.2).1; omega
 unfold thrD
 generalize thrG w g q = r at h4 ⊢
 obtain ⟨k, ws, u, b, f⟩ := g
 by_cases he : gchk ⟨k, ws, u, b, f⟩ w 0 = 0
 ·have hf := hi0 he
  simp only at hf
  subst hf
  rw [if_neg (fun h => h he)]
  rw [he] at h2
  have e3 : cliffB ⟨k, ws, u, b, 0⟩ = kindB k := by unfold cliffB; simp
  rw [e3] at h3
  by_cases hk : kindB k = true
  ·have h5 := h4 he hk
   rw [if_pos hk]
   rw [hk] at h3
   refine pc_walk pok Tryz.func69 chk69 ?_
   conv => whnf
   repeat' first | ((first | refine LookP.mk _ rfl ?_ | refine ShlP.mk _ (by first | (simp only [List.set, over, List.take, List.drop, List.append_eq, List.nil_append, List.cons_append, List.length]; rfl) | rfl) ?_ | refine pc_use h1 ?_ | refine pc_givec (h2 true) rfl ?_ | refine pc_use h3 ?_ | refine pc_use h5 ?_ | refine HpP.force ?_); conv => whnf) | (intro t ht; cases t <;> conv => whnf)
   all_goals first | exact fin rfl | (exfalso; simp at ht; done)
  ·rw [if_neg hk]
   have hk : kindB k = false := by simpa using hk
   rw [hk] at h3
   refine pc_walk pok Tryz.func69 chk69 ?_
   conv => whnf
   repeat' first | ((first | refine LookP.mk _ rfl ?_ | refine ShlP.mk _ (by first | (simp only [List.set, over, List.take, List.drop, List.append_eq, List.nil_append, List.cons_append, List.length]; rfl) | rfl) ?_ | refine pc_use h1 ?_ | refine pc_givec (h2 true) rfl ?_ | refine pc_use h3 ?_ | refine HpP.force ?_); conv => whnf) | (intro t ht; cases t <;> conv => whnf)
   all_goals first | exact fin rfl | (exfalso; simp at ht; done)
 ·rw [if_pos he]
  generalize gchk ⟨k, ws, u, b, f⟩ w 0 = e at h2 he ⊢
  refine pc_walk pok Tryz.func69 chk69 ?_
  conv => whnf
  repeat' first | ((first | refine LookP.mk _ rfl ?_ | refine ShlP.mk _ (by first | (simp only [List.set, over, List.take, List.drop, List.append_eq, List.nil_append, List.cons_append, List.length]; rfl) | rfl) ?_ | refine pc_use h1 ?_ | refine pc_givec (h2 true) rfl ?_ | refine HpP.force ?_); conv => whnf) | (intro t ht; cases t <;> conv => whnf)
  all_goals first | exact fin rfl | (exfalso; simp at ht; first | done | exact he ht)
theorem chk126 : chkFn Tryz.f126 = true := by kernel_rfl
theorem clifford126 (w bits : Int) (l : List Gt) (t : Bool) (hn : l.length ≤ 1000) (hws : ∀ g, g ∈ l → g.ws.length ≤ 1000) : PC Pr G 126 [circD w bits l t] (if cchk w bits l = 0 then .tup [.bool (l.all cliffB), iD 0] else .tup [.bool false, iD (cchk w bits l)]) := by
 have h1 := check129 (G := G) w bits l t hn hws
 have h2 := every206 (G := G) l t 144 [] [] cliffB hn fun g _ => cliff144 g
 generalize (l.all cliffB) = r at h2 ⊢
 generalize cchk w bits l = e at h1 ⊢
 by_cases he : e = 0
 ·subst he
  rw [if_pos rfl]
  refine pc_walk pok Tryz.func126 chk126 ?_
  conv => whnf
  repeat' first | ((first | refine LookP.mk _ rfl ?_ | refine pc_use h1 ?_ | refine pc_use h2 ?_); conv => whnf) | (intro t ht; cases t <;> conv => whnf)
  all_goals first | exact fin rfl | (exfalso; simp at ht; done)
 ·rw [if_neg he]
  refine pc_walk pok Tryz.func126 chk126 ?_
  conv => whnf
  repeat' first | ((first | refine LookP.mk _ rfl ?_ | refine pc_use h1 ?_); conv => whnf) | (intro t ht; cases t <;> conv => whnf)
  all_goals first | exact fin rfl | (exfalso; simp at ht; first | done | exact he ht)
end Go.Tz
namespace Go.Tz
open Go Go.AL Go.Proofs Go.Ma
variable {G : Nat → Option (List D)}
def appG (w : Nat) (g : Gt) (l : List Ps) : List Ps := redRows (l.map (thrG w g)) (2 * w)
theorem thrG_vl {w : Nat} (hw : w ≤ 12) {g : Gt} {bits : Int} (hg : gchk g w bits = 0) (hk : kindB g.k = true) {q : Ps} (hq : Vl w q) : Vl w (thrG w g q) := thr_vl hw (gR_of hg hk).1 hq
theorem thrG_all {w : Nat} (hw : w ≤ 12) {g : Gt} {bits : Int} (hg : gchk g w bits = 0) (hk : kindB g.k = true) {l : List Ps} (hv : ∀ q, q ∈ l → Vl w q) : ∀ q, q ∈ l.map (thrG w g) → Vl w q := fun q hq => by
 obtain ⟨r, hr, rfl⟩ := List.mem_map.1 hq
 exact thrG_vl hw hg hk (hv r hr)
theorem appG_len (w : Nat) (g : Gt) (l : List Ps) : (appG w g l).length = l.length := by simp [appG, redRows_len]
theorem appG_vl {w : Nat} (hw : w ≤ 12) {g : Gt} {bits : Int} (hg : gchk g w bits = 0) (hk : kindB g.k = true) {l : List Ps} (hv : ∀ q, q ∈ l → Vl w q) : ∀ q, q ∈ appG w g l → Vl w q := red_all_vl hw (thrG_all hw hg hk hv) _
theorem appG_sok {w : Nat} {g : Gt} {bits : Int} (hg : gchk g w bits = 0) (hk : kindB g.k = true) {l : List Ps} (h : SOk w l) : SOk w (appG w g l) := app_sok (gR_of hg hk).1 h
theorem chk125 : chkFn Tryz.f125 = true := by kernel_rfl
theorem applied125 {w : Nat} (hw : 1 ≤ w ∧ w ≤ 12) {k b i : Int} {ws : List Int} {u : Bool} (hg : gchk ⟨k, ws, u, b, 0⟩ w 0 = 0) (hk : kindB k = true) (l : List Ps) (t : Bool) (hn : l.length ≤ 1000) (hv : ∀ q, q ∈ l → Vl w q) :
  PO Pr G 125 [stD w l t, (Gt.mk k ws u b i).d] (.agg [.d (iD w), .sl 0 4 0 l.length l.length true]) [(0, some (dblk 4 ((appG w ⟨k, ws, u, b, 0⟩ l).map Ps.l)))] 1 := by
 have hwl : ws.length ≤ 1000 := by
  have h := (gchk_ok hg).2.1
  simp only at h
  have : arI k ≤ 3 := by unfold arI; split <;> (try split) <;> (try split) <;> omega
  omega
 have hgv := thrG_all hw.2 hg hk hv
 have hc := canon105o (G := G) hw (l.map (thrG w ⟨k, ws, u, b, 0⟩)) false (by simpa using hn) hgv
 have ht : ∀ q, Vl w q → PC Pr G 69 [q.d, (Gt.mk k ws u b 0).d] (.tup [(thrG w ⟨k, ws, u, b, 0⟩ q).d, iD 0]) := fun q hq => by
  have := through69 (G := G) hw ⟨k, ws, u, b, 0⟩ hwl hq
  unfold thrD at this
  rw [if_neg (fun h => h hg), if_pos hk] at this
  exact this
 show PO Pr G 125 _ _ [(0, some (dblk 4 ((redRows (l.map (thrG w ⟨k, ws, u, b, 0⟩)) (2 * w)).map Ps.l)))] 1
 generalize thrG w ⟨k, ws, u, b, 0⟩ = F at hc ht ⊢
 have hlen : (l.map F).length = l.length := by simp
 rw [hlen] at hc
 generalize redRows (l.map F) (2 * w) = R at hc ⊢
 refine ⟨isFn_of Tryz.func125 chk125, acall_sub (K := fun v H _ => v = .agg [.d (iD w), .sl 5 4 0 l.length l.length true] ∧ H.get 5 = some (dblk 4 (R.map Ps.l))) (fn_walk pok Tryz.func125 chk125 ?_) ?_⟩
 ·conv => whnf
  repeat' first | ((first | refine LookP.mk _ rfl ?_ | refine ShlP.mk _ (by first | (simp only [List.set, over, List.take, List.drop, List.append_eq, List.nil_append, List.cons_append, List.length]; rfl) | rfl) ?_ | refine HpP.force ?_); conv => whnf)
  refine for_use pok (fun j => ⟨[(3, .ptr 1 4 0 0), (4, .ptr 2 2 0 0), (5, .ptr 3 2 0 0), (15, .d (rowsD l t)), (16, .d (iD (l.map Ps.l).length)), (17, .d (iD j))], [(1, some (.arr 4 [[.d (iD k), .d (intsD ws u), .d (iD b), .d (iD 0)]])), (2, some (.arr 2 [[.d (iD 0), .d (.sl [] true)]])), (3, some (.arr 2 [[.d (iD w), .sl 4 4 0 j j false]])), (4, some (dblk 4 (((l.take j).map F).map Ps.l)))], 5⟩) (l.length) (fun _ => True) (trivial) ?_ (by kernel_rfl) ?_ ?_
  ·refine Sub.trans (sub_nilH2 (nm := 3) (S := 4) (Nat.zero_le _) rfl) ?_
   refine keep_env (by first | exact Nat.zero_le _ | exact Nat.le_of_ble_eq_true rfl) ?_ ?_ trivial
   ·repeat' first | exact trivial | refine ⟨⟨by first | rfl | assumption, rfl⟩, ?_⟩
   ·repeat' first | exact trivial | refine ⟨⟨ltB rfl, _, rfl, by first | rfl | assumption, by first | exact below1 rfl | exact below_dblk _ _ _ | exact below_arr rfl⟩, ?_⟩
  ·intro j A_j h_j I_j N_j
   have e_j : iadd .i64 (j : Int) 1 = ((j + 1 : Nat) : Int) := iadd_nat (by first | omega | (simp at *; omega))
   have hj := ht l[j] (hv _ (List.getElem_mem h_j))
   have hsn : ((l.take (j + 1)).map F).map Ps.l = ((l.take j).map F).map Ps.l ++ [(F l[j]).l] := by rw [take_snoc h_j, List.map_append, List.map_append]; rfl
   have hml : (((l.take j).map F).map Ps.l).length = j := by rw [List.length_map, List.length_map, List.length_take]; omega
   generalize ((l.take j).map F).map Ps.l = M at hsn hml
   generalize F l[j] = r at hj hsn
   conv => whnf
   repeat (refine LookP.mk _ rfl ?_; conv => whnf)
   intro t ht
   cases t
   ·exfalso; first | (simp at ht; done) | (simp at ht; omega)
   conv => whnf
   repeat' first | ((first | refine LookP.mk _ (by first | rfl | exact get_l h_j) ?_ | refine ShlP.mk _ (by first | (simp only [List.set, over, List.take, List.drop, List.append_eq, List.nil_append, List.cons_append, List.length]; rfl) | rfl) ?_ | (refine And.intro (by first | exact Nat.le_refl _ | exact ⟨by rw [List.length_map]; exact hml, by decide, by show (2 * (j + 1) + 192) * 32 ≤ 281474976710656; omega⟩ | assumption | exact ⟨by kernel_rfl, rfl⟩ | decide | omega) ?_) | refine pc_use hj ?_ | rw [nbeq] | refine HpP.force ?_); conv => whnf)
   refine N_j _ ?_ ?_
   ·first | trivial | assumption | omega
   ·first | refine ren_env [(4, 8)] ?_ ?_ ?_ trivial | refine ren_envB [(4, 8)] rfl rfl ?_ ?_ ?_ trivial
    ·repeat' first | exact trivial | refine ⟨⟨by first | rfl | assumption | exact congrArg (fun n => AV.d (iD n)) e_j, rfl⟩, ?_⟩
    ·repeat' first | exact trivial | refine ⟨⟨ltB rfl, _, rfl, by first | rfl | assumption | exact get_ren rfl (by first | rfl | assumption | exact get_ren rfl (by rw [hsn]; exact congrArg some (dblk_snoc rfl))) | exact get_ren rfl (by rw [hsn]; exact congrArg some (dblk_snoc rfl)), by first | exact below1 rfl | exact below_dblk _ _ _ | exact below_arr rfl⟩, ?_⟩
    ·repeat' first | exact trivial | (refine And.intro ?_ ?_) | (exact fun _ => rfl) | (exact fun h => absurd h (Nat.ne_of_beq_eq_false rfl))
  ·intro A_last I_last
   have hT : l.take l.length = l := List.take_of_length_le (Nat.le_refl _)
   rw [hT]
   conv => whnf
   repeat (refine LookP.mk _ rfl ?_; conv => whnf)
   intro t ht
   cases t
   rotate_left
   ·exfalso; first | (simp at ht; done) | (simp at ht; omega)
   conv => whnf
   repeat' first | ((first | refine LookP.mk _ rfl ?_ | refine ShlP.mk _ (by first | (simp only [List.set, over, List.take, List.drop, List.append_eq, List.nil_append, List.cons_append, List.length]; rfl) | rfl) ?_ | refine po_giveS hc rfl (by simp) ?_ | refine HpP.force ?_); conv => whnf)
   refine fin ⟨rfl, ?_⟩
   show some (Blk.ren _ (dblk 4 _)) = _
   rw [ren_dblk]
 ·rintro v H n ⟨rfl, h2⟩
  refine ⟨_, _, 1, ?_, rfl, rfl, rfl⟩
  first | refine ren_env [(0, 5)] ?_ ?_ ?_ trivial | refine ren_envB [(0, 5)] rfl rfl ?_ ?_ ?_ trivial
  ·repeat' first | exact trivial | refine ⟨⟨by first | rfl | assumption, rfl⟩, ?_⟩
  ·repeat' first | exact trivial | refine ⟨⟨ltB rfl, _, rfl, by first | rfl | assumption | exact get_ren rfl (by first | rfl | assumption | exact get_ren rfl h2) | exact get_ren rfl h2, by first | exact below1 rfl | exact below_dblk _ _ _ | exact below_arr rfl⟩, ?_⟩
  ·repeat' first | exact trivial | (refine And.intro ?_ ?_) | (exact fun _ => rfl) | (exact fun h => absurd h (Nat.ne_of_beq_eq_false rfl))
end Go.Tz
namespace Go.Tz
open Go Go.AL Go.Proofs Go.Ma
variable {G : Nat → Option (List D)}
theorem give_as2 {a e : D} {nm sz N : Nat} {t : Bool} {es : List (List D)} (hN : N = es.length) : ∀ (i : Nat) (v : AV) (d : D), [AV.agg [.d a, .sl nm sz 0 N N t], .d e][i]? = some v → [D.agg [a, .sl es t], e][i]? = some d → AsD [(nm, some (dblk sz es))] v d := fun i v d h1 h2 => by
 match i, h1, h2 with
 | 0, h1, h2 =>
  simp at h1 h2; subst h1 h2
  exact asD_agg2 (.d _) (asD_own (get_cons_same nm _ []) hN)
 | 1, h1, h2 => simp at h1 h2; subst h1 h2; exact .d _
 | i + 2, h1, _ => simp at h1
theorem po_giveS2 {f : FuncId} {a e : D} {nm sz N : Nat} {t : Bool} {es : List (List D)} {v : AV} {M : AHeap} {n : Nat} {H : AHeap} {nx : Nat} {k : AV → AHeap → Nat → Prop} (h : PO Pr G f [.agg [a, .sl es t], e] v M n) (hg : H.get nm = some (dblk sz es)) (hN : N = es.length)
  (hk : k (v.ren (· + nx)) (M.shift nx ++ dels [nm] H) (nx + n)) : CallVC Pr G f [.agg [.d a, .sl nm sz 0 N N t], .d e] H nx k := by
 refine ⟨h.fn, acall_give (HL := [(nm, some (dblk sz es))]) (L := [nm]) (acall_data h.call ?_) rfl (give_get hg) (give_as2 hN)⟩
 rintro v' N' m ⟨rfl, rfl, rfl⟩
 exact hk
def ofS (w : Nat) (gs : List Gt) : List Ps := gs.foldl (fun l g => appG w g l) (zeroS w)
theorem ofS_snoc {w : Nat} {gs : List Gt} {i : Nat} (h : i < gs.length) : ofS w (gs.take (i + 1)) = appG w gs[i] (ofS w (gs.take i)) := by
 unfold ofS; rw [take_snoc h, List.foldl_append]; rfl
theorem zeroS_len (w : Nat) : (zeroS w).length = w := by simp [zeroS]
theorem zeroS_vl (w : Nat) : ∀ q, q ∈ zeroS w → Vl w q := fun q hq => by
 obtain ⟨i, hi, rfl⟩ := List.mem_map.1 hq
 exact ⟨0, 2 ^ i, 0, rfl, Nat.two_pow_pos w, Nat.pow_lt_pow_right (by decide) (List.mem_range.1 hi), by decide⟩
theorem ofS_len (w : Nat) : ∀ (gs : List Gt) (l : List Ps), (gs.foldl (fun l g => appG w g l) l).length = l.length
 | [], _ => rfl
 | g :: gs, l => by rw [List.foldl_cons, ofS_len w gs, appG_len]
theorem ofS_vl {w : Nat} (hw : w ≤ 12) {bits : Int} : ∀ (gs : List Gt) (l : List Ps), (∀ g, g ∈ gs → gchk g w bits = 0 ∧ kindB g.k = true) → (∀ q, q ∈ l → Vl w q) → ∀ q, q ∈ gs.foldl (fun l g => appG w g l) l → Vl w q
 | [], _, _, hv => hv
 | g :: gs, l, hg, hv => ofS_vl hw gs (appG w g l) (fun x hx => hg x (List.mem_cons_of_mem _ hx)) (appG_vl hw (hg g (by simp)).1 (hg g (by simp)).2 hv)
end Go.Tz
namespace Go.Tz
open Go Go.AL Go.Proofs Go.Ma
variable {G : Nat → Option (List D)}
theorem gchk_bits {k b i : Int} {ws : List Int} {u : Bool} {w bits : Int} (hk : kindB k = true) (h : gchk ⟨k, ws, u, b, i⟩ w bits = 0) : gchk ⟨k, ws, u, b, 0⟩ w 0 = 0 := by
 obtain ⟨h1, h2, h3, h4, h5⟩ := gchk_ok h
 obtain ⟨b1, b2, b3, b4⟩ := bitE_ok h5
 have hk := of_decide_eq_true hk
 simp only at *
 unfold gchk
 simp only
 rw [if_neg h1, if_neg (by simpa using h2), if_neg (by rw [h3]; simp), if_neg (by rw [h4]; simp)]
 exact bitE0 (by simp only; omega) (by simp only; omega)
def ofE (w b : Int) (l : List Gt) : Int := if cchk w b l ≠ 0 then cchk w b l else if l.all cliffB = true then 0 else 7
theorem ofE_ok {w b : Int} {l : List Gt} (h : ofE w b l = 0) : cchk w b l = 0 ∧ l.all cliffB = true := by
 unfold ofE at h
 split at h
 ·contradiction
 ·rename_i h1
  split at h
  ·rename_i h2; exact ⟨by simpa using h1, h2⟩
  ·cases h
theorem gates_ok {w : Nat} {b : Int} {l : List Gt} (h : ofE w b l = 0) : (1 ≤ w ∧ w ≤ 12) ∧ ∀ g, g ∈ l → gchk g w b = 0 ∧ kindB g.k = true := by
 obtain ⟨h1, h2⟩ := ofE_ok h
 obtain ⟨a1, _, _, a4⟩ := cchk_ok h1
 refine ⟨by omega, fun g hg => ⟨a4 g hg, ?_⟩⟩
 have := List.all_eq_true.1 h2 g hg
 unfold cliffB at this
 simp at this
 exact this.2
def tfB : Nat → Bool
 | 0 => false
 | _ + 1 => true
theorem chk49 : chkFn Tryz.f49 = true := by kernel_rfl
theorem of49 {w : Nat} {b : Int} {l : List Gt} (h : ofE w b l = 0) (t : Bool) (hn : l.length ≤ 1000) (hws : ∀ g, g ∈ l → g.ws.length ≤ 1000) : PO Pr GG 49 [circD w b l t] (ownV w w (tfB l.length)) [(0, some (dblk 4 ((ofS w l).map Ps.l)))] 1 := by
 obtain ⟨hw, hgs⟩ := gates_ok h
 obtain ⟨h1, h2⟩ := ofE_ok h
 have c1 := clifford126 (G := GG) w b l t hn hws
 rw [if_pos h1, h2] at c1
 have c3 := zero110p hw
 refine ⟨isFn_of Tryz.func49 chk49, acall_sub (K := fun v H _ => v = .tup [.agg [.d (iD w), .sl 2 4 0 w w (tfB l.length)], .d (iD 0)] ∧ H.get 2 = some (dblk 4 ((ofS w l).map Ps.l))) (fn_walk pok Tryz.func49 chk49 ?_) ?_⟩
 ·conv => whnf
  repeat' first | ((first | refine LookP.mk _ rfl ?_ | refine ShlP.mk _ (by first | (simp only [List.set, over, List.take, List.drop, List.append_eq, List.nil_append, List.cons_append, List.length]; rfl) | rfl) ?_ | refine pc_use c1 ?_ | refine po_use c3 ?_ | refine HpP.force ?_); conv => whnf) | (intro t ht; cases t <;> conv => whnf)
  ·refine for_use pok (fun i => ⟨[(2, .ptr 1 2 0 0), (6, .ptr 3 2 0 0), (25, .d (gatesD l t)), (26, .d (iD (l.map Gt.l).length)), (27, .d (iD i))], [(1, some (.arr 2 [[.d (iD 0), .d (.sl [] true)]])), (2, some (dblk 4 ((ofS w (l.take i)).map Ps.l))), (3, some (.arr 2 [[.d (iD w), .sl 2 4 0 w w (tfB i)]]))], 4⟩) (l.length) (fun _ => True) (trivial) ?_ (by kernel_rfl) ?_ ?_
   ·refine keep_env (by first | exact Nat.zero_le _ | exact Nat.le_of_ble_eq_true rfl) ?_ ?_ trivial
    ·repeat' first | exact trivial | refine ⟨⟨by first | rfl | assumption, rfl⟩, ?_⟩
    ·repeat' first | exact trivial | refine ⟨⟨ltB rfl, _, rfl, by first | rfl | assumption | exact (show some (Blk.ren _ (dblk 4 ((zeroS w).map Ps.l))) = some (dblk 4 ((zeroS w).map Ps.l)) from by rw [ren_dblk]), by first | exact below1 rfl | exact below_dblk _ _ _ | exact below_arr rfl⟩, ?_⟩
   ·intro i A_i h_i I_i N_i
    have e_i : iadd .i64 (i : Int) 1 = ((i + 1 : Nat) : Int) := iadd_nat (by first | omega | (simp at *; omega))
    obtain ⟨g1, g2⟩ := hgs _ (List.getElem_mem h_i)
    have hlen : (ofS w (l.take i)).length = w := by unfold ofS; rw [ofS_len, zeroS_len]
    have hvl : ∀ q, q ∈ ofS w (l.take i) → Vl w q := ofS_vl hw.2 _ _ (fun g hg => hgs g (List.mem_of_mem_take hg)) (zeroS_vl w)
    have hsn := ofS_snoc (w := w) h_i
    have hgl : (l.map Gt.l)[(i : Int).toNat]? = some (l[i]).l := get_g h_i
    generalize l[i] = g at g1 g2 hsn hgl
    obtain ⟨gk, gws, gu, gb, gi⟩ := g
    have ha := applied125 (G := GG) hw (i := gi) (gchk_bits g2 g1) g2 (ofS w (l.take i)) (tfB i) (by omega) hvl
    have e : appG w ⟨gk, gws, gu, gb, 0⟩ (ofS w (l.take i)) = ofS w (l.take (i + 1)) := hsn.symm
    rw [e, hlen] at ha
    generalize ofS w (l.take i) = m at ha hlen ⊢
    have hml : w = (m.map Ps.l).length := by rw [List.length_map, hlen]
    conv => whnf
    repeat (refine LookP.mk _ rfl ?_; conv => whnf)
    intro t ht
    cases t
    ·exfalso; first | (simp at ht; done) | (simp at ht; omega)
    conv => whnf
    repeat' first | ((first | refine LookP.mk _ (by first | rfl | exact hgl) ?_ | refine ShlP.mk _ (by first | (simp only [List.set, over, List.take, List.drop, List.append_eq, List.nil_append, List.cons_append, List.length]; rfl) | rfl) ?_ | refine And.intro (by first | assumption | exact ⟨by kernel_rfl, rfl⟩ | decide | omega) ?_ | refine po_giveS2 ha rfl hml ?_ | refine HpP.force ?_); conv => whnf)
    refine N_i _ ?_ ?_
    ·first | trivial | assumption | omega
    ·first | refine ren_env [(2, 5)] ?_ ?_ ?_ trivial | refine ren_envB [(2, 5)] rfl rfl ?_ ?_ ?_ trivial
     ·repeat' first | exact trivial | refine ⟨⟨by first | rfl | assumption | exact congrArg (fun n => AV.d (iD n)) e_i, rfl⟩, ?_⟩
     ·repeat' first | exact trivial | refine ⟨⟨ltB rfl, _, rfl, by first | rfl | assumption | exact get_ren rfl (by first | rfl | assumption | exact get_ren rfl (show some (Blk.ren _ (dblk 4 _)) = _ from by rw [ren_dblk])) | exact get_ren rfl (show some (Blk.ren _ (dblk 4 _)) = _ from by rw [ren_dblk]), by first | exact below1 rfl | exact below_dblk _ _ _ | exact below_arr rfl⟩, ?_⟩
     ·repeat' first | exact trivial | (refine And.intro ?_ ?_) | (exact fun _ => rfl) | (exact fun h => absurd h (Nat.ne_of_beq_eq_false rfl))
   ·intro A_last I_last
    rw [List.take_length]
    conv => whnf
    repeat (refine LookP.mk _ rfl ?_; conv => whnf)
    intro t ht
    cases t
    rotate_left
    ·exfalso; first | (simp at ht; done) | (simp at ht; omega)
    conv => whnf
    repeat' first | ((first | refine LookP.mk _ rfl ?_ | refine ShlP.mk _ (by first | (simp only [List.set, over, List.take, List.drop, List.append_eq, List.nil_append, List.cons_append, List.length]; rfl) | rfl) ?_ | refine HpP.force ?_); conv => whnf)
    exact fin ⟨rfl, rfl⟩
  all_goals (exfalso; simp at ht; done)
 ·rintro v H n ⟨rfl, h2⟩
  refine ⟨_, _, 1, ?_, rfl, rfl, rfl⟩
  first | refine ren_env [(0, 2)] ?_ ?_ ?_ trivial | refine ren_envB [(0, 2)] rfl rfl ?_ ?_ ?_ trivial
  ·repeat' first | exact trivial | refine ⟨⟨by first | rfl | assumption, rfl⟩, ?_⟩
  ·repeat' first | exact trivial | refine ⟨⟨ltB rfl, _, rfl, by first | rfl | assumption | exact get_ren rfl (by first | rfl | assumption | exact get_ren rfl h2) | exact get_ren rfl h2, by first | exact below1 rfl | exact below_dblk _ _ _ | exact below_arr rfl⟩, ?_⟩
  ·repeat' first | exact trivial | (refine And.intro ?_ ?_) | (exact fun _ => rfl) | (exact fun h => absurd h (Nat.ne_of_beq_eq_false rfl))
end Go.Tz
namespace Go.Tz
open Go Go.AL Go.Proofs Go.Ma
variable {G : Nat → Option (List D)}
def apE (w : Int) (l : List Ps) (g : Gt) : Int := if chkS w l ≠ 0 then chkS w l else if gchk g w 0 ≠ 0 then gchk g w 0 else if kindB g.k = true then 0 else 7
theorem apE_ok {w : Int} {l : List Ps} {g : Gt} (h : apE w l g = 0) : ∃ W : Nat, w = W ∧ SOk W l ∧ gchk g W 0 = 0 ∧ kindB g.k = true := by
 unfold apE at h
 split at h
 ·contradiction
 ·rename_i h1
  obtain ⟨W, rfl, hs⟩ := chk_ok (show chkS w l = 0 by simpa using h1)
  split at h
  ·contradiction
  ·rename_i h2
   split at h
   ·rename_i h3; exact ⟨W, rfl, hs, by simpa using h2, h3⟩
   ·cases h
theorem chk47 : chkFn Tryz.f47 = true := by kernel_rfl
theorem sok_len {w : Nat} {l : List Ps} (h : SOk w l) : l.length ≤ 1000 := by have := h.len; have := h.hi; omega
theorem apply47 {w : Nat} {l : List Ps} {g : Gt} (h : apE w l g = 0) (t : Bool) (hn : g.ws.length ≤ 1000) : PO Pr GG 47 [stD w l t, g.d] (ownV w l.length true) [(0, some (dblk 4 ((appG w g l).map Ps.l)))] 1 := by
 obtain ⟨W, hW, hs, hg, hk⟩ := apE_ok h
 obtain rfl : W = w := by omega
 have hw : 1 ≤ W ∧ W ≤ 12 := ⟨hs.lo, hs.hi⟩
 have hlen := hs.len
 have c1 := check36 W l t (sok_len hs)
 rw [ok_chk hs] at c1
 have h0 : 0 < l.length := by omega
 have c2 := through69 (G := GG) hw g hn (hs.vl _ (List.getElem_mem h0))
 unfold thrD at c2
 rw [if_neg (fun q => q hg), if_pos hk] at c2
 have hgl : (l.map Ps.l)[(0 : Int).toNat]? = some (l[0]).l := get_l h0
 obtain ⟨k, ws, u, b, i⟩ := g
 have c3 := applied125 (G := GG) hw (i := i) (gchk_bits hk hg) hk l t (sok_len hs) hs.vl
 have e : appG W ⟨k, ws, u, b, 0⟩ l = appG W ⟨k, ws, u, b, i⟩ l := rfl
 rw [e] at c3
 generalize appG W ⟨k, ws, u, b, i⟩ l = R at c3 ⊢
 generalize thrG W ⟨k, ws, u, b, i⟩ l[0] = r at c2
 generalize l[0] = q0 at c2 hgl
 generalize hN : l.length = N at c3 ⊢
 refine ⟨isFn_of Tryz.func47 chk47, acall_sub (K := fun v H _ => ∃ m, v = .tup [.agg [.d (iD W), .sl m 4 0 N N true], .d (iD 0)] ∧ H.get m = some (dblk 4 (R.map Ps.l)) ∧ m = 4) (fn_walk pok Tryz.func47 chk47 ?_) ?_⟩
 ·conv => whnf
  repeat' first | ((first | refine LookP.mk _ (by first | rfl | exact hgl) ?_ | refine ShlP.mk _ (by first | (simp only [List.set, over, List.take, List.drop, List.append_eq, List.nil_append, List.cons_append, List.length]; rfl) | rfl) ?_ | refine And.intro (by first | assumption | exact ⟨by kernel_rfl, rfl⟩ | decide | omega) ?_ | refine pc_use c1 ?_ | refine pc_head c2 ?_ | refine po_use c3 ?_ | refine HpP.force ?_); conv => whnf) | (intro t ht; cases t <;> conv => whnf)
  ·refine fin ⟨_, rfl, ?_, rfl⟩
   show some (Blk.ren _ (dblk 4 _)) = _
   rw [ren_dblk]
  all_goals (exfalso; simp at ht; done)
 ·rintro v H n ⟨m, rfl, h2, rfl⟩
  refine ⟨_, _, 1, ?_, rfl, rfl, rfl⟩
  first | refine ren_env [(0, 4)] ?_ ?_ ?_ trivial | refine ren_envB [(0, 4)] rfl rfl ?_ ?_ ?_ trivial
  ·repeat' first | exact trivial | refine ⟨⟨by first | rfl | assumption, rfl⟩, ?_⟩
  ·repeat' first | exact trivial | refine ⟨⟨ltB rfl, _, rfl, by first | rfl | assumption | exact get_ren rfl (by first | rfl | assumption | exact get_ren rfl h2) | exact get_ren rfl h2, by first | exact below1 rfl | exact below_dblk _ _ _ | exact below_arr rfl⟩, ?_⟩
  ·repeat' first | exact trivial | (refine And.intro ?_ ?_) | (exact fun _ => rfl) | (exact fun h => absurd h (Nat.ne_of_beq_eq_false rfl))
def exS (w : Int) (l : List Ps) (p : Ps) : Int := if chkS w l ≠ 0 then chkS w l else if pckI p ≠ 0 then pckI p else if p.w ≠ w ∨ p.p.tmod 2 = 1 then 7 else 0
theorem pck_p {p : Ps} (h : pckI p = 0) : 0 ≤ p.p ∧ p.p ≤ 3 := by
 unfold pckI at h
 split at h
 ·cases h
 ·split at h
  ·cases h
  ·split at h
   ·cases h
   ·omega
theorem exS_ok {w : Int} {l : List Ps} {p : Ps} (h : exS w l p = 0) : ∃ W : Nat, w = W ∧ SOk W l ∧ Vl W p ∧ p.p.tmod 2 = 0 := by
 unfold exS at h
 split at h
 ·contradiction
 ·rename_i h1
  obtain ⟨W, rfl, hs⟩ := chk_ok (show chkS w l = 0 by simpa using h1)
  split at h
  ·contradiction
  ·rename_i h2
   have h2 : pckI p = 0 := by simpa using h2
   split at h
   ·cases h
   ·rename_i h3
    have hp := pck_p h2
    refine ⟨W, rfl, hs, vl_of (by rw [← pck_pchk]; exact h2) (by omega), ?_⟩
    rw [Int.tmod_eq_emod_of_nonneg hp.1] at h3 ⊢
    omega
theorem chk48 : chkFn Tryz.f48 = true := by kernel_rfl
theorem expect48 {w : Nat} {l : List Ps} {p : Ps} (h : exS w l p = 0) (t : Bool) : PC Pr GG 48 [stD w l t, p.d] (.tup [iD (expP l p), iD 0]) := by
 obtain ⟨W, hW, hs, hp, hpp⟩ := exS_ok h
 obtain rfl : W = w := by omega
 have c1 := check36 W l t (sok_len hs)
 rw [ok_chk hs] at c1
 have c2 := check111 (G := GG) p
 rw [pck_vl ⟨hs.lo, hs.hi⟩ hp] at c2
 have c3 := expected107 hs t hp
 have hpw := vl_w hp
 generalize expP l p = e at c3 ⊢
 obtain ⟨pw, px, pz, pp⟩ := p
 obtain rfl : pw = W := hpw
 have hpp : pp.tmod 2 = 0 := hpp
 refine pc_walk pok Tryz.func48 chk48 ?_
 conv => whnf
 repeat' first | ((first | refine LookP.mk _ rfl ?_ | refine And.intro (by first | assumption | exact ⟨by kernel_rfl, rfl⟩ | decide | omega) ?_ | refine pc_use c1 ?_ | refine pc_use c2 ?_ | refine pc_use c3 ?_); conv => whnf) | (intro t ht; cases t <;> conv => whnf)
 all_goals first | exact fin rfl | (exfalso; simp [hpp] at ht; done)
end Go.Tz
namespace Go.Tz
open Go Go.AL Go.Proofs Go.Ma
def findReg (k : Nat) : Code → Option (Array Oper)
 | .region id ops _ => if id = k then some ops else none
 | .seq c d => (findReg k c).orElse fun _ => findReg k d
 | .cond _ c d => (findReg k c).orElse fun _ => findReg k d
 | .block _ c => findReg k c
 | .loop c => findReg k c
 | .scope c => findReg k c
 | _ => none
variable {ks : List (Nat × AV)} {hs : List (Nat × Blk)} {w nm : Nat} {f : FuncId} {A R : List Ps} {n o : Nat} {ug : Bool} {ch x : Int}
end Go.Tz
namespace Go.Tz
open Go Go.AL Go.Proofs Go.Ma
theorem knownB {b c : Bool} {k : Bool → Prop} (h : b = c) (hk : k c) : ∀ t, b = t → k t := fun t e => by
 have : c = t := h.symm.trans e
 exact this ▸ hk
end Go.Tz
namespace Go.Tz
open Go Go.AL Go.Proofs Go.Ma
theorem asD_pre {H : AHeap} {nm sz len room : Nat} {t : Bool} {l : List (List D)} (hg : H.get nm = some (dblk sz l)) (h1 : len ≤ l.length) : AsD H (.sl nm sz 0 len room t) (.sl (l.take len) (t && decide (room = len))) := by
 have := asD_sl_map (lo := 0) (len := len) (room := room) (t := t) hg (by simpa using h1)
 rw [List.drop_zero] at this
 exact this
end Go.Tz
namespace Go.Tz
open Go Go.AL Go.Proofs Go.Shelf
def rnI : Ren := ⟨fun n => match n with
 | 21 => 146
 | 27 => 216
 | 28 => 217
 | 35 => 260
 | 39 => 273
 | n => n, fun n => match n with
 | 22 => 42
 | n => n, fun n => n⟩
theorem lays21 : Lays2.n21 Pr rnI where
 mixed := by kernel_rfl
 f21 := by kernel_rfl
 f27 := by kernel_rfl
 f28 := by kernel_rfl
 f35 := by kernel_rfl
 f39 := by kernel_rfl
 t0 := by kernel_rfl
 a0 := fun _ => by kernel_rfl
 z0 := fun _ => by kernel_rfl
 v0 := fun _ => by kernel_rfl
 t3 := by kernel_rfl
 a3 := fun _ => by kernel_rfl
 z3 := fun _ => by kernel_rfl
 v3 := fun _ => by kernel_rfl
 t4 := by kernel_rfl
 a4 := fun _ => by kernel_rfl
 z4 := fun _ => by kernel_rfl
 v4 := fun _ => by kernel_rfl
 t22 := by kernel_rfl
 a22 := fun _ => by kernel_rfl
 z22 := fun _ => by kernel_rfl
 v22 := fun _ => by kernel_rfl
 i3 := by kernel_rfl
end Go.Tz
namespace Go.AL
open Go
variable {G : Nat → Option (List D)}
structure Chg (w w' : World) (k : Nat) (cs cs' : Array Value) : Prop where
 os : w'.os = w.os
 tape : w'.tape = w.tape
 output : w'.output = w.output
 size : w'.heap.size = w.heap.size
 other : ∀ j, j ≠ k → w'.heap[j]? = w.heap[j]?
 at_ : ∃ e, w.heap[k]? = some (.cells cs e (0, 0)) ∧ w'.heap[k]? = some (.cells cs' e (0, 0))
 csz : cs'.size = cs.size
theorem Chg.trans {w w' w'' : World} {k : Nat} {cs cs' cs'' : Array Value} (h : Chg w w' k cs cs') (h2 : Chg w' w'' k cs' cs'') : Chg w w'' k cs cs'' := by
 refine ⟨h2.os.trans h.os, h2.tape.trans h.tape, h2.output.trans h.output, h2.size.trans h.size, fun j hj => (h2.other j hj).trans (h.other j hj), ?_, h2.csz.trans h.csz⟩
 obtain ⟨e, a, b⟩ := h.at_
 obtain ⟨e', a', b'⟩ := h2.at_
 rw [b] at a'
 cases a'
 exact ⟨e, a, b'⟩
theorem chg_refl {w : World} {k : Nat} {cs : Array Value} {e : TypeId} (h : w.heap[k]? = some (.cells cs e (0, 0))) : Chg w w k cs cs := ⟨rfl, rfl, rfl, rfl, fun _ _ => rfl, ⟨e, h, h⟩, rfl⟩
theorem chg_drew {w : World} {k : Nat} {cs : Array Value} {e : TypeId} (h : w.heap[k]? = some (.cells cs e (0, 0))) : Chg w w.drew k cs cs := ⟨rfl, rfl, rfl, rfl, fun _ _ => rfl, ⟨e, h, h⟩, rfl⟩
theorem chg_cell {w : World} {k o : Nat} {v : Value} {cs : Array Value} {e : TypeId} (h : w.heap[k]? = some (.cells cs e (0, 0))) : Chg w (w.setCell ⟨k, o, none⟩ v) k cs (cs.setIfInBounds o v) := by
 refine ⟨rfl, rfl, rfl, by simp [World.setCell], fun j hj => ?_, ⟨e, h, ?_⟩, by simp⟩
 ·simp only [World.setCell, Array.getElem?_modify]
  rw [if_neg (Ne.symm hj)]
 ·simp only [World.setCell, Array.getElem?_modify, if_pos, h]
  rfl
def setL (cs : Array Value) : Nat → List Value → Array Value
 | _, [] => cs
 | o, v :: r => setL (cs.setIfInBounds o v) (o + 1) r
theorem chg_cells {k : Nat} {e : TypeId} : ∀ (vs : List Value) (o : Nat) (w : World) (cs : Array Value), w.heap[k]? = some (.cells cs e (0, 0)) → Chg w (w.setCells k o vs) k cs (setL cs o vs)
 | [], _, _, _, h => chg_refl h
 | v :: r, o, w, cs, h => by
  have h1 := chg_cell (o := o) (v := v) h
  obtain ⟨e', a, b⟩ := h1.at_
  rw [h] at a; cases a
  exact h1.trans (chg_cells r (o + 1) _ _ b)
theorem setL_size : ∀ (vs : List Value) (o : Nat) (cs : Array Value), (setL cs o vs).size = cs.size
 | [], _, _ => rfl
 | v :: r, o, cs => by unfold setL; rw [setL_size r]; simp
theorem setL_get : ∀ (vs : List Value) (o : Nat) (cs : Array Value) (q : Nat), o + vs.length ≤ cs.size → (setL cs o vs)[q]? = if o ≤ q ∧ q < o + vs.length then vs[q - o]? else cs[q]?
 | [], o, cs, q, _ => by
  unfold setL
  rw [if_neg (fun h => Nat.lt_irrefl _ (Nat.lt_of_le_of_lt h.1 (by simpa using h.2)))]
 | v :: r, o, cs, q, h => by
  simp only [List.length_cons] at h
  unfold setL
  rw [setL_get r (o + 1) _ q (by simp; omega)]
  simp only [List.length_cons]
  by_cases e : q = o
  ·subst e
   rw [if_neg (by omega), if_pos (by omega), Nat.sub_self]
   simp [show q < cs.size by omega]
  ·by_cases c : o + 1 ≤ q ∧ q < o + 1 + r.length
   ·rw [if_pos c, if_pos (by omega)]
    obtain ⟨d, hd⟩ : ∃ d, q - o = d + 1 := ⟨q - o - 1, by omega⟩
    rw [hd, List.getElem?_cons_succ]
    congr 1; omega
   ·rw [if_neg c, if_neg (by omega)]
    rw [Array.getElem?_setIfInBounds, if_neg (Ne.symm e)]
theorem renew {C : Ctx} {H : AHeap} {nm nm' k S : Nat} {els els' : List (List AV)} {w' : World} {cs cs' : Array Value} (hH : HRel G C H) (hg : H.get nm = some (.arr S els)) (hb : C.β nm = some k) (hn : ¬ C.U nm')
  (hc : Chg C.w w' k cs cs') (hro : ¬ C.RO k) (hall : ∀ el, el ∈ els' → el.length = S) (hv : ∀ (q : Nat) (v : AV), els'.flatten[q]? = some v → ∃ x : Value, cs'[q]? = some x ∧ ∀ C'' : Ctx, VRel C'' v x) :
  ∃ C' : Ctx, C'.w = w' ∧ C'.β nm' = some k ∧ C'.U nm' ∧ HRel G C' ((nm', some (.arr S els')) :: (nm, none) :: H) ∧ Tr C.U C H C' ((nm', some (.arr S els')) :: (nm, none) :: H) ∧ ∀ n, C'.U n → C.U n ∨ n = nm' := by
 obtain ⟨e, at1, at2⟩ := hc.at_
 let C' : Ctx := { U := fun n => C.U n ∨ n = nm', β := fun n => if n = nm' then some k else C.β n, RO := C.RO, w := w' }
 have hb' : C'.β nm' = some k := by simp [C']
 have hβ : ∀ n, n ≠ nm' → C'.β n = C.β n := fun n h => by simp [C', h]
 have himg : ∀ n b k', AHeap.get ((nm', some (.arr S els')) :: (nm, none) :: H) n = some b → C'.β n = some k' → k' < C.w.heap.size → ∃ n0 b0, H.get n0 = some b0 ∧ C.β n0 = some k' := by
  intro n b k' a1 a2 _
  by_cases en : n = nm'
  ·subst en; rw [hb'] at a2; cases a2; exact ⟨nm, _, hg, hb⟩
  ·rw [get_cons_ne _ _ en] at a1
   rw [hβ n en] at a2
   exact ⟨n, b, (get_drop a1).2, a2⟩
 have htr : Tr C.U C H C' ((nm', some (.arr S els')) :: (nm, none) :: H) := {
  os := hc.os, tape := hc.tape, output := hc.output, size := by show C.w.heap.size ≤ w'.heap.size; rw [hc.size]; exact Nat.le_refl _
  shape := fun j A t fz' hA => by
   by_cases hj : j = k
   ·subst hj; rw [at1] at hA; cases hA; exact ⟨cs', (0, 0), at2, hc.csz⟩
   ·exact ⟨A, fz', (hc.other j hj).trans hA, rfl⟩
  frame := fun j hj hnn => hc.other j fun ej => hnn nm _ hg (by rw [hb, ej])
  names := fun n h => ⟨.inl h, hβ n (fun en => hn (en ▸ h))⟩
  ros := fun j h => h
  img := himg
  rob := fun _ h _ => .inl h }
 have hbr : BRel C' nm' (.arr S els') := brel_arr_mk hb' at2 hro hall fun q v hq => by
  obtain ⟨x, h1, h2⟩ := hv q v hq
  exact ⟨x, h1, h2 C'⟩
 refine ⟨C', rfl, hb', .inr rfl, ⟨?_, ?_, ?_, ?_⟩, htr, fun n h => h⟩
 ·intro n b hgn
  by_cases en : n = nm'
  ·subst en; rw [get_cons_same] at hgn; cases hgn; exact ⟨.inr rfl, hbr⟩
  ·rw [get_cons_ne _ _ en] at hgn
   obtain ⟨en2, hgn⟩ := get_drop hgn
   obtain ⟨hU2, hB2⟩ := hH.blk n b hgn
   refine ⟨.inl hU2, brel_later hH htr hU2 hB2 fun j hj => ⟨hc.other j (fun ej => en2 ?_), fun hro2 => hH.ro_apart hro2 n b hgn hj⟩⟩
   exact hH.inj n nm b _ k hgn hg (ej ▸ hj) hb
 ·intro n n' b1 b2 j a1 a2 e1 e2
  have old : ∀ n b, AHeap.get ((nm', some (.arr S els')) :: (nm, none) :: H) n = some b → n ≠ nm' → n ≠ nm ∧ H.get n = some b := fun n b h en => by
   rw [get_cons_ne _ _ en] at h; exact get_drop h
  by_cases en : n = nm'
  ·by_cases en' : n' = nm'
   ·rw [en, en']
   ·obtain ⟨f1, f2⟩ := old n' b2 a2 en'
    rw [hβ n' en'] at e2
    rw [en, hb'] at e1; cases e1
    exact absurd (hH.inj n' nm b2 _ k f2 hg e2 hb) f1
  ·obtain ⟨f1, f2⟩ := old n b1 a1 en
   rw [hβ n en] at e1
   by_cases en' : n' = nm'
   ·rw [en', hb'] at e2; cases e2
    exact absurd (hH.inj n nm b1 _ k f2 hg e1 hb) f1
   ·obtain ⟨f3, f4⟩ := old n' b2 a2 en'
    rw [hβ n' en'] at e2
    exact hH.inj n n' b1 b2 j f2 f4 e1 e2
 ·intro j hj
  have := hH.ro j hj
  show j < w'.heap.size
  rw [hc.size]; exact this
 ·intro g ds hgd; exact (hH.glob g ds hgd).later htr hH
structure Nw (w w' : World) (cs' : Array Value) : Prop where
 os : w'.os = w.os
 tape : w'.tape = w.tape
 output : w'.output = w.output
 size : w'.heap.size = w.heap.size + 1
 old : ∀ j, j < w.heap.size → w'.heap[j]? = w.heap[j]?
 at_ : ∃ e, w'.heap[w.heap.size]? = some (.cells cs' e (0, 0))
theorem nw_alloc (w : World) (cs : Array Value) (e : TypeId) : Nw w (w.alloc (.cells cs e)) cs := by
 refine ⟨rfl, rfl, rfl, by simp, fun j hj => ?_, ⟨e, ?_⟩⟩
 ·show (w.heap.push _)[j]? = _
  rw [Array.getElem?_push, if_neg (by omega)]
 ·show (w.heap.push _)[w.heap.size]? = _
  simp
theorem nw_drew {w w' : World} {cs : Array Value} (h : Nw w.drew w' cs) : Nw w w' cs := ⟨h.os, h.tape, h.output, h.size, h.old, h.at_⟩
theorem Nw.chg {w w' w'' : World} {cs cs' : Array Value} (h : Nw w w' cs) (h2 : Chg w' w'' w.heap.size cs cs') : Nw w w'' cs' := by
 obtain ⟨e, _, b⟩ := h2.at_
 exact ⟨h2.os.trans h.os, h2.tape.trans h.tape, h2.output.trans h.output, h2.size.trans h.size, fun j hj => (h2.other j (by omega)).trans (h.old j hj), ⟨e, b⟩⟩
theorem made2 {C : Ctx} {H : AHeap} {nm' S : Nat} {els' : List (List AV)} {w' : World} {cs' : Array Value} (hH : HRel G C H) (hn : ¬ C.U nm')
  (hc : Nw C.w w' cs') (hall : ∀ el, el ∈ els' → el.length = S) (hv : ∀ (q : Nat) (v : AV), els'.flatten[q]? = some v → ∃ x : Value, cs'[q]? = some x ∧ ∀ C'' : Ctx, VRel C'' v x) :
  ∃ C' : Ctx, C'.w = w' ∧ C'.β nm' = some C.w.heap.size ∧ C'.U nm' ∧ HRel G C' ((nm', some (.arr S els')) :: H) ∧ Tr C.U C H C' ((nm', some (.arr S els')) :: H) ∧ ∀ n, C'.U n → C.U n ∨ n = nm' := by
 obtain ⟨e, at2⟩ := hc.at_
 let C' : Ctx := { U := fun n => C.U n ∨ n = nm', β := fun n => if n = nm' then some C.w.heap.size else C.β n, RO := C.RO, w := w' }
 have hb' : C'.β nm' = some C.w.heap.size := by simp [C']
 have hβ : ∀ n, n ≠ nm' → C'.β n = C.β n := fun n h => by simp [C', h]
 have htr : Tr C.U C H C' ((nm', some (.arr S els')) :: H) := {
  os := hc.os, tape := hc.tape, output := hc.output, size := by show C.w.heap.size ≤ w'.heap.size; rw [hc.size]; omega
  shape := fun j A t fz' hA => ⟨A, fz', (hc.old j (heap_lt hA)).trans hA, rfl⟩
  frame := fun j hj _ => hc.old j hj
  names := fun n h => ⟨.inl h, hβ n (fun en => hn (en ▸ h))⟩
  ros := fun j h => h
  img := fun n b k' a1 a2 h3 => by
   by_cases en : n = nm'
   ·subst en; rw [hb'] at a2; cases a2; omega
   ·rw [get_cons_ne _ _ en] at a1
    rw [hβ n en] at a2
    exact ⟨n, b, a1, a2⟩
  rob := fun _ h _ => .inl h }
 have hro : ¬ C'.RO C.w.heap.size := fun h => by
  have := hH.ro _ h
  omega
 have hbr : BRel C' nm' (.arr S els') := brel_arr_mk hb' at2 hro hall fun q v hq => by
  obtain ⟨x, h1, h2⟩ := hv q v hq
  exact ⟨x, h1, h2 C'⟩
 have fresh : ∀ n b, H.get n = some b → C.β n ≠ some C.w.heap.size := fun n b h e => by
  have := brel_lt (hH.blk n b h).2 e
  omega
 refine ⟨C', rfl, hb', .inr rfl, ⟨?_, ?_, ?_, ?_⟩, htr, fun n h => h⟩
 ·intro n b hgn
  by_cases en : n = nm'
  ·subst en; rw [get_cons_same] at hgn; cases hgn; exact ⟨.inr rfl, hbr⟩
  ·rw [get_cons_ne _ _ en] at hgn
   obtain ⟨hU2, hB2⟩ := hH.blk n b hgn
   exact ⟨.inl hU2, brel_later hH htr hU2 hB2 fun j hj => ⟨hc.old j (brel_lt hB2 hj), fun hro2 => hH.ro_apart hro2 n b hgn hj⟩⟩
 ·intro n n' b1 b2 j a1 a2 e1 e2
  by_cases en : n = nm'
  ·by_cases en' : n' = nm'
   ·rw [en, en']
   ·rw [get_cons_ne _ _ en'] at a2
    rw [hβ n' en'] at e2
    rw [en, hb'] at e1; cases e1
    exact absurd e2 (fresh n' b2 a2)
  ·rw [get_cons_ne _ _ en] at a1
   rw [hβ n en] at e1
   by_cases en' : n' = nm'
   ·rw [en', hb'] at e2; cases e2
    exact absurd e1 (fresh n b1 a1)
   ·rw [get_cons_ne _ _ en'] at a2
    rw [hβ n' en'] at e2
    exact hH.inj n n' b1 b2 j a1 a2 e1 e2
 ·intro j hj
  have := hH.ro j hj
  show j < w'.heap.size
  rw [hc.size]; omega
 ·intro g ds hgd; exact (hH.glob g ds hgd).later htr hH
end Go.AL
namespace Go.Tz
open Go Go.AL Go.Proofs Go.Shelf
variable {G : Nat → Option (List D)}
abbrev numsB (l : List Int) : Blk := dblk 1 (l.map fun x => [iD x])
theorem numsB_flat (l : List Int) : ((l.map fun x => [iD x]).map fun el => el.map AV.d).flatten = l.map fun x => AV.d (iD x) := by
 induction l with
 | nil => rfl
 | cons a l ih => simp only [List.map_cons, List.flatten_cons, ih]; rfl
theorem numsB_len (l : List Int) : ∀ el, el ∈ (l.map fun x => [iD x]).map (fun el => el.map AV.d) → el.length = 1 := by
 intro el h
 obtain ⟨y, hy, rfl⟩ := List.mem_map.1 h
 obtain ⟨x, _, rfl⟩ := List.mem_map.1 hy
 rfl
theorem vrel_int {C : Ctx} {i : Int} {x : Value} (h : VRel C (.d (iD i)) x) : x = .int .i64 i := by
 have := vrel_d h
 cases this
 rfl
theorem int_vrel (C : Ctx) (i : Int) : VRel C (.d (iD i)) (.int .i64 i) := .d _ _ (.int _ _)
def insL (l : List Int) (i : Nat) (x : Int) : List Int := l.take i ++ x :: l.drop i
theorem insL_len {l : List Int} {i : Nat} {x : Int} (h : i ≤ l.length) : (insL l i x).length = l.length + 1 := by
 simp [insL]; omega
theorem insL_get {l : List Int} {i : Nat} {x : Int} (h : i ≤ l.length) (q : Nat) : (insL l i x)[q]? = if q < i then l[q]? else if q = i then some x else l[q - 1]? := by
 unfold insL
 by_cases a : q < i
 ·rw [if_pos a, List.getElem?_append_left (by simp; omega), List.getElem?_take_of_lt a]
 ·rw [if_neg a, List.getElem?_append_right (by simp; omega), List.length_take, Nat.min_eq_left h]
  by_cases b : q = i
  ·rw [if_pos b, b, Nat.sub_self]; rfl
  ·rw [if_neg b]
   obtain ⟨d, hd⟩ : ∃ d, q - i = d + 1 := ⟨q - i - 1, by omega⟩
   rw [hd, List.getElem?_cons_succ, List.getElem?_drop]
   congr 1; omega
theorem chk146 : chkFn Tryz.f146 = true := by kernel_rfl
theorem isFn146 : IsFn Pr 146 := isFn_of Tryz.func146 chk146
theorem cell_of {w : World} {k : Nat} {cs : Array Value} {e : TypeId} {fz : Nat × Nat} (h : w.heap[k]? = some (.cells cs e fz)) (q : Nat) : w.cell? ⟨k, q, none⟩ = cs[q]? := by
 unfold World.cell?; rw [h]; rfl
theorem frozen_of {w : World} {k : Nat} {cs : Array Value} {e : TypeId} (h : w.heap[k]? = some (.cells cs e (0, 0))) (q : Nat) : w.frozen? ⟨k, q, none⟩ = false := by
 unfold World.frozen?; rw [h]; simp
theorem shape_of {w : World} {k : Nat} {cs : Array Value} {e : TypeId} {fz : Nat × Nat} (h : w.heap[k]? = some (.cells cs e fz)) : w.shape? k = some (e, cs.size) := by
 unfold World.shape?; rw [h]
theorem ints_rel {l : List Int} {cs' : Array Value} (h : ∀ (q : Nat) (v : Int), l[q]? = some v → cs'[q]? = some (.int .i64 v)) : ∀ (q : Nat) (v : AV), ((l.map fun x => [iD x]).map fun el => el.map AV.d).flatten[q]? = some v → ∃ x : Value, cs'[q]? = some x ∧ ∀ C'' : Ctx, VRel C'' v x := by
 intro q v hq
 rw [numsB_flat, List.getElem?_map] at hq
 obtain ⟨a, ha, rfl⟩ := Option.map_eq_some_iff.1 hq
 exact ⟨_, h q a ha, fun C'' => int_vrel C'' a⟩
theorem arr3 {vs : Array Value} (h : vs.size = 3) : vs = #[vs.getD 0 undef, vs.getD 1 undef, vs.getD 2 undef] := by
 apply Array.ext
 ·simpa using h
 ·intro i h1 h2
  match i, h1, h2 with
  | 0, _, _ => simp [Array.getD, h]
  | 1, _, _ => simp [Array.getD, h]
  | 2, _, _ => simp [Array.getD, h]
theorem insert146 {nm nv n0 i r : Nat} {l : List Int} (x : Int) (hi : i ≤ l.length) (hbig : l.length ≤ 1000) (hne : nm ≠ nv) (hr63 : r ≤ 9223372036854775807) :
  ACall Pr G 146 [.sl nm 1 0 l.length r true, .d (iD i), .sl nv 1 0 1 1 true] [(nm, some (numsB l)), (nv, some (.arr 1 [[.d (iD x)]]))] n0
   fun v H n => ∃ r' : Nat, l.length + 1 ≤ r' ∧ r' ≤ 9223372036854775807 ∧ v = .sl n0 1 0 (l.length + 1) r' true ∧ H = [(n0, some (numsB (insL l i x)))] ∧ n = n0 + 1 := by
 intro C vs hH hU hsz hr
 have hn : ¬ C.U n0 := fun h => Nat.lt_irrefl _ (hU n0 h)
 have r0 := hr 0 _ rfl
 have r1 := vrel_int (hr 1 _ rfl)
 have r2 := hr 2 _ rfl
 rw [arr3 (vs := vs) (by simpa using hsz), r1]
 have hgv : AHeap.get [(nm, some (numsB l)), (nv, some (.arr 1 [[.d (iD x)]]))] nv = some (.arr 1 [[.d (iD x)]]) := by rw [get_consI, if_neg (Ne.symm hne), get_consI, if_pos rfl]
 have hgm : AHeap.get [(nm, some (numsB l)), (nv, some (.arr 1 [[.d (iD x)]]))] nm = some (numsB l) := by rw [get_consI, if_pos rfl]
 rcases vrel_sl r2 with ⟨kv, cv, csv, ev, fzv, hUv, hbv, hlv, hrv, htv, hhv, hsv, hx2⟩ | ⟨_, h, _⟩
 rotate_left
 ·cases h
 obtain ⟨csv0, ev0, hhv0, hrov, _, _, hcsv⟩ := brel_flat (hH.blk nv _ hgv).2 hbv
 rw [hhv] at hhv0; cases hhv0
 have hv0 : csv[0]? = some (.int .i64 x) := by
  obtain ⟨y, h1, h2⟩ := hcsv 0 (.d (iD x)) rfl
  rw [h1, vrel_int h2]
 have hvs : ∀ j v, [Value.int .i64 x][j]? = some v → C.w.cell? ⟨kv, 0 * 1 + j, none⟩ = some v := fun j v hj => by
  match j, hj with
  | 0, hj => cases hj; rw [cell_of hhv]; exact hv0
 have h1v : ∀ v ∈ [Value.int .i64 x], v.oneCell' = true := fun v hv => by rw [List.mem_singleton.1 hv]; rfl
 have h1c : ∀ v ∈ l.map fun y => Value.int .i64 y, v.oneCell' = true := fun v hv => by
  obtain ⟨y, _, rfl⟩ := List.mem_map.1 hv; rfl
 have hnf : ∀ el, el ∈ ((insL l i x).map fun x => [iD x]).map (fun el => el.map AV.d) → el.length = 1 := numsB_len _
 have fin2 : ∀ (w' : World) (cs' : Array Value) (c' : Nat), Nw C.w w' cs' → (∀ (q : Nat) (v : Int), (insL l i x)[q]? = some v → cs'[q]? = some (.int .i64 v)) → l.length + 1 ≤ c' → c' ≤ cs'.size → c' ≤ 9223372036854775807 →
   ∃ y v H' nx' C', (Ending.returned (.slice (some ⟨C.w.heap.size, 0, none⟩) (l.length + 1) c') : Ending) = .returned y ∧ C'.w = w' ∧ (∃ r' : Nat, l.length + 1 ≤ r' ∧ r' ≤ 9223372036854775807 ∧ v = AV.sl n0 1 0 (l.length + 1) r' true ∧ H' = [(n0, some (numsB (insL l i x)))] ∧ nx' = n0 + 1) ∧ VRel C' v y ∧ HRel G C' H' ∧ (∀ m, C'.U m → m < nx') ∧ Tr C.U C [(nm, some (numsB l)), (nv, some (.arr 1 [[.d (iD x)]]))] C' H' := by
  intro w' cs' c' hc hq h1 h2 h63
  obtain ⟨C', e1, e2, e3, e4, e5, e6⟩ := made2 (S := 1) hH hn hc hnf (ints_rel hq)
  obtain ⟨e, at2⟩ := hc.at_
  refine ⟨_, _, _, _, C', rfl, e1, ⟨c', h1, h63, rfl, rfl, rfl⟩, ?_, hrel_dropS e4 ?_, fun m hm => ?_, e5.anti ?_⟩
  ·have := VRel.sl (C := C') n0 1 0 (l.length + 1) c' true C.w.heap.size c' cs' e (0, 0) e3 e2 h1 (Nat.le_refl _) (fun _ => rfl) (by rw [e1]; exact at2) (by simpa using h2)
   simpa using this
  ·intro a b hab
   rw [get_consI] at hab
   by_cases ea : a = n0
   ·rw [if_pos ea] at hab; rw [get_consI, if_pos ea]; exact hab
   ·rw [if_neg ea] at hab; cases hab
  ·rcases e6 m hm with h | h
   ·have := hU m h; omega
   ·omega
  ·intro a b hab
   rw [get_consI] at hab
   by_cases ea : a = n0
   ·rw [if_pos ea] at hab; rw [get_consI, if_pos ea]; exact hab
   ·rw [if_neg ea] at hab; cases hab
 have hxg : C.w.drew.heap.size = C.w.heap.size := rfl
 have gr := grownCap_ge C.w
 -- a new row at the end
 have endG : ∀ (base : Option Addr) (c : Nat) (ws : List Value), l.length ≤ c → c < l.length + 1 → (base = none → l.length = 0) → ws = l.map (fun y => Value.int .i64 y) → (∀ a, base = some a → ∀ j v, ws[j]? = some v → C.w.cell? (a.add j) = some v) → i = l.length →
   Calls Pr 146 #[.slice base l.length c, .int .i64 (i : Int), .slice (some ⟨kv, 0 * 1, none⟩) 1 cv] C.w fun e w' => ∃ y v H' nx' C', e = .returned y ∧ C'.w = w' ∧ (∃ r' : Nat, l.length + 1 ≤ r' ∧ r' ≤ 9223372036854775807 ∧ v = AV.sl n0 1 0 (l.length + 1) r' true ∧ H' = [(n0, some (numsB (insL l i x)))] ∧ nx' = n0 + 1) ∧ VRel C' v y ∧ HRel G C' H' ∧ (∀ m, C'.U m → m < nx') ∧ Tr C.U C [(nm, some (numsB l)), (nv, some (.arr 1 [[.d (iD x)]]))] C' H' := by
  intro base c ws h1 h2 h3 h4 h5 hil
  subst hil
  refine (Any2.slices_Insert_int_end_grow lays21 base l.length c kv (0 * 1) 1 cv ws [.int .i64 x] C.w (by decide) h1 h2 (by omega) (by rw [h4]; simp) rfl h3 h5 hvs h1v).mono ?_
  rintro e w' ⟨rfl, rfl⟩
  have hg2 := gr (l.length + 1) c (rnI.t 3)
  have hg3 := grownCap_le_maxLen C.w (l.length + 1) c (rnI.t 3) (by unfold maxLen; omega)
  generalize grownCap C.w (l.length + 1) c (rnI.t 3) = cap at hg2 hg3 ⊢
  refine fin2 _ _ cap (nw_drew (nw_alloc C.w.drew _ _)) (fun q v hq => ?_) hg2 ?_ ?_
  ·rw [insL_get (Nat.le_refl _)] at hq
   by_cases a : q < l.length
   ·rw [if_pos a] at hq
    rw [Array.getElem?_append_left (by simp [h4]; omega)]
    rw [h4]
    simp only [List.getElem?_toArray]
    rw [List.getElem?_append_left (by simpa using a), List.getElem?_map, hq]; rfl
   ·rw [if_neg a] at hq
    by_cases b : q = l.length
    ·rw [if_pos b] at hq
     cases hq
     rw [Array.getElem?_append_left (by simp [h4]; omega), h4]
     simp only [List.getElem?_toArray]
     rw [List.getElem?_append_right (by simp; omega), b]
     simp
    ·rw [if_neg b, List.getElem?_eq_none (show l.length ≤ q - 1 by omega)] at hq
     cases hq
  ·simp [h4, Builtin.zeroCells, Value.cells]; omega
  ·unfold maxLen at hg3; omega
 rcases vrel_sl r0 with ⟨k, c, cs, e, fz, hUk, hb, hl, hr0, ht, hh, hs, hx0⟩ | ⟨hUk, hl0, hr0, a0, hx0⟩
 rotate_left
 ·-- the nil slice
  have hl1 : l = [] := List.eq_nil_of_length_eq_zero hl0
  have hi0 : i = l.length := by omega
  have := endG a0 0 [] (by omega) (by omega) (fun _ => hl0) (by rw [hl1]; rfl) (fun a _ j v hj => by simp at hj) hi0
  have e0 : Value.slice a0 0 0 = .slice a0 l.length 0 := by rw [hl0]
  rw [hx0, e0, hx2]
  exact this
 obtain ⟨cs0, e0, hh0, hro, hsz, hcl, hcs⟩ := brel_flat (hH.blk nm _ hgm).2 hb
 rw [hh] at hh0; cases hh0
 have hq0 : ∀ (q : Nat) (v : Int), l[q]? = some v → cs[q]? = some (.int .i64 v) := fun q v hq => by
  obtain ⟨y, h1, h2⟩ := hcs q (.d (iD v)) (by rw [numsB_flat, List.getElem?_map, hq]; rfl)
  rw [h1, vrel_int h2]
 have hcsv' : ∀ j v, (l.map fun y => Value.int .i64 y)[j]? = some v → C.w.cell? ⟨k, 0 * 1 + j, none⟩ = some v := fun j v hj => by
  rw [cell_of hh]
  rw [List.getElem?_map] at hj
  obtain ⟨a, ha, rfl⟩ := Option.map_eq_some_iff.1 hj
  simpa using hq0 j a ha
 have hkk : kv ≠ k := fun e => hne ((hH.inj nv nm _ _ k hgv hgm (by rw [hbv, e]) hb).symm)
 have hsize : c ≤ cs.size := by simpa using hs
 have hc63 : c ≤ 9223372036854775807 := by rw [ht rfl]; exact hr63
 have fin1 : ∀ (w' : World) (cs' : Array Value), Chg C.w w' k cs cs' → (∀ (q : Nat) (v : Int), (insL l i x)[q]? = some v → cs'[q]? = some (.int .i64 v)) → l.length + 1 ≤ c →
   ∃ y v H' nx' C', (Ending.returned (.slice (some ⟨k, 0 * 1, none⟩) (l.length + 1) c) : Ending) = .returned y ∧ C'.w = w' ∧ (∃ r' : Nat, l.length + 1 ≤ r' ∧ r' ≤ 9223372036854775807 ∧ v = AV.sl n0 1 0 (l.length + 1) r' true ∧ H' = [(n0, some (numsB (insL l i x)))] ∧ nx' = n0 + 1) ∧ VRel C' v y ∧ HRel G C' H' ∧ (∀ m, C'.U m → m < nx') ∧ Tr C.U C [(nm, some (numsB l)), (nv, some (.arr 1 [[.d (iD x)]]))] C' H' := by
  intro w' cs' hc hq h1
  obtain ⟨C', e1, e2, e3, e4, e5, e6⟩ := renew (S := 1) hH hgm hb hn hc hro hnf (ints_rel hq)
  obtain ⟨e, _, at2⟩ := hc.at_
  refine ⟨_, _, _, _, C', rfl, e1, ⟨c, h1, hc63, rfl, rfl, rfl⟩, ?_, hrel_dropS e4 ?_, fun m hm => ?_, e5.anti ?_⟩
  ·have := VRel.sl (C := C') n0 1 0 (l.length + 1) c true k c cs' e (0, 0) e3 e2 h1 (Nat.le_refl _) (fun _ => rfl) (by rw [e1]; exact at2) (by rw [hc.csz]; simpa using hsize)
   simpa using this
  ·intro a b hab
   rw [get_consI] at hab
   by_cases ea : a = n0
   ·rw [if_pos ea] at hab; rw [get_consI, if_pos ea]; exact hab
   ·rw [if_neg ea] at hab; cases hab
  ·rcases e6 m hm with h | h
   ·have := hU m h; omega
   ·omega
  ·intro a b hab
   rw [get_consI] at hab
   by_cases ea : a = n0
   ·rw [if_pos ea] at hab; rw [get_consI, if_pos ea]; exact hab
   ·rw [if_neg ea] at hab; cases hab
 rw [hx0, hx2]
 have hcell : ∀ q, q < c → (C.w.cell? ⟨k, q, none⟩).isSome = true := fun q hq => by
  rw [cell_of hh]; simp; omega
 by_cases hroom : l.length + 1 ≤ c
 ·by_cases hil : i = l.length
  ·subst hil
   refine (Any2.slices_Insert_int_end_room lays21 k (0 * 1) l.length c kv (0 * 1) 1 cv [.int .i64 x] C.w (by decide) hroom hc63 rfl (fun j hj => hcell _ (by omega)) (fun j hj => frozen_of hh _) hvs h1v).mono ?_
   rintro e w' ⟨rfl, rfl⟩
   refine fin1 _ _ (chg_cells _ _ _ _ hh) (fun q v hq => ?_) hroom
   rw [setL_get _ _ _ _ (by simp; omega)]
   rw [insL_get (Nat.le_refl _)] at hq
   by_cases a : q < l.length
   ·rw [if_pos a] at hq
    rw [if_neg (by omega)]; exact hq0 q v hq
   ·rw [if_neg a] at hq
    by_cases b : q = l.length
    ·rw [if_pos b] at hq
     cases hq
     rw [if_pos (by simp; omega), b]; simp
    ·rw [if_neg b, List.getElem?_eq_none (show l.length ≤ q - 1 by omega)] at hq
     cases hq
  ·refine (Any2.slices_Insert_int_shift lays21 k (0 * 1) l.length c i kv (0 * 1) 1 cv (l.map fun y => Value.int .i64 y) [.int .i64 x] C.w (by omega) (by decide) hroom hc63 hkk (by simp) rfl hcsv' (fun j hj => hcell _ (by omega)) (fun j hj => frozen_of hh _) hvs h1c h1v _ _ _ _ (shape_of hhv) (shape_of hh) (by omega) (frozen_of hhv _) (frozen_of hhv _)).mono ?_
   rintro e w' ⟨rfl, rfl⟩
   have h1 := (chg_drew hh).trans (chg_cells ((l.map fun y => Value.int .i64 y).drop i) (0 * 1 + (i + 1)) C.w.drew cs hh)
   obtain ⟨e', _, at2⟩ := h1.at_
   refine fin1 _ _ (h1.trans (chg_cells [.int .i64 x] (0 * 1 + i) _ _ at2)) (fun q v hq => ?_) hroom
   rw [setL_get _ _ _ _ (by rw [setL_size]; simp; omega), setL_get _ _ _ _ (by simp; omega)]
   rw [insL_get hi] at hq
   by_cases a : q < i
   ·rw [if_pos a] at hq
    rw [if_neg (by omega), if_neg (by omega)]; exact hq0 q v hq
   ·rw [if_neg a] at hq
    by_cases b : q = i
    ·rw [if_pos b] at hq
     cases hq
     rw [if_pos (by simp; omega), b]; simp
    ·rw [if_neg b] at hq
     have hlt := (List.getElem?_eq_some_iff.1 hq).1
     rw [if_neg (by simp; omega), if_pos (by simp; omega), List.getElem?_drop, List.getElem?_map, show i + (q - (0 * 1 + (i + 1))) = q - 1 by omega, hq]; rfl
 ·by_cases hil : i = l.length
  ·refine endG (some ⟨k, 0 * 1, none⟩) c (l.map fun y => Value.int .i64 y) hl (by omega) (fun h => by cases h) rfl (fun a ha j v hj => ?_) hil
   cases ha
   have := hcsv' j v hj
   rw [Addr.add_lit]; exact this
  ·refine (Any2.slices_Insert_int_grow lays21 k (0 * 1) l.length c i kv (0 * 1) 1 cv (l.map fun y => Value.int .i64 y) [.int .i64 x] C.w (by omega) (by decide) hl (by omega) (by omega) (by simp) rfl hcsv' hvs h1c h1v).mono ?_
   rintro e w' ⟨rfl, rfl⟩
   have hg2 := gr (l.length + 1) c (rnI.t 3)
   have hg3 := grownCap_le_maxLen C.w (l.length + 1) c (rnI.t 3) (by unfold maxLen; omega)
   generalize grownCap C.w (l.length + 1) c (rnI.t 3) = cap at hg2 hg3 ⊢
   have n1 := nw_alloc C.w (((l.map fun y => Value.int .i64 y).take i).toArray ++ Builtin.zeroCells (Value.int .i64 0).cells (l.length + 1 - i) ++ Builtin.zeroCells (Value.int .i64 0).cells (cap - (l.length + 1))) (rnI.t 3)
   obtain ⟨e1, t1⟩ := n1.at_
   have n2 := n1.chg ((chg_drew t1).trans (chg_cells [.int .i64 x] i _ _ t1))
   obtain ⟨e2, t2⟩ := n2.at_
   have n3 := n2.chg ((chg_drew t2).trans (chg_cells ((l.map fun y => Value.int .i64 y).drop i) (i + 1) _ _ t2))
   have hz : (((l.map fun y => Value.int .i64 y).take i).toArray ++ Builtin.zeroCells (Value.int .i64 0).cells (l.length + 1 - i) ++ Builtin.zeroCells (Value.int .i64 0).cells (cap - (l.length + 1))).size = cap := by
    simp [Builtin.zeroCells, Value.cells]; omega
   refine fin2 _ _ cap n3 (fun q v hq => ?_) hg2 (by rw [setL_size, setL_size, hz]; exact Nat.le_refl _) (by unfold maxLen at hg3; omega)
   rw [setL_get _ _ _ _ (by rw [setL_size, hz]; simp; omega), setL_get _ _ _ _ (by rw [hz]; simp; omega)]
   rw [insL_get hi] at hq
   by_cases a : q < i
   ·rw [if_pos a] at hq
    rw [if_neg (by omega), if_neg (by omega), Array.getElem?_append_left (by simp; omega), Array.getElem?_append_left (by simp; omega)]
    simp only [List.getElem?_toArray]
    rw [List.getElem?_take_of_lt a, List.getElem?_map, hq]; rfl
   ·rw [if_neg a] at hq
    by_cases b : q = i
    ·rw [if_pos b] at hq
     cases hq
     rw [if_neg (by omega), if_pos (by simp; omega), b]; simp
    ·rw [if_neg b] at hq
     have hlt := (List.getElem?_eq_some_iff.1 hq).1
     rw [if_pos (by simp; omega), List.getElem?_drop, List.getElem?_map, show i + (q - (i + 1)) = q - 1 by omega, hq]; rfl
end Go.Tz
namespace Go.Tz
open Go Go.AL Go.Proofs
abbrev storeB (bs : List Int) (u : Bool) (nx st : Int) : Blk := .arr 3 [[.d (.sl (bs.map fun b => [.int .u8 b]) u), .d (iD nx), .d (.int .u32 st)]]
theorem wrap32 (n : Int) : IntKind.u32.wrap n = n % 4294967296 := by simp [IntKind.wrap, IntKind.bits, IntKind.signed]
theorem u32_ge (n : Int) : 0 ≤ IntKind.u32.wrap n := by rw [wrap32]; omega
theorem u32_lt (n : Int) : IntKind.u32.wrap n < 4294967296 := by rw [wrap32]; omega
theorem shr_ge {a b : Int} (h : 0 ≤ a) : 0 ≤ ishr .u32 a b := by
 unfold ishr
 exact Int.fdiv_nonneg h (by exact_mod_cast Nat.zero_le _)
theorem shr_lt {a b : Int} (h : 0 ≤ a) (h2 : a < 4294967296) : ishr .u32 a b < 4294967296 := by
 unfold ishr
 have hp : (0 : Int) < 2 ^ min b.toNat IntKind.u32.bits := by exact_mod_cast Nat.two_pow_pos _
 rw [Int.fdiv_eq_ediv_of_nonneg _ (Int.le_of_lt hp)]
 exact Int.lt_of_le_of_lt (Int.ediv_le_self _ h) h2
theorem chk147 : chkFn Tryz.f147 = true := by kernel_rfl
theorem draw147 (bs : List Int) (u : Bool) (nx : Nat) (st : Int) (n0 : Nat) (hnx : nx < 4611686018427387904) (hbs : bs.length ≤ 1000) :
  ACall Pr GG 147 [.ptr 0 3 0 0] [(0, some (storeB bs u nx st))] n0 fun v H n => ∃ (x st' : Int) (nx' : Nat), nx' ≤ nx + 1 ∧ 0 ≤ x ∧ x < 4294967296 ∧ v = .d (.int .u32 x) ∧ H.get 0 = some (storeB bs u nx' st') := by
 refine fn_walk pok Tryz.func147 chk147 ?_
 conv => whnf
 cases bs with
 | nil =>
  repeat' first | ((first | refine LookP.mk _ rfl ?_ | refine ShlP.mk _ (by first | (simp only [List.set, over, List.take, List.drop, List.append_eq, List.nil_append, List.cons_append, List.length]; rfl) | rfl) ?_ | refine And.intro (by first | assumption | exact ⟨by kernel_rfl, rfl⟩ | decide | omega | exact ⟨rfl, by decide, by simp only [List.length_map, Nat.zero_add]; omega⟩) ?_ | refine HpP.force ?_); conv => whnf) | (intro t ht; cases t <;> conv => whnf)
  ·exact fin ⟨_, _, nx, by omega, shr_ge (u32_ge _), shr_lt (u32_ge _) (u32_lt _), rfl, rfl⟩
  ·exact absurd ht (by decide)
 | cons b bs =>
  have hmd : (nx : Int).tmod ((((b :: bs).map fun b => [D.int IntKind.u8 b]).length : Nat) : Int) = ((nx % (bs.length + 1) : Nat) : Int) := by
   rw [Int.tmod_eq_emod_of_nonneg (by omega), List.length_map]; rfl
  have hlt : nx % (bs.length + 1) < bs.length + 1 := Nat.mod_lt _ (by omega)
  have hget : ∃ y : Int, ((b :: bs).map fun b => [D.int IntKind.u8 b])[((nx % (bs.length + 1) : Nat) : Int).toNat]? = some [D.int IntKind.u8 y] := by
   refine ⟨(b :: bs)[nx % (bs.length + 1)]'(by simpa using hlt), ?_⟩
   rw [Int.toNat_natCast, List.getElem?_map, List.getElem?_eq_getElem (by simpa using hlt)]; rfl
  obtain ⟨y, hget⟩ := hget
  have hne : ((((b :: bs).map fun b => [D.int IntKind.u8 b]).length : Nat) : Int) ≠ 0 := by simp only [List.length_map, List.length_cons]; omega
  have hgt : decide (((((b :: bs).map fun b => [D.int IntKind.u8 b]).length : Nat) : Int) > 0) = true := decide_eq_true (by simp only [List.length_map, List.length_cons]; omega)
  have hln : ((b :: bs).map fun b => [D.int IntKind.u8 b]).length = bs.length + 1 := by simp
  have e1 : iadd .i64 (nx : Int) 1 = ((nx + 1 : Nat) : Int) := iadd_nat (b := 1) (by omega)
  generalize nx % (bs.length + 1) = m at hmd hlt hget
  repeat' first | ((first | refine LookP.mk _ (by first | rfl | exact hget) ?_ | refine ShlP.mk _ (by first | (simp only [List.set, over, List.take, List.drop, List.append_eq, List.nil_append, List.cons_append, List.length]; rfl) | rfl) ?_ | refine And.intro (by first | exact hne | exact ⟨Int.natCast_nonneg _, by rw [hln]; omega⟩ | assumption | exact ⟨by kernel_rfl, rfl⟩ | decide | omega | exact ⟨rfl, by decide, by simp only [List.length_map, Nat.zero_add]; omega⟩) ?_ | refine knownB hgt ?_ | rw [hmd] | rw [e1] | refine HpP.force ?_); conv => whnf) | (intro t ht; cases t <;> conv => whnf)
  exact fin ⟨_, _, nx + 1, Nat.le_refl _, u32_ge _, u32_lt _, rfl, rfl⟩
structure SC {ι : Type} (f : FuncId) (args : List D) (bs : List Int) (u : Bool) (cnt n0 : Nat) (dof : ι → D) (Q : ι → Prop) : Prop where
 fn : IsFn Pr f
 call : ∀ (nx : Nat) (st : Int), nx + cnt ≤ 4611686018427387904 → ACall Pr GG f (.ptr 0 3 0 0 :: args.map .d) [(0, some (storeB bs u nx st))] n0 fun v H n => ∃ (i : ι) (st' : Int) (nx' : Nat), nx' ≤ nx + cnt ∧ Q i ∧ v = .d (dof i) ∧ H = [(0, some (storeB bs u nx' st'))] ∧ n = n0
variable {ι : Type} {f : FuncId} {args : List D} {bs : List Int} {u : Bool} {cnt n0 : Nat} {dof : ι → D} {Q : ι → Prop}
theorem sc_mk (hf : IsFn Pr f) (hn : 0 < n0)
  (h : ∀ (nx : Nat) (st : Int), nx + cnt ≤ 4611686018427387904 → ACall Pr GG f (.ptr 0 3 0 0 :: args.map .d) [(0, some (storeB bs u nx st))] n0 fun v H _ => ∃ (i : ι) (st' : Int) (nx' : Nat), nx' ≤ nx + cnt ∧ Q i ∧ v = .d (dof i) ∧ H.get 0 = some (storeB bs u nx' st')) : SC f args bs u cnt n0 dof Q := by
 refine ⟨hf, fun nx st hb => acall_sub (h nx st hb) ?_⟩
 rintro v H n ⟨i, st', nx', h1, h2, rfl, h4⟩
 refine ⟨.d (dof i), [(0, some (storeB bs u nx' st'))], n0, ?_, i, st', nx', h1, h2, rfl, rfl, rfl⟩
 exact keep_env (Nat.le_refl _) ⟨⟨rfl, rfl⟩, trivial⟩ ⟨⟨hn, _, rfl, h4, below_arr rfl⟩, trivial⟩ trivial
theorem sc_use {nx0 nx : Nat} {st : Int} {H : AHeap} {k : AV → AHeap → Nat → Prop} (h : SC f args bs u cnt n0 dof Q) (hn : nx0 ≤ n0) (hb : nx + cnt ≤ 4611686018427387904)
  (hg : H.get 0 = some (storeB bs u nx st)) (hk : ∀ (i : ι) (st' : Int) (nx' : Nat), nx' ≤ nx + cnt → Q i → k (.d (dof i)) ((0, some (storeB bs u nx' st')) :: H) n0) : CallVC Pr GG f (.ptr 0 3 0 0 :: args.map .d) H nx0 k := by
 refine ⟨h.fn, acall_frame (h.call nx st hb) hn (fun m b hm => ?_) ?_⟩
 ·rw [get_consI] at hm
  by_cases e : m = 0
  ·rw [if_pos e] at hm; rw [e, hg, hm]
  ·rw [if_neg e] at hm; cases hm
 ·rintro v H1 n ⟨d, st', nx', h1, h2, rfl, rfl, rfl⟩
  refine ⟨_, fun m b hm => ?_, hk d st' nx' h1 h2⟩
  rw [get_consI] at hm
  by_cases e : m = 0
  ·rw [if_pos e] at hm; left; rw [get_consI, if_pos e, hm]
  ·rw [if_neg e] at hm
   right
   exact ⟨by rw [get_consI, if_neg e]; rfl, hm⟩
theorem sc147 (bs : List Int) (u : Bool) (n0 : Nat) (hn : 0 < n0) (hbs : bs.length ≤ 1000) : SC 147 [] bs u 1 n0 (fun x : Int => .int .u32 x) fun x => 0 ≤ x ∧ x < 4294967296 :=
 sc_mk (isFn_of Tryz.func147 chk147) hn fun nx st hb => acall_mono (draw147 bs u nx st n0 (by omega) hbs) fun v H n ⟨x, st', nx', h1, h2, h3, h4, h5⟩ => ⟨x, st', nx', h1, ⟨h2, h3⟩, h4, h5⟩
theorem chk71 : chkFn Tryz.f71 = true := by kernel_rfl
theorem less_val {x : Int} {m : Nat} (x0 : 0 ≤ x) (x1 : x < 4294967296) (hm : 0 < m) : ∃ y : Nat, y < m ∧ (IntKind.i64.wrap (ishr .u32 x 4)).tmod m = y := by
 have h1 := shr_ge (b := 4) x0
 have h2 := shr_lt (b := 4) x0 x1
 generalize ishr .u32 x 4 = z at h1 h2
 have e : IntKind.i64.wrap z = z := by rw [IntKind.wrap_i64]; omega
 refine ⟨(z % m).toNat, ?_, ?_⟩
 ·have := Int.emod_lt_of_pos z (show (0 : Int) < m by omega)
  have := Int.emod_nonneg z (show (m : Int) ≠ 0 by omega)
  omega
 ·rw [e, Int.tmod_eq_emod_of_nonneg h1]
  have := Int.emod_nonneg z (show (m : Int) ≠ 0 by omega)
  omega
theorem sc71 (bs : List Int) (u : Bool) (n0 m : Nat) (hn : 0 < n0) (hbs : bs.length ≤ 1000) (hm : 0 < m) : SC 71 [iD m] bs u 1 n0 (fun y : Nat => iD y) fun y => y < m := by
 have c1 := sc147 bs u n0 hn hbs
 have hgt : decide ((m : Int) ≤ 0) = false := decide_eq_false (by omega)
 refine sc_mk (isFn_of Tryz.func71 chk71) hn fun nx st hb => ?_
 refine fn_walk pok Tryz.func71 chk71 ?_
 conv => whnf
 repeat' first | ((first | refine LookP.mk _ rfl ?_ | refine ShlP.mk _ (by first | (simp only [List.set, over, List.take, List.drop, List.append_eq, List.nil_append, List.cons_append, List.length]; rfl) | rfl) ?_ | refine And.intro (by first | assumption | exact ⟨by kernel_rfl, rfl⟩ | decide | omega | exact ⟨rfl, by decide, by simp only [List.length_map, Nat.zero_add]; omega⟩) ?_ | refine knownB hgt ?_ | refine HpP.force ?_); conv => whnf) | (intro t ht; cases t <;> conv => whnf)
 refine sc_use c1 (Nat.le_refl _) hb rfl ?_
 intro x st' nx' h1 hx
 obtain ⟨y, y1, y2⟩ := less_val hx.1 hx.2 hm
 conv => whnf
 repeat' first | ((first | refine LookP.mk _ rfl ?_ | refine ShlP.mk _ (by first | (simp only [List.set, over, List.take, List.drop, List.append_eq, List.nil_append, List.cons_append, List.length]; rfl) | rfl) ?_ | (refine And.intro (by first | exact (by omega : (m : Int) ≠ 0) | assumption | exact ⟨by kernel_rfl, rfl⟩ | decide | omega | exact ⟨rfl, by decide, by simp only [List.length_map, Nat.zero_add]; omega⟩) ?_) | refine HpP.force ?_); conv => whnf) | (intro t ht; cases t <;> conv => whnf)
 exact fin ⟨y, st', nx', h1, y1, congrArg (fun n => AV.d (iD n)) y2, rfl⟩
theorem chk63 : chkFn Tryz.f63 = true := by kernel_rfl
theorem sc63 (bs : List Int) (u : Bool) (n0 m : Nat) (hn : 0 < n0) (hbs : bs.length ≤ 1000) (hm : 0 < m) (hm2 : m < 1000000) : SC 63 [iD 1, iD m] bs u 1 n0 (fun y : Nat => iD y) fun y => 1 ≤ y ∧ y ≤ m := by
 have c1 := sc71 bs u n0 m hn hbs hm
 have e1 : iadd .i64 (isub .i64 (m : Int) 1) 1 = (m : Int) := by rw [isub_eq (by omega) (by omega), iadd_eq (by omega) (by omega)]; omega
 refine sc_mk (isFn_of Tryz.func63 chk63) hn fun nx st hb => ?_
 refine fn_walk pok Tryz.func63 chk63 ?_
 conv => whnf
 repeat' first | ((first | refine LookP.mk _ rfl ?_ | refine ShlP.mk _ (by first | (simp only [List.set, over, List.take, List.drop, List.append_eq, List.nil_append, List.cons_append, List.length]; rfl) | rfl) ?_ | refine And.intro (by first | assumption | exact ⟨by kernel_rfl, rfl⟩ | decide | omega | exact ⟨rfl, by decide, by simp only [List.length_map, Nat.zero_add]; omega⟩) ?_ | rw [e1] | refine HpP.force ?_); conv => whnf) | (intro t ht; cases t <;> conv => whnf)
 refine sc_use c1 (Nat.le_refl _) hb rfl ?_
 intro y st' nx' h1 hy
 have e2 : iadd .i64 1 (y : Int) = ((1 + y : Nat) : Int) := iadd_nat (a := 1) (by omega)
 conv => whnf
 repeat' first | ((first | refine LookP.mk _ rfl ?_ | refine ShlP.mk _ (by first | (simp only [List.set, over, List.take, List.drop, List.append_eq, List.nil_append, List.cons_append, List.length]; rfl) | rfl) ?_ | refine And.intro (by first | assumption | exact ⟨by kernel_rfl, rfl⟩ | decide | omega | exact ⟨rfl, by decide, by simp only [List.length_map, Nat.zero_add]; omega⟩) ?_ | refine HpP.force ?_); conv => whnf) | (intro t ht; cases t <;> conv => whnf)
 exact fin ⟨1 + y, st', nx', h1, ⟨by omega, by omega⟩, congrArg (fun n => AV.d (iD n)) e2, rfl⟩
end Go.Tz
namespace Go.AL
open Go
theorem acall_freeze1 {P : Program} {G : Nat → Option (List D)} {f : FuncId} {args : List AV} {H0 : AHeap} {n0 : Nat} {K K' : AV → AHeap → Nat → Prop} (h : ACall P G f args H0 n0 K) (hK : ∀ v H n, K v H n → ∃ nm b d, H.get nm = some b ∧ AsD [(nm, some b)] v d ∧ K' (.d d) (dels [nm] H) n) : ACall P G f args H0 n0 K' := by
 intro C vs hH hU hl hr
 refine (h C vs hH hU hl hr).mono ?_
 rintro e w' ⟨x, v, H', n, C', rfl, rfl, hk, hv, hHR, hU', hT⟩
 obtain ⟨nm, b, d, hg, ha, hk'⟩ := hK v H' n hk
 obtain ⟨C2, e1, e2, e3, g, tt, r, q⟩ := hrel_freezes [nm] hHR
 have hHL : HRel G C' [(nm, some b)] := hrel_dropS hHR fun m bl h => by
  by_cases em : m = nm
  ·subst em; rw [get_cons_same] at h; rw [hg, ← h]
  ·rw [get_cons_ne _ _ em] at h; cases h
 have hd : DRel C2.w C2.RO d x := by
  have := asD_relR hHL (RO := C2.RO) r (fun m bl j h1 h2 => by
   by_cases em : m = nm
   ·subst em; exact q m _ j (by simp) hg h2
   ·rw [get_cons_ne _ _ em] at h1; cases h1) ha x hv
  rw [e1]; exact this
 exact ⟨x, .d d, _, n, C2, rfl, e1, hk', .d _ _ hd, g, fun m hm => hU' m (by rw [← e2]; exact hm), tr_step hT tt⟩
end Go.AL
namespace Go.Tz
open Go Go.AL Go.Proofs Go.Shelf
theorem insert146n {G : Nat → Option (List D)} {nv n0 : Nat} (x : Int) : ACall Pr G 146 [.d (.sl [] true), .d (iD 0), .sl nv 1 0 1 1 true] [(nv, some (.arr 1 [[.d (iD x)]]))] n0
   fun v H n => ∃ r' : Nat, 1 ≤ r' ∧ r' ≤ 9223372036854775807 ∧ v = .sl n0 1 0 1 r' true ∧ H = [(n0, some (numsB [x]))] ∧ n = n0 + 1 := by
 intro C vs hH hU hsz hr
 have hn : ¬ C.U n0 := fun h => Nat.lt_irrefl _ (hU n0 h)
 have r0 := vrel_d (hr 0 _ rfl)
 have r1 := vrel_int (hr 1 _ rfl)
 have r2 := hr 2 _ rfl
 rw [arr3 (vs := vs) (by simpa using hsz), r1]
 have hgv : AHeap.get [(nv, some (Blk.arr 1 [[.d (iD x)]]))] nv = some (.arr 1 [[.d (iD x)]]) := by rw [get_consI, if_pos rfl]
 rcases vrel_sl r2 with ⟨kv, cv, csv, ev, fzv, hUv, hbv, hlv, hrv, htv, hhv, hsv, hx2⟩ | ⟨_, h, _⟩
 rotate_left
 ·cases h
 obtain ⟨csv0, ev0, hhv0, hrov, _, _, hcsv⟩ := brel_flat (hH.blk nv _ hgv).2 hbv
 rw [hhv] at hhv0; cases hhv0
 have hv0 : csv[0]? = some (.int .i64 x) := by
  obtain ⟨y, h1, h2⟩ := hcsv 0 (.d (iD x)) rfl
  rw [h1, vrel_int h2]
 have hvs : ∀ j v, [Value.int .i64 x][j]? = some v → C.w.cell? ⟨kv, 0 * 1 + j, none⟩ = some v := fun j v hj => by
  match j, hj with
  | 0, hj => cases hj; rw [cell_of hhv]; exact hv0
 have h1v : ∀ v ∈ [Value.int .i64 x], v.oneCell' = true := fun v hv => by rw [List.mem_singleton.1 hv]; rfl
 have hbase : ∃ a c, vs.getD 0 undef = .slice a 0 c ∧ c = 0 := by
  generalize vs.getD 0 undef = y at r0
  cases r0 with
  | sl0 _ a c ht => exact ⟨a, c, rfl, ht rfl⟩
  | sl _ _ b o c sz ws hro hc ht hsz hm hr => exact ⟨_, c, rfl, ht rfl⟩
 obtain ⟨a, c, ha, hc0⟩ := hbase
 subst hc0
 rw [ha, hx2]
 refine (Any2.slices_Insert_int_end_grow lays21 a 0 0 kv (0 * 1) 1 cv [] [.int .i64 x] C.w (by decide) (Nat.le_refl 0) (by decide) (by decide) rfl rfl (fun _ => rfl) (fun a _ j v hj => by simp at hj) hvs h1v).mono ?_
 rintro e w' ⟨rfl, rfl⟩
 have hg2 := grownCap_ge C.w (0 + 1) 0 (rnI.t 3)
 have hg3 := grownCap_le_maxLen C.w (0 + 1) 0 (rnI.t 3) (by unfold maxLen; omega)
 generalize grownCap C.w (0 + 1) 0 (rnI.t 3) = cap at hg2 hg3 ⊢
 have hc := nw_drew (nw_alloc C.w.drew (([] ++ [Value.int .i64 x]).toArray ++ Builtin.zeroCells (Value.int .i64 0).cells (cap - (0 + 1))) (rnI.t 3))
 have hq : ∀ (q : Nat) (v : Int), [x][q]? = some v → (([] ++ [Value.int .i64 x]).toArray ++ Builtin.zeroCells (Value.int .i64 0).cells (cap - (0 + 1)))[q]? = some (.int .i64 v) := fun q v hq => by
  match q, hq with
  | 0, hq => cases hq; rw [Array.getElem?_append_left (by simp)]; rfl
 obtain ⟨C', e1, e2, e3, e4, e5, e6⟩ := made2 (S := 1) hH hn hc (numsB_len [x]) (ints_rel hq)
 obtain ⟨e, at2⟩ := hc.at_
 have hsize : cap ≤ (([] ++ [Value.int .i64 x]).toArray ++ Builtin.zeroCells (Value.int .i64 0).cells (cap - (0 + 1))).size := by
  simp [Builtin.zeroCells, Value.cells]; omega
 refine ⟨_, _, _, _, C', rfl, e1, ⟨cap, hg2, by unfold maxLen at hg3; omega, rfl, rfl, rfl⟩, ?_, hrel_dropS e4 ?_, fun m hm => ?_, e5.anti ?_⟩
 ·have := VRel.sl (C := C') n0 1 0 1 cap true C.w.heap.size cap _ e (0, 0) e3 e2 hg2 (Nat.le_refl _) (fun _ => rfl) (by rw [e1]; exact at2) (by simpa using hsize)
  simpa using this
 ·intro a b hab
  rw [get_consI] at hab
  by_cases ea : a = n0
  ·rw [if_pos ea] at hab; rw [get_consI, if_pos ea]; exact hab
  ·rw [if_neg ea] at hab; cases hab
 ·rcases e6 m hm with h | h
  ·have := hU m h; omega
  ·omega
 ·intro a b hab
  rw [get_consI] at hab
  by_cases ea : a = n0
  ·rw [if_pos ea] at hab; rw [get_consI, if_pos ea]; exact hab
  ·rw [if_neg ea] at hab; cases hab
end Go.Tz
namespace Go.Tz
open Go Go.AL Go.Proofs
theorem ins_use {nm nv nx0 i r : Nat} {H : AHeap} {l : List Int} {x : Int} {k : AV → AHeap → Nat → Prop} (hi : i ≤ l.length) (hbig : l.length ≤ 1000) (hne : nm ≠ nv) (hr63 : r ≤ 9223372036854775807) (hg : H.get nm = some (numsB l)) (hgv : H.get nv = some (.arr 1 [[.d (iD x)]]))
  (hk : ∀ r' : Nat, l.length + 1 ≤ r' → r' ≤ 9223372036854775807 → k (.sl nx0 1 0 (l.length + 1) r' true) ((nx0, some (numsB (insL l i x))) :: (nm, none) :: (nv, none) :: H) (nx0 + 1)) :
  CallVC Pr GG 146 [.sl nm 1 0 l.length r true, .d (iD i), .sl nv 1 0 1 1 true] H nx0 k := by
 refine ⟨isFn146, acall_frame (insert146 (n0 := nx0) x hi hbig hne hr63) (Nat.le_refl _) (fun m b hm => ?_) ?_⟩
 ·rw [get_consI, get_consI] at hm
  by_cases e : m = nm
  ·rw [if_pos e] at hm; rw [e, hg, hm]
  ·rw [if_neg e] at hm
   by_cases e2 : m = nv
   ·rw [if_pos e2] at hm; rw [e2, hgv, hm]
   ·rw [if_neg e2] at hm; cases hm
 ·rintro v H1 n ⟨r', h1, h2, rfl, rfl, rfl⟩
  refine ⟨_, fun m b hm => ?_, hk r' h1 h2⟩
  rw [get_consI] at hm
  by_cases e : m = nx0
  ·rw [if_pos e] at hm; left; rw [get_consI, if_pos e, hm]
  ·rw [if_neg e] at hm
   right
   obtain ⟨a1, hm⟩ := get_drop hm
   obtain ⟨a2, hm⟩ := get_drop hm
   exact ⟨by rw [get_consI, if_neg a1, get_consI, if_neg a2]; rfl, hm⟩
theorem ins_useL {nm nv nx0 i r n : Nat} {H : AHeap} {l : List Int} {x : Int} {k : AV → AHeap → Nat → Prop} (hl : l.length = n) (hi : i ≤ n) (hbig : n ≤ 1000) (hne : nm ≠ nv) (hr63 : r ≤ 9223372036854775807) (hg : H.get nm = some (numsB l)) (hgv : H.get nv = some (.arr 1 [[.d (iD x)]]))
  (hk : ∀ r' : Nat, n + 1 ≤ r' → r' ≤ 9223372036854775807 → k (.sl nx0 1 0 (n + 1) r' true) ((nx0, some (numsB (insL l i x))) :: (nm, none) :: (nv, none) :: H) (nx0 + 1)) :
  CallVC Pr GG 146 [.sl nm 1 0 n r true, .d (iD i), .sl nv 1 0 1 1 true] H nx0 k := by
 subst hl
 exact ins_use hi hbig hne hr63 hg hgv hk
theorem insn_use {nv nx0 : Nat} {H : AHeap} {x : Int} {k : AV → AHeap → Nat → Prop} (hgv : H.get nv = some (.arr 1 [[.d (iD x)]]))
  (hk : ∀ r' : Nat, 1 ≤ r' → r' ≤ 9223372036854775807 → k (.sl nx0 1 0 1 r' true) ((nx0, some (numsB [x])) :: (nv, none) :: H) (nx0 + 1)) :
  CallVC Pr GG 146 [.d (.sl [] true), .d (iD 0), .sl nv 1 0 1 1 true] H nx0 k := by
 refine ⟨isFn146, acall_frame (insert146n (n0 := nx0) x) (Nat.le_refl _) (fun m b hm => ?_) ?_⟩
 ·rw [get_consI] at hm
  by_cases e2 : m = nv
  ·rw [if_pos e2] at hm; rw [e2, hgv, hm]
  ·rw [if_neg e2] at hm; cases hm
 ·rintro v H1 n ⟨r', h1, h2, rfl, rfl, rfl⟩
  refine ⟨_, fun m b hm => ?_, hk r' h1 h2⟩
  rw [get_consI] at hm
  by_cases e : m = nx0
  ·rw [if_pos e] at hm; left; rw [get_consI, if_pos e, hm]
  ·rw [if_neg e] at hm
   right
   obtain ⟨a2, hm⟩ := get_drop hm
   exact ⟨by rw [get_consI, if_neg a2]; rfl, hm⟩
def Ord (n : Nat) (l : List Int) : Prop := l.length = n ∧ l.Nodup ∧ ∀ x, x ∈ l → 0 ≤ x ∧ x < n
theorem ord_ins {n i : Nat} {l : List Int} (h : Ord n l) (hi : i ≤ n) : Ord (n + 1) (insL l i n) := by
 obtain ⟨h1, h2, h3⟩ := h
 have hp : (insL l i (n : Int)).Perm ((n : Int) :: l) := by
  unfold insL
  refine List.perm_middle.trans ?_
  rw [List.take_append_drop]
 refine ⟨by rw [insL_len (by omega), h1], hp.nodup_iff.2 (List.nodup_cons.2 ⟨fun hm => ?_, h2⟩), fun x hx => ?_⟩
 ·have := (h3 _ hm).2; omega
 ·rcases List.mem_cons.1 (hp.mem_iff.1 hx) with rfl | q
  ·exact ⟨by omega, by omega⟩
  ·have := h3 x q; exact ⟨this.1, by omega⟩
theorem chk70 : chkFn Tryz.f70 = true := by kernel_rfl
abbrev stOr (bs : List Int) (u : Bool) (n : Nat) (s : Nat × List Int × Nat × Int × Nat) : St := match s.1 with
 | 0 => ⟨[(0, .ptr 0 3 0 0), (5, .d (.sl [] true)), (7, .d (iD n)), (8, .d (iD (0 : Nat)))], [(0, some (storeB bs u s.2.2.2.2 s.2.2.2.1))], 100⟩
 | i + 1 => ⟨[(0, .ptr 0 3 0 0), (5, .sl 100 1 0 (i + 1) s.2.2.1 true), (7, .d (iD n)), (8, .d (iD (i + 1 : Nat)))], [(0, some (storeB bs u s.2.2.2.2 s.2.2.2.1)), (100, some (numsB s.2.1))], 101⟩
theorem order70 (bs : List Int) (u : Bool) (n nx : Nat) (st : Int) (hn0 : 0 < n) (hn : n ≤ 100) (hbs : bs.length ≤ 1000) (hb : nx + n ≤ 4611686018427387904) :
  ACall Pr GG 70 [.ptr 0 3 0 0, .d (iD n)] [(0, some (storeB bs u nx st))] 100 fun v H _ => ∃ (l : List Int) (t : Bool) (st' : Int) (nx' : Nat), nx' ≤ nx + n ∧ Ord n l ∧ v = .d (intsD l t) ∧ H.get 0 = some (storeB bs u nx' st') := by
 refine acall_mono (acall_freeze1 (K' := fun v H _ => ∃ (l : List Int) (t : Bool) (st' : Int) (nx' : Nat), nx' ≤ nx + n ∧ Ord n l ∧ v = .d (intsD l t) ∧ H.get 0 = some (storeB bs u nx' st')) (K := fun v H _ => ∃ (l : List Int) (r : Nat) (st' : Int) (nx' : Nat), nx' ≤ nx + n ∧ Ord n l ∧ 0 < n ∧ v = .sl 100 1 0 n r true ∧ H.get 0 = some (storeB bs u nx' st') ∧ H.get 100 = some (numsB l)) ?_ ?_) fun _ _ _ h => h
 ·refine fn_walk pok Tryz.func70 chk70 ?_
  conv => whnf
  repeat' first | ((first | refine LookP.mk _ rfl ?_ | refine ShlP.mk _ (by first | (simp only [List.set, over, List.take, List.drop, List.append_eq, List.nil_append, List.cons_append, List.length]; rfl) | rfl) ?_ | refine And.intro (by first | assumption | exact ⟨by kernel_rfl, rfl⟩ | decide | omega | exact ⟨rfl, by decide, by simp only [List.length_map, Nat.zero_add]; omega⟩) ?_ | refine HpP.force ?_); conv => whnf) | (intro t ht; cases t <;> conv => whnf)
  refine loop_use2 (σ := { s : Nat × List Int × Nat × Int × Nat // s.1 ≤ n ∧ Ord s.1 s.2.1 ∧ s.2.2.1 ≤ 9223372036854775807 ∧ s.2.2.2.2 ≤ nx + s.1 }) (fun s => stOr bs u n s.1) (fun s => n - s.1.1) ⟨(0, [], 0, st, nx), Nat.zero_le _, ⟨rfl, List.nodup_nil, fun x hx => by cases hx⟩, Nat.zero_le _, Nat.le_refl _⟩ ?_ (by kernel_rfl) ?_
  ·refine keep_env (by first | exact Nat.zero_le _ | exact Nat.le_of_ble_eq_true rfl) ?_ ?_ trivial
   ·repeat' first | exact trivial | refine ⟨⟨by first | rfl | assumption, rfl⟩, ?_⟩
   ·repeat' first | exact trivial | refine ⟨⟨ltB rfl, _, rfl, by first | rfl | assumption, by first | exact below1 rfl | exact below_dblk _ _ _ | exact below_arr rfl⟩, ?_⟩
  ·rintro ⟨⟨i, l, r, st', nx'⟩, h1, h2, h3, h4⟩ A hA
   dsimp only at h1 h2 h3 h4 hA ⊢
   have e1 : iadd .i64 (i : Int) 1 = ((i + 1 : Nat) : Int) := iadd_nat (b := 1) (by omega)
   cases i with
   | zero =>
    have c1 := sc71 bs u 101 1 (by decide) hbs (by decide)
    conv => whnf
    repeat' first | ((first | refine LookP.mk _ rfl ?_ | refine ShlP.mk _ (by first | (simp only [List.set, over, List.take, List.drop, List.append_eq, List.nil_append, List.cons_append, List.length]; rfl) | rfl) ?_ | refine And.intro (by first | assumption | exact ⟨by kernel_rfl, rfl⟩ | decide | omega | exact ⟨rfl, by decide, by simp only [List.length_map, Nat.zero_add]; omega⟩) ?_ | refine HpP.force ?_); conv => whnf) | (intro t ht; cases t <;> conv => whnf)
    ·exfalso; simp at ht; omega
    have e0 : iadd .i64 ((0 : Nat) : Int) 1 = ((1 : Nat) : Int) := rfl
    rw [e0]
    refine sc_use (nx := nx') (st := st') c1 (by decide) (by omega) rfl ?_
    intro y st2 nx2 g1 g2
    obtain rfl : y = 0 := by omega
    conv => whnf
    repeat' first | ((first | refine LookP.mk _ rfl ?_ | refine ShlP.mk _ (by first | (simp only [List.set, over, List.take, List.drop, List.append_eq, List.nil_append, List.cons_append, List.length]; rfl) | rfl) ?_ | refine And.intro (by first | assumption | exact ⟨by kernel_rfl, rfl⟩ | decide | omega | exact ⟨rfl, by decide, by simp only [List.length_map, Nat.zero_add]; omega⟩) ?_ | refine HpP.force ?_); conv => whnf) | (intro t ht; cases t <;> conv => whnf)
    refine insn_use rfl ?_
    intro r' r1 r2
    conv => whnf
    repeat' first | ((first | refine LookP.mk _ rfl ?_ | refine ShlP.mk _ (by first | (simp only [List.set, over, List.take, List.drop, List.append_eq, List.nil_append, List.cons_append, List.length]; rfl) | rfl) ?_ | refine And.intro (by first | assumption | exact ⟨by kernel_rfl, rfl⟩ | decide | omega | exact ⟨rfl, by decide, by simp only [List.length_map, Nat.zero_add]; omega⟩) ?_ | refine HpP.force ?_); conv => whnf) | (intro t ht; cases t <;> conv => whnf)
    refine hA _ ⟨(1, [((0 : Nat) : Int)], r', st2, nx2), by omega, ord_ins (n := 0) (i := 0) ⟨rfl, List.nodup_nil, fun x hx => by cases hx⟩ (Nat.le_refl 0), r2, by show nx2 ≤ nx + 1; omega⟩ ?_ (by show n - 1 < n - 0; omega)
    first | refine ren_env [(100, 102)] ?_ ?_ ?_ trivial | refine ren_envB [(100, 102)] rfl rfl ?_ ?_ ?_ trivial
    ·repeat' first | exact trivial | refine ⟨⟨by first | rfl | assumption | exact congrArg (fun n => AV.d (iD n)) e0, rfl⟩, ?_⟩
    ·repeat' first | exact trivial | refine ⟨⟨ltB rfl, _, rfl, by first | rfl | assumption | exact get_ren rfl (by first | rfl | assumption | exact get_ren rfl rfl) | exact get_ren rfl rfl, by first | exact below1 rfl | exact below_dblk _ _ _ | exact below_arr rfl⟩, ?_⟩
    ·repeat' first | exact trivial | (refine And.intro ?_ ?_) | (exact fun _ => rfl) | (exact fun h => absurd h (Nat.ne_of_beq_eq_false rfl))
   | succ i =>
    have c1 := sc71 bs u 101 (i + 1 + 1) (by decide) hbs (by omega)
    have hl : l.length = i + 1 := h2.1
    conv => whnf
    repeat' first | ((first | refine LookP.mk _ rfl ?_ | refine ShlP.mk _ (by first | (simp only [List.set, over, List.take, List.drop, List.append_eq, List.nil_append, List.cons_append, List.length]; rfl) | rfl) ?_ | refine And.intro (by first | assumption | exact ⟨by kernel_rfl, rfl⟩ | decide | omega | exact ⟨rfl, by decide, by simp only [List.length_map, Nat.zero_add]; omega⟩) ?_ | refine HpP.force ?_); conv => whnf) | (intro t ht; cases t <;> conv => whnf)
    ·have hin : i + 1 = n := by
      have := of_decide_eq_false ht
      omega
     subst hin
     exact fin ⟨l, r, st', nx', h4, h2, hn0, rfl, rfl, rfl⟩
    have hlt : i + 1 < n := by
     have := of_decide_eq_true ht
     omega
    rw [e1]
    refine sc_use (nx := nx') (st := st') c1 (by decide) (by omega) rfl ?_
    intro y st2 nx2 g1 g2
    conv => whnf
    repeat' first | ((first | refine LookP.mk _ rfl ?_ | refine ShlP.mk _ (by first | (simp only [List.set, over, List.take, List.drop, List.append_eq, List.nil_append, List.cons_append, List.length]; rfl) | rfl) ?_ | refine And.intro (by first | assumption | exact ⟨by kernel_rfl, rfl⟩ | decide | omega | exact ⟨rfl, by decide, by simp only [List.length_map, Nat.zero_add]; omega⟩) ?_ | refine HpP.force ?_); conv => whnf) | (intro t ht; cases t <;> conv => whnf)
    refine ins_useL hl (by omega) (by omega) (by decide) h3 rfl rfl ?_
    intro r' r1 r2
    conv => whnf
    repeat' first | ((first | refine LookP.mk _ rfl ?_ | refine ShlP.mk _ (by first | (simp only [List.set, over, List.take, List.drop, List.append_eq, List.nil_append, List.cons_append, List.length]; rfl) | rfl) ?_ | refine And.intro (by first | assumption | exact ⟨by kernel_rfl, rfl⟩ | decide | omega | exact ⟨rfl, by decide, by simp only [List.length_map, Nat.zero_add]; omega⟩) ?_ | refine HpP.force ?_); conv => whnf) | (intro t ht; cases t <;> conv => whnf)
    refine hA _ ⟨(i + 1 + 1, insL l y ((i + 1 : Nat) : Int), r', st2, nx2), hlt, ord_ins h2 (by omega), r2, by show nx2 ≤ nx + (i + 1 + 1); omega⟩ ?_ (by show n - (i + 1 + 1) < n - (i + 1); omega)
    first | refine ren_env [(100, 102)] ?_ ?_ ?_ trivial | refine ren_envB [(100, 102)] rfl rfl ?_ ?_ ?_ trivial
    ·repeat' first | exact trivial | refine ⟨⟨by first | rfl | assumption | exact congrArg (fun n => AV.d (iD n)) e1, rfl⟩, ?_⟩
    ·repeat' first | exact trivial | refine ⟨⟨ltB rfl, _, rfl, by first | rfl | assumption | exact get_ren rfl (by first | rfl | assumption | exact get_ren rfl (by rw [ren_dblk])) | exact get_ren rfl (by rw [ren_dblk]), by first | exact below1 rfl | exact below_dblk _ _ _ | exact below_arr rfl⟩, ?_⟩
    ·repeat' first | exact trivial | (refine And.intro ?_ ?_) | (exact fun _ => rfl) | (exact fun h => absurd h (Nat.ne_of_beq_eq_false rfl))
 ·rintro v H m ⟨l, r, st', nx', h1, h2, h3, rfl, g0, g1⟩
  have hd : AHeap.get (dels [100] H) 0 = some (storeB bs u nx' st') := by
   show (AHeap.del H 100).get 0 = _
   rw [get_del, if_neg (by decide)]; exact g0
  refine ⟨100, _, intsD l (true && decide (r = n)), g1, ?_, l, _, st', nx', h1, h2, rfl, hd⟩
  have := asD_pre (H := [(100, some (numsB l))]) (nm := 100) (sz := 1) (l := l.map fun x => [iD x]) (len := n) (room := r) (t := true) rfl (by rw [List.length_map, h2.1]; exact Nat.le_refl _)
  rwa [List.take_of_length_le (by rw [List.length_map, h2.1]; exact Nat.le_refl _)] at this
end Go.Tz
namespace Go.Tz
open Go Go.AL Go.Proofs
theorem sc70 (bs : List Int) (u : Bool) (n : Nat) (hn0 : 0 < n) (hn : n ≤ 100) (hbs : bs.length ≤ 1000) : SC 70 [iD n] bs u n 100 (fun p : List Int × Bool => intsD p.1 p.2) fun p => Ord n p.1 :=
 sc_mk (isFn_of Tryz.func70 chk70) (by decide) fun nx st hb => acall_mono (order70 bs u n nx st hn0 hn hbs hb) fun _ _ _ ⟨l, t, st', nx', h1, h2, h3, h4⟩ => ⟨(l, t), st', nx', h1, h2, h3, h4⟩
theorem chk140 : chkFn Tryz.f140 = true := by kernel_rfl
theorem ar140 (k : Int) : PC Pr GG 140 [iD k] (iD (arI k)) := by
 refine pc_walk pok Tryz.func140 chk140 ?_
 conv => whnf
 repeat' first | ((first | refine LookP.mk _ rfl ?_ | refine ShlP.mk _ (by first | (simp only [List.set, over, List.take, List.drop, List.append_eq, List.nil_append, List.cons_append, List.length]; rfl) | rfl) ?_ | refine And.intro (by first | assumption | exact ⟨by kernel_rfl, rfl⟩ | decide | omega | exact ⟨rfl, by decide, by simp only [List.length_map, Nat.zero_add]; omega⟩) ?_ | refine HpP.force ?_); conv => whnf) | (intro t ht; cases t <;> conv => whnf)
 all_goals refine fin ?_
 all_goals refine fiI ?_
 all_goals simp at *
 all_goals first | exact (ari1 (by omega)).symm | exact (ari2 (by omega)).symm | exact (ari3 (by omega)).symm | exact (ari0 (by omega)).symm
def cfL : List Int := [1, 2, 3, 4, 5, 6, 9, 10, 11]
abbrev cfD : D := .sl (cfL.map fun k => [iD k]) false
structure GtOk (w : Nat) (g : Gt) : Prop where
 chk : gchk g w 0 = 0
 kind : kindB g.k = true
 len : g.ws.length ≤ 2
 i0 : g.i = 0
theorem gt_ok {w a : Nat} {k : Int} {l : List Int} {t : Bool} (ho : Ord w l) (hk : kindB k = true) (ha : arI k = a) (haw : a ≤ w) : GtOk w ⟨k, l.take a, t, 0, 0⟩ := by
 obtain ⟨h1, h2, h3⟩ := ho
 have hk' := of_decide_eq_true hk
 have ha2 : a = 1 ∨ a = 2 := by
  rcases hk' with q | q
  ·rw [ari1 (by omega)] at ha; omega
  ·rw [ari2 q] at ha; omega
 have hlen : (l.take a).length = a := by rw [List.length_take, h1]; omega
 refine ⟨?_, hk, by show (l.take a).length ≤ 2; omega, rfl⟩
 unfold gchk
 dsimp only
 rw [if_neg (by omega), if_neg (by rw [hlen, ha]; simp)]
 have ho : outB w (l.take a) = false := List.any_eq_false.2 fun x hx => by
  have := h3 x (List.mem_of_mem_take hx)
  simp; omega
 have hd : dupB (l.take a) = false := dupB_no fun j hj => by
  rw [dupAt_lt hj]
  refine decide_eq_false fun hm => ?_
  obtain ⟨i, hi, he⟩ := List.mem_take_iff_getElem.1 hm
  have hnd : (l.take a).Nodup := h2.sublist (List.take_sublist _ _)
  exact List.pairwise_iff_getElem.1 hnd i j (by omega) hj (by omega) he
 rw [ho, hd, if_neg (by decide), if_neg (by decide)]
 unfold bitE
 dsimp only
 rw [if_neg (by omega), if_neg (by omega)]
theorem cf_get {y : Nat} (h : y < 9) : ∃ k : Int, (cfL.map fun k => [iD k])[(y : Int).toNat]? = some [iD k] ∧ kindB k = true ∧ ∃ a : Nat, arI k = a ∧ a ≤ 2 := by
 have : ((List.range 9).all fun y => match cfL[y]? with
  | some k => kindB k && (decide (arI k = 1) || decide (arI k = 2))
  | none => false) = true := by kernel_rfl
 have hy := List.all_eq_true.1 this y (List.mem_range.2 h)
 split at hy
 ·rename_i k hk
  simp only [Bool.and_eq_true, Bool.or_eq_true, decide_eq_true_eq] at hy
  refine ⟨k, by rw [Int.toNat_natCast, List.getElem?_map, hk]; rfl, hy.1, ?_⟩
  rcases hy.2 with q | q
  ·exact ⟨1, q, by decide⟩
  ·exact ⟨2, q, by decide⟩
 ·cases hy
theorem ints_len (l : List Int) : ∀ el : List D, el ∈ (l.map fun x => [iD x]) → el.length = 1 := fun el h => by
 obtain ⟨x, _, rfl⟩ := List.mem_map.1 h; rfl
theorem chk65 : chkFn Tryz.f65 = true := by kernel_rfl
theorem sc65 (bs : List Int) (u : Bool) (w : Nat) (hw : 1 ≤ w ∧ w ≤ 12) (hbs : bs.length ≤ 1000) : SC 65 [iD w, cfD] bs u 13 90 Gt.d fun g => GtOk w g := by
 have c1 := sc71 bs u 91 9 (by decide) hbs (by decide)
 have c2 := sc70 bs u w (by omega) (by omega) hbs
 refine sc_mk (isFn_of Tryz.func65 chk65) (by decide) fun nx st hb => ?_
 refine fn_walk pok Tryz.func65 chk65 ?_
 conv => whnf
 repeat' first | ((first | refine LookP.mk _ rfl ?_ | refine ShlP.mk _ (by first | (simp only [List.set, over, List.take, List.drop, List.append_eq, List.nil_append, List.cons_append, List.length]; rfl) | rfl) ?_ | refine And.intro (by first | assumption | exact ⟨by kernel_rfl, rfl⟩ | decide | omega | exact ⟨rfl, by decide, by simp only [List.length_map, Nat.zero_add]; omega⟩) ?_ | refine HpP.force ?_); conv => whnf) | (intro t ht; cases t <;> conv => whnf)
 refine sc_use (nx := nx) (st := st) c1 (by decide) (by omega) rfl ?_
 intro y st1 nx1 g1 g2
 obtain ⟨k, k1, k2, a, k3, k4⟩ := cf_get g2
 have c3 := ar140 k
 rw [k3] at c3
 conv => whnf
 repeat' first | ((first | refine LookP.mk _ (by first | rfl | exact k1) ?_ | refine ShlP.mk _ (by first | (simp only [List.set, over, List.take, List.drop, List.append_eq, List.nil_append, List.cons_append, List.length]; rfl) | rfl) ?_ | (refine And.intro (by first | exact ⟨Int.natCast_nonneg _, by simp only [List.length_map]; show _ < ((9 : Nat) : Int); omega⟩ | assumption | exact ⟨by kernel_rfl, rfl⟩ | decide | omega | exact ⟨rfl, by decide, by simp only [List.length_map, Nat.zero_add]; omega⟩) ?_) | refine pc_use c3 ?_ | refine pc_head c3 ?_ | refine HpP.force ?_); conv => whnf) | (intro t ht; cases t <;> conv => whnf)
 ·have hw2 : a ≤ w := by
   have := of_decide_eq_false ht
   omega
  refine sc_use (nx := nx1) (st := st1) c2 (by decide) (by omega) rfl ?_
  rintro ⟨l, t⟩ st2 nx2 g3 g4
  dsimp only at g4 ⊢
  have hsl : (0 ≤ (a : Int).toNat ∧ (a : Int).toNat ≤ (l.map fun x => [iD x]).length ∧ ∀ el : List D, el ∈ (l.map fun x => [iD x]) → el.length = 1) := ⟨Nat.zero_le _, by rw [List.length_map, g4.1]; omega, ints_len l⟩
  have hsE : (l.map fun x => [iD x]).take ((a : Int).toNat - 0) = (l.take a).map fun x => [iD x] := by rw [Int.toNat_natCast, Nat.sub_zero, List.map_take]
  conv => whnf
  repeat' first | ((first | refine LookP.mk _ rfl ?_ | refine ShlP.mk _ (by first | (simp only [List.set, over, List.take, List.drop, List.append_eq, List.nil_append, List.cons_append, List.length]; rfl) | rfl) ?_ | refine And.intro (by first | exact hsl | assumption | exact ⟨by kernel_rfl, rfl⟩ | decide | omega | exact ⟨rfl, by decide, by simp only [List.length_map, Nat.zero_add]; omega⟩) ?_ | refine pc_use c3 ?_ | refine pc_head c3 ?_ | rw [hsE] | refine HpP.force ?_); conv => whnf) | (intro t ht; cases t <;> conv => whnf)
  exact fin ⟨⟨k, l.take a, _, 0, 0⟩, st2, nx2, by omega, gt_ok g4 k2 k3 hw2, rfl, rfl⟩
 ·have c4 : PC Pr GG 140 [iD 1] (iD (1 : Nat)) := ar140 1
  refine sc_use (nx := nx1) (st := st1) c2 (by decide) (by omega) rfl ?_
  rintro ⟨l, t⟩ st2 nx2 g3 g4
  dsimp only at g4 ⊢
  have hsl : (0 ≤ ((1 : Nat) : Int).toNat ∧ ((1 : Nat) : Int).toNat ≤ (l.map fun x => [iD x]).length ∧ ∀ el : List D, el ∈ (l.map fun x => [iD x]) → el.length = 1) := ⟨Nat.zero_le _, by rw [List.length_map, g4.1]; omega, ints_len l⟩
  have hsE : (l.map fun x => [iD x]).take (((1 : Nat) : Int).toNat - 0) = (l.take 1).map fun x => [iD x] := by rw [Int.toNat_natCast, Nat.sub_zero, List.map_take]
  conv => whnf
  repeat' first | ((first | refine LookP.mk _ rfl ?_ | refine ShlP.mk _ (by first | (simp only [List.set, over, List.take, List.drop, List.append_eq, List.nil_append, List.cons_append, List.length]; rfl) | rfl) ?_ | refine And.intro (by first | exact hsl | assumption | exact ⟨by kernel_rfl, rfl⟩ | decide | omega | exact ⟨rfl, by decide, by simp only [List.length_map, Nat.zero_add]; omega⟩) ?_ | refine pc_use c4 ?_ | refine pc_head c4 ?_ | rw [hsE] | refine HpP.force ?_); conv => whnf) | (intro t ht; cases t <;> conv => whnf)
  exact fin ⟨⟨1, l.take 1, _, 0, 0⟩, st2, nx2, by omega, gt_ok (a := 1) g4 rfl rfl (by omega), rfl, rfl⟩
end Go.Tz
namespace Go.Tz
open Go Go.AL Go.Proofs
abbrev ksC (w m i : Nat) : List (Nat × AV) := [(0, .ptr 0 3 0 0), (1, .d (iD w)), (3, .d cfD), (8, .ptr 80 3 0 0), (9, .ptr 81 3 0 0), (15, .d (iD m)), (16, .d (iD i))]
abbrev r80 : Blk := .arr 3 [[.d (iD 0), .d (iD 0), .d (.sl [] true)]]
abbrev c81 (w nm i : Nat) : Blk := .arr 3 [[.d (iD w), .d (iD 0), .sl nm 4 0 i i false]]
def valC (w i : Nat) (g : Gt) : Nat → AV
 | 0 => .ptr 81 3 0 (0 + 2)
 | 1 => .sl 82 4 0 i i false
 | 2 => .ptr 0 3 0 0
 | 3 => .d (iD w)
 | 4 => .d cfD
 | 5 => .d g.d
 | 6 => .sl 90 4 0 1 1 true
 | 7 => .sl 91 4 0 (i + 1) (i + 1) false
 | _ => .ptr 81 3 0 (0 + 2)
structure SS (bs : List Int) (u : Bool) (w m i nx : Nat) (st : Int) (gs : List Gt) (g : Gt) (nx' : Nat) (st' : Int) (L : Nat → Bool) (s : St) : Prop where
 kp : ∀ t v, (t, v) ∈ ksC w m i → lk s.env t = v
 hr : s.heap.get 80 = some r80
 c0 : L 9 = false → s.heap.get 81 = some (c81 w 82 i)
 c1 : L 9 = true → s.heap.get 81 = some (c81 w 91 (i + 1))
 s0 : L 5 = false → s.heap.get 0 = some (storeB bs u nx st) ∧ s.nx = 83
 s1 : L 5 = true → s.heap.get 0 = some (storeB bs u nx' st')
 n5 : L 5 = true → L 6 = false → s.nx = 90
 n6 : L 6 = true → L 7 = false → s.nx = 91
 n7 : L 7 = true → s.nx = 92
 o6 : L 6 = true → L 5 = true
 o7 : L 7 = true → L 6 = true ∧ L 1 = true
 o9 : L 9 = true → L 7 = true
 g82 : L 7 = false → s.heap.get 82 = some (dblk 4 (gs.map Gt.l))
 b90 : L 6 = true → s.heap.get 90 = some (.arr 4 [g.l.map AV.d])
 b91 : L 7 = true → s.heap.get 91 = some (dblk 4 ((gs ++ [g]).map Gt.l))
 v : ∀ j, j < 9 → L j = true → lk s.env (18 + j) = valC w i g j
variable {bs : List Int} {u : Bool} {w m i nx nx' : Nat} {st st' : Int} {gs : List Gt} {g : Gt}
theorem ks_lt {t : Nat} {v : AV} (h : (t, v) ∈ ksC w m i) : t < 18 := by
 simp only [ksC, List.mem_cons, Prod.mk.injEq, List.not_mem_nil, or_false] at h
 omega
theorem ss_put {L : Nat → Bool} {s : St} {a : Nat} {v : AV} (h : SS bs u w m i nx st gs g nx' st' L s) (ha : a < 9) (h5 : a ≠ 5) (h6 : a ≠ 6) (h7 : a ≠ 7) (hv : valC w i g a = v) : SS bs u w m i nx st gs g nx' st' (fun j => if j = a then true else L j) (s.put (some (18 + a)) v) := by
 subst hv
 have e5 : (if 5 = a then true else L 5) = L 5 := if_neg (Ne.symm h5)
 have e6 : (if 6 = a then true else L 6) = L 6 := if_neg (Ne.symm h6)
 have e7 : (if 7 = a then true else L 7) = L 7 := if_neg (Ne.symm h7)
 have e9 : (if 9 = a then true else L 9) = L 9 := if_neg (by omega)
 refine ⟨fun t v hm => ?_, h.hr, ?_, ?_, ?_, ?_, ?_, ?_, ?_, ?_, ?_, ?_, ?_, ?_, ?_, fun j hj hl => ?_⟩ <;> (try simp only [e5, e6, e7, e9])
 ·have := ks_lt hm
  rw [lk_put_ne (by omega)]
  exact h.kp t v hm
 ·exact h.c0
 ·exact h.c1
 ·exact h.s0
 ·exact h.s1
 ·exact h.n5
 ·exact h.n6
 ·exact h.n7
 ·exact h.o6
 ·exact fun q => ⟨(h.o7 q).1, by by_cases e : 1 = a <;> simp [e, (h.o7 q).2]⟩
 ·exact h.o9
 ·exact h.g82
 ·exact h.b90
 ·exact h.b91
 ·by_cases e : j = a
  ·subst e; exact lk_cons_same _ _ _
  ·rw [lk_put_ne (by omega)]
   simp only [if_neg e] at hl
   exact h.v j hj hl
noncomputable def opsC : Array Oper := (Tryz.f139.body.bind (findReg 4)).getD #[]
theorem regC (hw : 1 ≤ w ∧ w ≤ 12) (hbs : bs.length ≤ 1000) (hnx : nx + 13 ≤ 4611686018427387904) (hl : gs.length = i) (hi : i ≤ 1000) {s0 : St} (S0 : SS bs u w m i nx st gs g nx' st' (fun _ => false) s0) {k : Exit → St → Prop}
  (hk : ∀ L s' g nx' st', GtOk w g → nx' ≤ nx + 13 → SS bs u w m i nx st gs g nx' st' L s' → (∀ a, a < 10 → L a = true) → ∃ st'', Sub GG 80 [] s' st'' ∧ k .normal st'') : RegVC Pr GG Tryz.f139.ntmps 80 [] 4 opsC s0 k := by
 refine ⟨fun r => awp_any pok.mixed (edgeB_ok (by kernel_rfl)) (fun L s => ∃ g nx' st', (L 5 = true → GtOk w g ∧ nx' ≤ nx + 13) ∧ SS bs u w m i nx st gs g nx' st' L s) ⟨g, nx', st', ⟨fun h => (nomatch h), S0⟩⟩ ?_ ?_⟩
 ·rintro L s a op ⟨g, nx', st', hg, hS⟩ hL ho hall
  have ha : a < 10 := (Array.getElem?_eq_some_iff.1 ho).1
  have v := hS.v
  have T65 := pok.tab.get (t := 65) rfl
  have T63 := pok.tab.get (t := 63) rfl
  have T67 := pok.tab.get (t := 67) rfl
  have keep : ∀ {c : Nat}, c ≠ 5 → ((if 5 = c then true else L 5) = true → GtOk w g ∧ nx' ≤ nx + 13) := fun hc h => hg (by rwa [if_neg (Ne.symm hc)] at h)
  have cases10 : a = 0 ∨ a = 1 ∨ a = 2 ∨ a = 3 ∨ a = 4 ∨ a = 5 ∨ a = 6 ∨ a = 7 ∨ a = 8 ∨ a = 9 := by omega
  rcases cases10 with rfl | rfl | rfl | rfl | rfl | rfl | rfl | rfl | rfl | rfl
  all_goals
   have ho := Option.some.inj (show some _ = some op from ho)
   subst ho
   refine ⟨rfl, ?_⟩
  ·exact opwp_pure (fun c h => by cases h) (pure_fieldAddr rfl (T65.fld rfl rfl) (hS.kp 9 _ (List.mem_of_getElem? (i := 4) rfl))) rfl ⟨g, nx', st', keep (by decide), ss_put hS (a := 0) (by decide) (by decide) (by decide) (by decide) rfl⟩
  ·have q := v 0 (by decide) (hall ⟨0, .data⟩ (Array.mem_of_getElem? (i := 0) rfl) rfl)
   have h9 : L 9 = false := by
    cases h : L 9 with
    | false => rfl
    | true => exact absurd (hS.o7 (hS.o9 h)).2 (by rw [hL]; decide)
   exact opwp_pure (fun c h => by cases h) (pure_load rfl T63.tok (fun _ => rfl) q (hS.c0 h9) rfl rfl rfl) rfl ⟨g, nx', st', keep (by decide), ss_put hS (a := 1) (by decide) (by decide) (by decide) (by decide) rfl⟩
  ·exact opwp_pure (fun c h => by cases h) (pure_move rfl (hS.kp 0 _ (List.mem_of_getElem? (i := 0) rfl))) rfl ⟨g, nx', st', keep (by decide), ss_put hS (a := 2) (by decide) (by decide) (by decide) (by decide) rfl⟩
  ·exact opwp_pure (fun c h => by cases h) (pure_move rfl (hS.kp 1 _ (List.mem_of_getElem? (i := 1) rfl))) rfl ⟨g, nx', st', keep (by decide), ss_put hS (a := 3) (by decide) (by decide) (by decide) (by decide) rfl⟩
  ·exact opwp_pure (fun c h => by cases h) (pure_move rfl (hS.kp 3 _ (List.mem_of_getElem? (i := 2) rfl))) rfl ⟨g, nx', st', keep (by decide), ss_put hS (a := 4) (by decide) (by decide) (by decide) (by decide) rfl⟩
  ·have q2 := v 2 (by decide) (hall ⟨2, .data⟩ (Array.mem_of_getElem? (i := 0) rfl) rfl)
   have q3 := v 3 (by decide) (hall ⟨3, .data⟩ (Array.mem_of_getElem? (i := 1) rfl) rfl)
   have q4 := v 4 (by decide) (hall ⟨4, .data⟩ (Array.mem_of_getElem? (i := 2) rfl) rfl)
   obtain ⟨e0, enx⟩ := hS.s0 hL
   have n6 : L 6 = false := by
    cases h : L 6 with
    | false => rfl
    | true => exact absurd (hS.o6 h) (by rw [hL]; decide)
   have n7 : L 7 = false := by
    cases h : L 7 with
    | false => rfl
    | true => exact absurd (hS.o7 h).1 (by rw [n6]; decide)
   have n9 : L 9 = false := by
    cases h : L 9 with
    | false => rfl
    | true => exact absurd (hS.o9 h) (by rw [n7]; decide)
   have hc := sc_use (nx0 := s.nx) (nx := nx) (st := st) (H := s.heap) (k := fun v H' n' => ∃ g nx' st', ((if 5 = 5 then true else L 5) = true → GtOk w g ∧ nx' ≤ nx + 13) ∧ SS bs u w m i nx st gs g nx' st' (fun j => if j = 5 then true else L j) (({ env := s.env, heap := H', nx := n' } : St).put (some 23) v)) (sc65 bs u w hw hbs) (by omega) hnx e0 ?_
   ·obtain ⟨hf, hc⟩ := hc
    refine opwp_call (f := 65) (fi := []) (ca := []) (l := [.ptr 0 3 0 0, .d (iD w), .d cfD]) rfl rfl hf ?_ rfl hc
    show [] ++ [lk s.env 20, lk s.env 21, lk s.env 22] ++ [] = _
    rw [show lk s.env 20 = _ from q2, show lk s.env 21 = _ from q3, show lk s.env 22 = _ from q4]; rfl
   ·intro g2 st2 nx2 hb2 hg2
    refine ⟨g2, nx2, st2, fun _ => ⟨hg2, hb2⟩, fun t v hm => ?_, (get_cons_ne _ _ (by decide)).trans hS.hr, fun _ => (get_cons_ne _ _ (by decide)).trans (hS.c0 n9), fun h => absurd (show L 9 = true from h) (by rw [n9]; decide), fun h => (nomatch h), fun _ => get_cons_same _ _ _, fun _ _ => rfl, fun h => absurd (show L 6 = true from h) (by rw [n6]; decide), fun h => absurd (show L 7 = true from h) (by rw [n7]; decide), fun h => absurd (show L 6 = true from h) (by rw [n6]; decide), fun h => absurd (show L 7 = true from h) (by rw [n7]; decide), fun h => absurd (show L 9 = true from h) (by rw [n9]; decide), fun _ => (get_cons_ne _ _ (by decide)).trans (hS.g82 n7), fun h => absurd (show L 6 = true from h) (by rw [n6]; decide), fun h => absurd (show L 7 = true from h) (by rw [n7]; decide), fun j hj hl => ?_⟩
    ·have := ks_lt hm
     exact (lk_cons_ne _ _ (by omega)).trans (hS.kp t v hm)
    ·by_cases e : j = 5
     ·subst e; exact lk_cons_same _ _ _
     ·simp only [if_neg e] at hl
      refine (lk_cons_ne _ _ (by omega)).trans ((hS.v j hj hl).trans ?_)
      match j, e with
      | 0, _ => rfl
      | 1, _ => rfl
      | 2, _ => rfl
      | 3, _ => rfl
      | 4, _ => rfl
      | 6, _ => rfl
      | 7, _ => rfl
      | j + 8, _ => rfl
  ·have q := v 5 (by decide) (hall ⟨5, .data⟩ (Array.mem_of_getElem? (i := 0) rfl) rfl)
   have l5 : L 5 = true := hall ⟨5, .data⟩ (Array.mem_of_getElem? (i := 0) rfl) rfl
   have n7 : L 7 = false := by
    cases h : L 7 with
    | false => rfl
    | true => exact absurd (hS.o7 h).1 (by rw [hL]; decide)
   have n9 : L 9 = false := by
    cases h : L 9 with
    | false => rfl
    | true => exact absurd (hS.o9 h) (by rw [n7]; decide)
   have enx := hS.n5 l5 hL
   refine opwp_step (k := 1) (fun c hc => by cases hc) ((step_buildSlice (len := 1) (ps := #[(0, .tmp 23)]) (nm := 90) (zs := [.d (iD 0), .d (.sl [] true), .d (iD 0), .d (iD 0)]) (els := [g.l.map AV.d]) rfl ⟨T63.2, T67.1⟩ rfl rfl (by show fillA [(0 * 4, 4)] _ [(0, lk s.env 23)] = _; rw [show lk s.env 23 = _ from q]; rfl) (fun el h => by simp at h; subst h; rfl) rfl (Nat.le_of_ble_eq_true rfl)).names fun m hm => by subst hm; omega) rfl ?_
   refine ⟨g, nx', st', keep (by decide), fun t v hm => ?_, (get_cons_ne _ _ (by decide)).trans hS.hr, fun _ => (get_cons_ne _ _ (by decide)).trans (hS.c0 n9), fun h => absurd (show L 9 = true from h) (by rw [n9]; decide), fun h => absurd (show L 5 = false from h) (by rw [l5]; decide), fun _ => (get_cons_ne _ _ (by decide)).trans (hS.s1 l5), fun _ h => (nomatch h), fun _ _ => by show s.nx + 1 = 91; omega, fun h => absurd (show L 7 = true from h) (by rw [n7]; decide), fun _ => l5, fun h => absurd (show L 7 = true from h) (by rw [n7]; decide), fun h => absurd (show L 9 = true from h) (by rw [n9]; decide), fun _ => (get_cons_ne _ _ (by decide)).trans (hS.g82 n7), fun _ => get_cons_same _ _ _, fun h => absurd (show L 7 = true from h) (by rw [n7]; decide), fun j hj hl => ?_⟩
   ·have := ks_lt hm
    exact (lk_cons_ne _ _ (by omega)).trans (hS.kp t v hm)
   ·by_cases e : j = 6
    ·subst e; exact lk_cons_same _ _ _
    ·simp only [if_neg e] at hl
     exact (lk_cons_ne _ _ (by omega)).trans (hS.v j hj hl)
  ·have q1 := v 1 (by decide) (hall ⟨1, .data⟩ (Array.mem_of_getElem? (i := 0) rfl) rfl)
   have q6 := v 6 (by decide) (hall ⟨6, .data⟩ (Array.mem_of_getElem? (i := 1) rfl) rfl)
   have l1 : L 1 = true := hall ⟨1, .data⟩ (Array.mem_of_getElem? (i := 0) rfl) rfl
   have l6 : L 6 = true := hall ⟨6, .data⟩ (Array.mem_of_getElem? (i := 1) rfl) rfl
   have l5 := hS.o6 l6
   have n9 : L 9 = false := by
    cases h : L 9 with
    | false => rfl
    | true => exact absurd (hS.o9 h) (by rw [hL]; decide)
   have enx := hS.n6 l6 hL
   have b82 := hS.g82 hL
   have b90 := hS.b90 l6
   have hlen : ((gs.map Gt.l).map fun el => el.map AV.d).length = i := by rw [List.length_map, List.length_map, hl]
   have hev : s.ev GG (.tmp 24) = .sl 90 4 0 1 1 true := q6
   have hE : Els s.heap 4 (s.ev GG (.tmp 24)) [g.l.map AV.d] := by
    rw [hev]
    exact Els.sl 90 0 1 1 true [g.l.map AV.d] b90 (Nat.le_refl 1)
   have hsc : ∀ el, el ∈ [g.l.map AV.d] → ∀ v, v ∈ el → v.scalar = true := fun el h v hv => by
    simp only [List.mem_singleton] at h
    subst h
    simp only [Gt.l, List.map_cons, List.map_nil, List.mem_cons, List.not_mem_nil, or_false] at hv
    rcases hv with rfl | rfl | rfl | rfl <;> rfl
   refine opwp_step (k := 1) (fun c hc => by cases hc) ((step_append (t := 63) (t2 := 63) (e := 67) (e2 := 67) (x := .tmp 19) (y := .tmp 24) (nm' := 91) (nm := 82) (len := i) (room := i) (tg := false) (S := 4) (B := 48) (ys := [g.l.map AV.d]) (by exact rfl) ⟨T63.2, T67.1⟩ T63.2 q1 b82 hlen (Nat.le_refl _) hE hsc (by decide) (by show (2 * (i + 1) + 192) * 48 ≤ 281474976710656; omega)).names fun m hm => by subst hm; omega) rfl ?_
   have old' : ∀ n bl, n ≠ 91 → n ≠ 82 → s.heap.get n = some bl → AHeap.get ((91, some (.arr 4 (((gs.map Gt.l).map fun el => el.map AV.d) ++ [g.l.map AV.d]))) :: (82, none) :: s.heap) n = some bl := fun n bl h1 h2 h3 => by rw [get_cons_ne _ _ h1, get_cons_ne _ _ h2, h3]
   refine ⟨g, nx', st', keep (by decide), fun t v hm => ?_, old' _ _ (by decide) (by decide) hS.hr, fun _ => old' _ _ (by decide) (by decide) (hS.c0 n9), fun h => absurd (show L 9 = true from h) (by rw [n9]; decide), fun h => absurd (show L 5 = false from h) (by rw [l5]; decide), fun _ => old' _ _ (by decide) (by decide) (hS.s1 l5), fun _ h => absurd (show L 6 = false from h) (by rw [l6]; decide), fun _ h => (nomatch h), fun _ => by show s.nx + 1 = 92; omega, fun _ => l5, fun _ => ⟨l6, l1⟩, fun h => absurd (show L 9 = true from h) (by rw [n9]; decide), fun h => (nomatch h), fun _ => old' _ _ (by decide) (by decide) b90, fun _ => ?_, fun j hj hl' => ?_⟩
   ·have := ks_lt hm
    exact (lk_cons_ne _ _ (by omega)).trans (hS.kp t v hm)
   ·refine (get_cons_same _ _ _).trans (congrArg some ?_)
    show _ = dblk 4 _
    unfold dblk
    simp only [List.map_append, List.map_cons, List.map_nil]
   ·by_cases e : j = 7
    ·subst e; exact lk_cons_same _ _ _
    ·simp only [if_neg e] at hl'
     exact (lk_cons_ne _ _ (by omega)).trans (hS.v j hj hl')
  ·exact opwp_pure (fun c h => by cases h) (pure_fieldAddr rfl (T65.fld rfl rfl) (hS.kp 9 _ (List.mem_of_getElem? (i := 4) rfl))) rfl ⟨g, nx', st', keep (by decide), ss_put hS (a := 8) (by decide) (by decide) (by decide) (by decide) rfl⟩
  ·have q7 := v 7 (by decide) (hall ⟨7, .data⟩ (Array.mem_of_getElem? (i := 1) rfl) rfl)
   have q8 := v 8 (by decide) (hall ⟨8, .data⟩ (Array.mem_of_getElem? (i := 0) rfl) rfl)
   have l7 : L 7 = true := hall ⟨7, .data⟩ (Array.mem_of_getElem? (i := 1) rfl) rfl
   have l6 := (hS.o7 l7).1
   have l5 := hS.o6 l6
   refine opwp_step (k := 0) (fun c hc => by cases hc) ((step_store (x := .tmp 26) (y := .tmp 25) (nm := 81) (sz := 3) (idx := 0) (off := 2) (v := .sl 91 4 0 (i + 1) (i + 1) false) rfl T63.1 q8 q7 (hS.c0 hL) rfl rfl rfl rfl (Nat.le_of_ble_eq_true rfl)).names fun _ h => h.elim) rfl ?_
   refine ⟨g, nx', st', keep (by decide), hS.kp, (get_cons_ne _ _ (by decide)).trans hS.hr, fun h => (nomatch h), fun _ => get_cons_same _ _ _, fun h => absurd (show L 5 = false from h) (by rw [l5]; decide), fun _ => (get_cons_ne _ _ (by decide)).trans (hS.s1 l5), fun _ h => absurd (show L 6 = false from h) (by rw [l6]; decide), fun _ h => absurd (show L 7 = false from h) (by rw [l7]; decide), fun _ => hS.n7 l7, fun _ => l5, hS.o7, fun _ => l7, fun h => absurd (show L 7 = false from h) (by rw [l7]; decide), fun _ => (get_cons_ne _ _ (by decide)).trans (hS.b90 l6), fun _ => (get_cons_ne _ _ (by decide)).trans (hS.b91 l7), fun j hj hl => hS.v j hj ?_⟩
   simpa [show j ≠ 9 by omega] using hl
 ·rintro L s ⟨g, nx', st', hg, hS⟩ hall
  obtain ⟨h1, h2⟩ := hg (hall 5 (by decide))
  exact ⟨rfl, hk L s g nx' st' h1 h2 hS fun a ha => hall a ha⟩
end Go.Tz
namespace Go.AL
open Go
variable {P : Program} {G : Nat → Option (List D)} {T : Tab} {b n : Nat} {ms : List Nat} {st : St}
theorem loop_useR {σ : Type} (hp : POk P T) (ID : Nat) {c : Code} {k : Exit → St → Prop} (I : σ → St) (μ : σ → Nat) (s0 : σ) (hs : Sub G b ms st (I s0)) (hc : chkCode n c = true)
  (round : ∀ (s : σ) (A : St → Prop), (∀ st' (t : σ), Sub G b ms st' (I t) → μ t < μ s → A st') → xcodeR P ID T G n b ms c (I s) fun e st' => nextK e st' A k) : LoopVC P G n b ms c st k := by
 refine ⟨fun r => awp_loop (Q := fun e st' ms' => ms' = ms ∧ k e st') I μ s0 hs ?_⟩
 intro s
 refine awp_mono (xcodeR_sound hp c (I s) _ hc (round s (fun st' => ∃ t : σ, Sub G b ms st' (I t) ∧ μ t < μ s) fun st' t h1 h2 => ⟨t, h1, h2⟩)) ?_
 rintro e s' m' ⟨hm, h⟩
 cases e with
 | normal => exact ⟨hm, h⟩
 | _ => exact ⟨hm, h⟩
end Go.AL
namespace Go.Tz
open Go Go.AL Go.Proofs
variable {bs : List Int} {u : Bool} {w m i nx : Nat} {st : Int} {gs : List Gt}
theorem regCc {ops : Array Oper} (hops : ops = opsC) (hw : 1 ≤ w ∧ w ≤ 12) (hbs : bs.length ≤ 1000) (hnx : nx + 13 ≤ 4611686018427387904) (hl : gs.length = i) (hi : i ≤ 1000) {e : List (Nat × AV)} {H : AHeap} {n : Nat}
  (he : AllP (fun p => lk e p.1 = p.2) (ksC w m i)) (h0 : H.get 0 = some (storeB bs u nx st)) (hr : H.get 80 = some r80) (h81 : H.get 81 = some (c81 w 82 i)) (h82 : H.get 82 = some (dblk 4 (gs.map Gt.l))) (hn : n = 83) {k : Exit → St → Prop}
  (hk : ∀ (g : Gt) (nx' : Nat) (st' : Int), GtOk w g → nx' ≤ nx + 13 → k .normal ⟨ksC w m i, [(0, some (storeB bs u nx' st')), (80, some r80), (81, some (c81 w 91 (i + 1))), (91, some (dblk 4 ((gs ++ [g]).map Gt.l)))], 92⟩) : RegVC Pr GG Tryz.f139.ntmps 80 [] 4 ops ⟨e, H, n⟩ k := by
 subst hops
 refine regC (g := ⟨0, [], false, 0, 0⟩) (nx' := 0) (st' := 0) hw hbs hnx hl hi ⟨fun t v hm => AllP.mem he _ hm, hr, fun _ => h81, fun h => (nomatch h), fun _ => ⟨h0, hn⟩, fun h => (nomatch h), fun h => (nomatch h), fun h => (nomatch h), fun h => (nomatch h), fun h => (nomatch h), fun h => (nomatch h), fun h => (nomatch h), fun _ => h82, fun h => (nomatch h), fun h => (nomatch h), fun j _ h => (nomatch h)⟩ ?_
 intro L s' g nx' st' hg hb hS hL
 refine ⟨_, keep_env (Nat.le_of_ble_eq_true rfl) ?_ ?_ trivial, hk g nx' st' hg hb⟩
 ·have q := fun j (v : Nat × AV) (h : (ksC w m i)[j]? = some v) => hS.kp v.1 v.2 (List.mem_of_getElem? h)
  exact ⟨⟨q 0 _ rfl, rfl⟩, ⟨q 1 _ rfl, rfl⟩, ⟨q 2 _ rfl, rfl⟩, ⟨q 3 _ rfl, rfl⟩, ⟨q 4 _ rfl, rfl⟩, ⟨q 5 _ rfl, rfl⟩, ⟨q 6 _ rfl, rfl⟩, trivial⟩
 ·exact ⟨⟨ltB rfl, _, rfl, hS.s1 (hL 5 (by decide)), below_arr rfl⟩, ⟨ltB rfl, _, rfl, hS.hr, below_arr rfl⟩, ⟨ltB rfl, _, rfl, hS.c1 (hL 9 (by decide)), below_arr rfl⟩, ⟨ltB rfl, _, rfl, hS.b91 (hL 7 (by decide)), below_dblk _ _ _⟩, trivial⟩
theorem chk139 : chkFn Tryz.f139 = true := by kernel_rfl
abbrev stC (bs : List Int) (u : Bool) (w m : Nat) (s : List Gt × Int × Nat) : St := ⟨ksC w m s.1.length, [(0, some (storeB bs u s.2.2 s.2.1)), (80, some r80), (81, some (c81 w 82 s.1.length)), (82, some (dblk 4 (s.1.map Gt.l)))], 83⟩
theorem circ139 (bs : List Int) (u : Bool) (w most nx : Nat) (st : Int) (hw : 1 ≤ w ∧ w ≤ 12) (hm : most ≤ 130) (hbs : bs.length ≤ 1000) (hb : nx + (1 + 13 * most) ≤ 4611686018427387904) :
  ACall Pr GG 139 [.ptr 0 3 0 0, .d (iD w), .d (iD most), .d cfD] [(0, some (storeB bs u nx st))] 80 fun v H _ => ∃ (gs : List Gt) (st' : Int) (nx' : Nat), nx' ≤ nx + (1 + 13 * most) ∧ (gs.length ≤ most ∧ ∀ g, g ∈ gs → GtOk w g) ∧ v = .agg [.d (iD w), .d (iD 0), .sl 82 4 0 gs.length gs.length false] ∧ H.get 0 = some (storeB bs u nx' st') ∧ H.get 82 = some (dblk 4 (gs.map Gt.l)) := by
 have c1 := sc71 bs u 82 (most + 1) (by decide) hbs (by omega)
 have e0 : iadd .i64 (most : Int) 1 = ((most + 1 : Nat) : Int) := iadd_nat (b := 1) (by omega)
 refine fn_walkR pok 4 Tryz.func139 chk139 ?_
 conv => whnf
 repeat' first | ((first | refine LookP.mk _ rfl ?_ | refine ShlP.mk _ (by first | (simp only [List.set, over, List.take, List.drop, List.append_eq, List.nil_append, List.cons_append, List.length]; rfl) | rfl) ?_ | refine And.intro (by first | assumption | exact ⟨by kernel_rfl, rfl⟩ | decide | omega | exact ⟨rfl, by decide, by simp only [List.length_map, Nat.zero_add]; omega⟩) ?_ | rw [e0] | refine HpP.force ?_); conv => whnf) | (intro t ht; cases t <;> conv => whnf)
 refine sc_use (nx := nx) (st := st) c1 (by decide) (by omega) rfl ?_
 intro m st1 nx1 b1 m1
 conv => whnf
 repeat' first | ((first | refine LookP.mk _ rfl ?_ | refine ShlP.mk _ (by first | (simp only [List.set, over, List.take, List.drop, List.append_eq, List.nil_append, List.cons_append, List.length]; rfl) | rfl) ?_ | refine And.intro (by first | assumption | exact ⟨by kernel_rfl, rfl⟩ | decide | omega | exact ⟨rfl, by decide, by simp only [List.length_map, Nat.zero_add]; omega⟩) ?_ | refine HpP.force ?_); conv => whnf) | (intro t ht; cases t <;> conv => whnf)
 refine loop_useR (σ := { s : List Gt × Int × Nat // s.1.length ≤ m ∧ (∀ g, g ∈ s.1 → GtOk w g) ∧ s.2.2 ≤ nx + 1 + 13 * s.1.length }) pok 4 (fun s => stC bs u w m s.1) (fun s => m - s.1.1.length) ⟨([], st1, nx1), Nat.zero_le _, fun g hg => (nomatch hg), b1⟩ ?_ (by kernel_rfl) ?_
 ·refine Sub.trans (sub_nilH3 (nm := 81) (S := 4) (by decide) rfl) ?_
  refine keep_env (by first | exact Nat.zero_le _ | exact Nat.le_of_ble_eq_true rfl) ?_ ?_ trivial
  ·repeat' first | exact trivial | refine ⟨⟨by first | rfl | assumption, rfl⟩, ?_⟩
  ·repeat' first | exact trivial | refine ⟨⟨ltB rfl, _, rfl, by first | rfl | assumption, by first | exact below1 rfl | exact below_dblk _ _ _ | exact below_arr rfl⟩, ?_⟩
 ·rintro ⟨⟨gs, st2, nx2⟩, h1, h2, h3⟩ A hA
  dsimp only at h1 h2 h3 hA ⊢
  have e1 : iadd .i64 (gs.length : Int) 1 = ((gs.length + 1 : Nat) : Int) := iadd_nat (b := 1) (by omega)
  conv => whnf
  repeat' first | ((first | refine LookP.mk _ rfl ?_ | refine ShlP.mk _ (by first | (simp only [List.set, over, List.take, List.drop, List.append_eq, List.nil_append, List.cons_append, List.length]; rfl) | rfl) ?_ | refine And.intro (by first | assumption | exact ⟨by kernel_rfl, rfl⟩ | decide | omega | exact ⟨rfl, by decide, by simp only [List.length_map, Nat.zero_add]; omega⟩) ?_ | refine HpP.force ?_); conv => whnf) | (intro t ht; cases t <;> conv => whnf)
  ·exact fin ⟨gs, st2, nx2, by omega, ⟨by omega, h2⟩, rfl, rfl, rfl⟩
  ·have hlt : gs.length < m := by
    have := of_decide_eq_true ht
    dsimp only at this
    omega
   refine regCc (gs := gs) (nx := nx2) (st := st2) rfl hw hbs (by omega) rfl (by omega) ⟨rfl, rfl, rfl, rfl, rfl, rfl, rfl, trivial⟩ rfl rfl rfl rfl rfl ?_
   intro g nx3 st3 g1 g2
   have hln : (gs ++ [g]).length = gs.length + 1 := by rw [List.length_append]; rfl
   conv => whnf
   repeat' first | ((first | refine LookP.mk _ rfl ?_ | refine ShlP.mk _ (by first | (simp only [List.set, over, List.take, List.drop, List.append_eq, List.nil_append, List.cons_append, List.length]; rfl) | rfl) ?_ | refine And.intro (by first | assumption | exact ⟨by kernel_rfl, rfl⟩ | decide | omega | exact ⟨rfl, by decide, by simp only [List.length_map, Nat.zero_add]; omega⟩) ?_ | refine HpP.force ?_); conv => whnf) | (intro t ht; cases t <;> conv => whnf)
   refine hA _ ⟨(gs ++ [g], st3, nx3), by rw [hln]; exact hlt, fun g' hg' => ?_, by show nx3 ≤ nx + 1 + 13 * (gs ++ [g]).length; rw [hln]; omega⟩ ?_ (by show m - (gs ++ [g]).length < m - gs.length; rw [hln]; omega)
   ·rcases List.mem_append.1 hg' with q | q
    ·exact h2 _ q
    ·rw [List.mem_singleton.1 q]; exact g1
   ·have e3 : stC bs u w m (gs ++ [g], st3, nx3) = ⟨ksC w m (gs.length + 1), [(0, some (storeB bs u nx3 st3)), (80, some r80), (81, some (c81 w 82 (gs.length + 1))), (82, some (dblk 4 ((gs ++ [g]).map Gt.l)))], 83⟩ := by
     simp only [stC, hln]
    refine Eq.subst (motive := fun s => AL.Sub GG 80 [] _ s) e3.symm ?_
    first | refine ren_env [(82, 91)] ?_ ?_ ?_ trivial | refine ren_envB [(82, 91)] rfl rfl ?_ ?_ ?_ trivial
    ·repeat' first | exact trivial | refine ⟨⟨by first | rfl | assumption | exact congrArg (fun n => AV.d (iD n)) e1, rfl⟩, ?_⟩
    ·repeat' first | exact trivial | refine ⟨⟨ltB rfl, _, rfl, by first | rfl | assumption | exact get_ren rfl (by first | rfl | assumption | exact get_ren rfl (show some (Blk.ren _ (dblk 4 ((gs ++ [g]).map Gt.l))) = some (dblk 4 ((gs ++ [g]).map Gt.l)) from by rw [ren_dblk])) | exact get_ren rfl (show some (Blk.ren _ (dblk 4 ((gs ++ [g]).map Gt.l))) = some (dblk 4 ((gs ++ [g]).map Gt.l)) from by rw [ren_dblk]), by first | exact below1 rfl | exact below_dblk _ _ _ | exact below_arr rfl⟩, ?_⟩
    ·repeat' first | exact trivial | (refine And.intro ?_ ?_) | (exact fun _ => rfl) | (exact fun h => absurd h (Nat.ne_of_beq_eq_false rfl))
theorem sc139 (bs : List Int) (u : Bool) (w most : Nat) (hw : 1 ≤ w ∧ w ≤ 12) (hm : most ≤ 130) (hbs : bs.length ≤ 1000) : SC 139 [iD w, iD most, cfD] bs u (1 + 13 * most) 80 (fun p : List Gt × Bool => circD w 0 p.1 p.2) fun p => p.1.length ≤ most ∧ ∀ g, g ∈ p.1 → GtOk w g :=
 sc_mk (isFn_of Tryz.func139 chk139) (by decide) fun nx st hb => by
  refine acall_mono (acall_freeze1 (K' := fun v H _ => ∃ (p : List Gt × Bool) (st' : Int) (nx' : Nat), nx' ≤ nx + (1 + 13 * most) ∧ (p.1.length ≤ most ∧ ∀ g, g ∈ p.1 → GtOk w g) ∧ v = .d (circD w 0 p.1 p.2) ∧ H.get 0 = some (storeB bs u nx' st')) (circ139 bs u w most nx st hw hm hbs hb) ?_) fun _ _ _ h => h
  rintro v H m ⟨gs, st', nx', h1, h2, rfl, g0, g1⟩
  have hd : AHeap.get (dels [82] H) 0 = some (storeB bs u nx' st') := by
   show (AHeap.del H 82).get 0 = _
   rw [get_del, if_neg (by decide)]; exact g0
  exact ⟨82, _, circD w 0 gs false, g1, asD_agg3 (.d _) (.d _) (asD_dblk (nm := 82) (sz := 4) (l := gs.map Gt.l) rfl (by simp)), (gs, false), st', nx', h1, h2, rfl, hd⟩
end Go.Tz
namespace Go.AL
open Go
variable {P : Program} {G G2 : Nat → Option (List D)} {f : FuncId}
theorem hrel_down (hG : ∀ g ds, G g = some ds → G2 g = some ds) {C : Ctx} {H : AHeap} (h : HRel G2 C H) : HRel G C H := ⟨h.blk, h.inj, h.ro, fun g ds e => h.glob g ds (hG g ds e)⟩
theorem acall_up (hG : ∀ g ds, G g = some ds → G2 g = some ds) {args : List AV} {H : AHeap} {nx : Nat} {K : AV → AHeap → Nat → Prop} (h : ACall P G f args H nx K) : ACall P G2 f args H nx K := by
 intro C vs hH hU hl hr
 refine (h C vs (hrel_down hG hH) hU hl hr).mono ?_
 rintro e w' ⟨x, v, H', n', C', rfl, rfl, hk, hv, h1, hU', hT⟩
 exact ⟨x, v, H', n', C', rfl, rfl, hk, hv, ⟨h1.blk, h1.inj, h1.ro, fun g ds e => (hH.glob g ds e).later hT hH⟩, hU', hT⟩
theorem pc_up (hG : ∀ g ds, G g = some ds → G2 g = some ds) {ds : List D} {d : D} (h : PC P G f ds d) : PC P G2 f ds d := ⟨h.fn, acall_up hG h.call⟩
end Go.AL
namespace Go.Tz
open Go Go.AL Go.Proofs
def GK : Nat → Option (List D) := fun g => match Nat.beq g 0 with
 | true => some [cfD]
 | false => GG g
theorem gk_up : ∀ g ds, GG g = some ds → GK g = some ds := fun g ds h => by
 match g, h with
 | g + 1, h => exact h
theorem up {f : FuncId} {ds : List D} {d : D} (h : PC Pr GG f ds d) : PC Pr GK f ds d := pc_up gk_up h
structure SK {ι : Type} (f : FuncId) (args : List D) (bs : List Int) (u : Bool) (cnt n0 : Nat) (dof : ι → D) (Q : ι → Prop) : Prop where
 fn : IsFn Pr f
 call : ∀ (nx : Nat) (st : Int), nx + cnt ≤ 4611686018427387904 → ACall Pr GK f (.ptr 0 3 0 0 :: args.map .d) [(0, some (storeB bs u nx st))] n0 fun v H n => ∃ (i : ι) (st' : Int) (nx' : Nat), nx' ≤ nx + cnt ∧ Q i ∧ v = .d (dof i) ∧ H = [(0, some (storeB bs u nx' st'))] ∧ n = n0
variable {ι : Type} {f : FuncId} {args : List D} {bs : List Int} {u : Bool} {cnt n0 : Nat} {dof : ι → D} {Q : ι → Prop}
theorem SC.k (h : SC f args bs u cnt n0 dof Q) : SK f args bs u cnt n0 dof Q := ⟨h.fn, fun nx st hb => acall_up gk_up (h.call nx st hb)⟩
theorem sk_mk (hf : IsFn Pr f) (hn : 0 < n0)
  (h : ∀ (nx : Nat) (st : Int), nx + cnt ≤ 4611686018427387904 → ACall Pr GK f (.ptr 0 3 0 0 :: args.map .d) [(0, some (storeB bs u nx st))] n0 fun v H _ => ∃ (i : ι) (st' : Int) (nx' : Nat), nx' ≤ nx + cnt ∧ Q i ∧ v = .d (dof i) ∧ H.get 0 = some (storeB bs u nx' st')) : SK f args bs u cnt n0 dof Q := by
 refine ⟨hf, fun nx st hb => acall_sub (h nx st hb) ?_⟩
 rintro v H n ⟨i, st', nx', h1, h2, rfl, h4⟩
 refine ⟨.d (dof i), [(0, some (storeB bs u nx' st'))], n0, ?_, i, st', nx', h1, h2, rfl, rfl, rfl⟩
 exact keep_env (Nat.le_refl _) ⟨⟨rfl, rfl⟩, trivial⟩ ⟨⟨hn, _, rfl, h4, below_arr rfl⟩, trivial⟩ trivial
theorem sk_use {nx0 nx : Nat} {st : Int} {H : AHeap} {k : AV → AHeap → Nat → Prop} (h : SK f args bs u cnt n0 dof Q) (hn : nx0 ≤ n0) (hb : nx + cnt ≤ 4611686018427387904)
  (hg : H.get 0 = some (storeB bs u nx st)) (hk : ∀ (i : ι) (st' : Int) (nx' : Nat), nx' ≤ nx + cnt → Q i → k (.d (dof i)) ((0, some (storeB bs u nx' st')) :: H) n0) : CallVC Pr GK f (.ptr 0 3 0 0 :: args.map .d) H nx0 k := by
 refine ⟨h.fn, acall_frame (h.call nx st hb) hn (fun m b hm => ?_) ?_⟩
 ·rw [get_consI] at hm
  by_cases e : m = 0
  ·rw [if_pos e] at hm; rw [e, hg, hm]
  ·rw [if_neg e] at hm; cases hm
 ·rintro v H1 n ⟨d, st', nx', h1, h2, rfl, rfl, rfl⟩
  refine ⟨_, fun m b hm => ?_, hk d st' nx' h1 h2⟩
  rw [get_consI] at hm
  by_cases e : m = 0
  ·rw [if_pos e] at hm; left; rw [get_consI, if_pos e, hm]
  ·rw [if_neg e] at hm
   right
   exact ⟨by rw [get_consI, if_neg e]; rfl, hm⟩
theorem zero_sok {w : Nat} (hw : 1 ≤ w ∧ w ≤ 12) : SOk w (zeroS w) := by
 have key : ((List.range 13).all fun w => Nat.beq w 0 || decide (chkS w (zeroS w) = 0)) = true := by kernel_rfl
 have h := List.all_eq_true.1 key w (List.mem_range.2 (by omega))
 simp only [Bool.or_eq_true, decide_eq_true_eq] at h
 rcases h with h | h
 ·have := Nat.eq_of_beq_eq_true h; omega
 ·obtain ⟨W, e, hs⟩ := chk_ok h
  obtain rfl : w = W := Int.ofNat.inj e
  exact hs
theorem of_sok {w : Nat} (hw : 1 ≤ w ∧ w ≤ 12) {gs : List Gt} (h : ∀ g, g ∈ gs → GtOk w g) : SOk w (ofS w gs) := by
 have key : ∀ (gs : List Gt) (l : List Ps), (∀ g, g ∈ gs → GtOk w g) → SOk w l → SOk w (gs.foldl (fun l g => appG w g l) l) := by
  intro gs
  induction gs with
  | nil => exact fun l _ h => h
  | cons g gs ih => exact fun l hg hl => ih _ (fun g' hg' => hg g' (List.mem_cons_of_mem _ hg')) (appG_sok (hg g (List.mem_cons_self ..)).chk (hg g (List.mem_cons_self ..)).kind hl)
 exact key gs _ h (zero_sok hw)
theorem ofE0 {w : Nat} (hw : 1 ≤ w ∧ w ≤ 12) {gs : List Gt} (hn : gs.length ≤ 120) (h : ∀ g, g ∈ gs → GtOk w g) : ofE w 0 gs = 0 := by
 have h1 : cchk w 0 gs = 0 := cchk0 (by omega) (by omega) fun g hg => (h g hg).chk
 have h2 : gs.all cliffB = true := List.all_eq_true.2 fun g hg => by
  unfold cliffB
  rw [(h g hg).i0, (h g hg).kind]; rfl
 unfold ofE
 rw [if_neg (fun q => q h1), if_pos h2]
theorem of49d {w : Nat} {gs : List Gt} (h : ofE w 0 gs = 0) (t : Bool) (hn : gs.length ≤ 1000) (hws : ∀ g, g ∈ gs → g.ws.length ≤ 1000) : PC Pr GG 49 [circD w 0 gs t] (.tup [stD w (ofS w gs) (tfB gs.length), iD 0]) := by
 have hc := of49 h t hn hws
 have hlen : (ofS w gs).length = w := by unfold ofS; rw [ofS_len, zeroS_len]
 refine pc_freeze hc.fn (acall_mono hc.call ?_)
 rintro v H _ ⟨rfl, rfl, _⟩
 refine asD_tup2 (asD_agg2 (.d _) ?_) (.d _)
 have := asD_pre (H := [(0, some (dblk 4 ((ofS w gs).map Ps.l)))]) (nm := 0) (sz := 4) (l := (ofS w gs).map Ps.l) (len := w) (room := w) (t := tfB gs.length) rfl (by rw [List.length_map, hlen]; exact Nat.le_refl _)
 rwa [List.take_of_length_le (by rw [List.length_map, hlen]; exact Nat.le_refl _), decide_eq_true rfl, Bool.and_true] at this
theorem chk64 : chkFn Tryz.f64 = true := by kernel_rfl
theorem sk64 (bs : List Int) (u : Bool) (w most : Nat) (hw : 1 ≤ w ∧ w ≤ 12) (hm : most ≤ 120) (hbs : bs.length ≤ 1000) : SK 64 [iD w, iD most] bs u (1 + 13 * most) 70 (fun p : List Ps × Bool => .tup [stD w p.1 p.2, .bool true]) fun p => SOk w p.1 := by
 have c1 := (sc139 bs u w most hw (by omega) hbs).k
 refine sk_mk (isFn_of Tryz.func64 chk64) (by decide) fun nx st hb => ?_
 refine fn_walk pok Tryz.func64 chk64 ?_
 conv => whnf
 repeat' first | ((first | refine LookP.mk _ rfl ?_ | refine ShlP.mk _ (by first | (simp only [List.set, over, List.take, List.drop, List.append_eq, List.nil_append, List.cons_append, List.length]; rfl) | rfl) ?_ | refine And.intro (by first | assumption | exact ⟨by kernel_rfl, rfl⟩ | decide | omega | exact ⟨rfl, by decide, by simp only [List.length_map, Nat.zero_add]; omega⟩) ?_ | refine HpP.force ?_); conv => whnf) | (intro t ht; cases t <;> conv => whnf)
 refine sk_use (nx := nx) (st := st) c1 (by decide) hb rfl ?_
 rintro ⟨gs, t⟩ st1 nx1 b1 ⟨g1, g2⟩
 dsimp only at g1 g2 ⊢
 have h0 := ofE0 hw (by omega) g2
 have hs := of_sok hw g2
 have c2 := up (of49d h0 t (by omega) fun g hg => by have := (g2 g hg).len; omega)
 have hlen : (ofS w gs).length = w := hs.len
 have c3 := up (check36 w (ofS w gs) (tfB gs.length) (by omega))
 rw [ok_chk hs] at c3
 conv => whnf
 repeat' first | ((first | refine LookP.mk _ rfl ?_ | refine ShlP.mk _ (by first | (simp only [List.set, over, List.take, List.drop, List.append_eq, List.nil_append, List.cons_append, List.length]; rfl) | rfl) ?_ | refine And.intro (by first | assumption | exact ⟨by kernel_rfl, rfl⟩ | decide | omega | exact ⟨rfl, by decide, by simp only [List.length_map, Nat.zero_add]; omega⟩) ?_ | refine pc_use c2 ?_ | refine pc_head c2 ?_ | refine pc_use c3 ?_ | refine pc_head c3 ?_ | refine HpP.force ?_); conv => whnf) | (intro t ht; cases t <;> conv => whnf)
 all_goals first
  | exact fin ⟨(ofS w gs, tfB gs.length), st1, nx1, b1, hs, rfl, rfl⟩
  | (exfalso; simp [hlen] at *; done)
end Go.Tz
namespace Go.Tz
open Go Go.AL Go.Proofs
variable {G : Nat → Option (List D)}
abbrev bytesD (bs : List Int) (t : Bool) : D := .sl (bs.map fun b => [.int .u8 b]) t
theorem bytes_len (l : List Int) : ∀ el : List D, el ∈ (l.map fun x => [D.int IntKind.u8 x]) → el.length = 1 := fun el h => by
 obtain ⟨x, _, rfl⟩ := List.mem_map.1 h; rfl
theorem chk138 : chkFn Tryz.f138 = true := by kernel_rfl
theorem bytes_sc (l : List Int) : (((l.map fun k => [D.int IntKind.u8 k]).map (·.map AV.d)).all fun el => el.all AV.scalar) = true := by
 simp [AV.scalar, D.scalar]
theorem clone138 (es : List (List D)) (tg : Bool) (hes : ∀ el, el ∈ es → el.length = 1) (hsc : ((es.map (·.map AV.d)).all fun el => el.all AV.scalar) = true) (hbig : es.length ≤ 1000000) :
  ACall Pr G 138 [.d (.sl es tg)] [] 0 fun v N k => (v = .d (.sl [] true) ∧ es = []) ∨ (v = .sl 1 1 0 (0 + es.length) (0 + es.length) false ∧ N.get 1 = some (.arr 1 (es.map (·.map .d))) ∧ k = 2) := by
 refine fn_walk pok Tryz.func138 chk138 ?_
 conv => whnf
 repeat' first | ((first | refine LookP.mk _ rfl ?_ | refine ShlP.mk _ (by first | (simp only [List.set, over, List.take, List.drop, List.append_eq, List.nil_append, List.cons_append, List.length]; rfl) | rfl) ?_ | refine And.intro (by first | exact ⟨rfl, by decide, by simp only [List.length_map, Nat.zero_add]; omega⟩ | assumption | exact ⟨by kernel_rfl, rfl⟩ | decide | omega | exact ⟨rfl, by decide, by simp only [List.length_map, Nat.zero_add]; omega⟩) ?_ | rw [hsc] | refine HpP.force ?_); conv => whnf) | (intro t ht; cases t <;> conv => whnf)
 ·refine fin (.inr ⟨by simp, ?_, rfl⟩)
  simp [chunk, AHeap.get]
 ·refine fin (.inl ⟨rfl, ?_⟩)
  cases es with
  | nil => rfl
  | cons a l => simp at ht
theorem cloneB (l : List Int) (t : Bool) (hn : l.length ≤ 1000000) : PC Pr G 138 [bytesD l t] (bytesD l false) := by
 refine pc_freezeW (isFn_of Tryz.func138 chk138) (acall_mono (clone138 _ t (bytes_len l) (bytes_sc l) (by simpa using hn)) ?_)
 rintro v N k (⟨rfl, he⟩ | ⟨rfl, hg, _⟩)
 ·exact ⟨_, .d _, by show DW _ (.sl _ false); rw [he]; exact dw_sl [] true⟩
 ·have := asD_sl_map (lo := 0) (len := 0 + (l.map fun k => [D.int IntKind.u8 k]).length) (room := 0 + (l.map fun k => [D.int IntKind.u8 k]).length) (t := false) hg (by omega)
  refine ⟨_, this, ?_⟩
  simp only [List.drop_zero, Nat.zero_add, List.take_length, Bool.false_and]
  exact DW.rfl _
theorem chk62 : chkFn Tryz.f62 = true := by kernel_rfl
theorem of62 (bs : List Int) (t : Bool) : ACall Pr G 62 [.d (bytesD bs t)] [] 0 fun v H n => ∃ (bs' : List Int) (u : Bool), bs'.length ≤ 300 ∧ v = .ptr 0 3 0 0 ∧ H = [(0, some (storeB bs' u 0 2463534242))] ∧ n = 1 := by
 have hM : ∃ m : Nat, m ≤ bs.length ∧ m ≤ 300 ∧ (if (300 : Int) < (((bs.map fun b => [D.int IntKind.u8 b]).length : Nat) : Int) then (300 : Int) else (((bs.map fun b => [D.int IntKind.u8 b]).length : Nat) : Int)).toNat = m := by
  rw [List.length_map]
  by_cases h : (300 : Int) < (bs.length : Int)
  ·exact ⟨300, by omega, Nat.le_refl _, by rw [if_pos h]; rfl⟩
  ·exact ⟨bs.length, Nat.le_refl _, by omega, by rw [if_neg h]; rfl⟩
 obtain ⟨m, m1, m2, m3⟩ := hM
 have hsl : (0 ≤ m ∧ m ≤ (bs.map fun b => [D.int IntKind.u8 b]).length ∧ ∀ el : List D, el ∈ (bs.map fun b => [D.int IntKind.u8 b]) → el.length = 1) := ⟨Nat.zero_le _, by rw [List.length_map]; exact m1, bytes_len bs⟩
 have hsE : ((bs.map fun b => [D.int IntKind.u8 b]).drop 0).take (m - 0) = (bs.take m).map fun b => [D.int IntKind.u8 b] := by rw [Nat.sub_zero, List.drop_zero, List.map_take]
 have hl : (bs.take m).length ≤ 300 := by rw [List.length_take]; omega
 have key : ∀ tt, PC Pr G 138 [bytesD (bs.take m) tt] (bytesD (bs.take m) false) := fun tt => cloneB _ tt (by omega)
 refine acall_sub (K := fun v H _ => v = .ptr 0 3 0 0 ∧ H.get 0 = some (storeB (bs.take m) false 0 2463534242)) (fn_walk pok Tryz.func62 chk62 ?_) ?_
 ·conv => whnf
  repeat' first | ((first | refine LookP.mk _ rfl ?_ | refine ShlP.mk _ (by first | (simp only [List.set, over, List.take, List.drop, List.append_eq, List.nil_append, List.cons_append, List.length]; rfl) | rfl) ?_ | refine And.intro (by first | exact hsl | assumption | exact ⟨by kernel_rfl, rfl⟩ | decide | omega | exact ⟨rfl, by decide, by simp only [List.length_map, Nat.zero_add]; omega⟩) ?_ | refine pc_use (key _) ?_ | refine pc_head (key _) ?_ | rw [m3] | rw [hsE] | refine HpP.force ?_); conv => whnf) | (intro t ht; cases t <;> conv => whnf)
  exact fin ⟨rfl, rfl⟩
 ·rintro v H n ⟨rfl, h4⟩
  refine ⟨.ptr 0 3 0 0, [(0, some (storeB (bs.take m) false 0 2463534242))], 1, ?_, bs.take m, false, hl, rfl, rfl, rfl⟩
  exact keep_env (Nat.zero_le _) ⟨⟨rfl, rfl⟩, trivial⟩ ⟨⟨ltB rfl, _, rfl, h4, below_arr rfl⟩, trivial⟩ trivial
end Go.Tz
namespace Go.Tz
open Go Go.AL Go.Proofs
abbrev z4 : Blk := .arr 4 [[.d (iD 0), .d (iD 0), .d (iD 0), .d (iD 0)]]
abbrev q4 (w X Z Q : Nat) : Blk := .arr 4 [[.d (iD w), .d (iD X), .d (iD Z), .d (iD Q)]]
def valM (w X Z Q : Nat) : Nat → AV
 | 0 => .d (iD w)
 | 1 => .ptr 0 3 0 0
 | 2 => .d (iD w)
 | 3 => .d (iD (2 ^ w : Nat))
 | 4 => .d (iD X)
 | 5 => .ptr 0 3 0 0
 | 6 => .d (iD w)
 | 7 => .d (iD (2 ^ w : Nat))
 | 8 => .d (iD Z)
 | 9 => .ptr 0 3 0 0
 | 10 => .d (iD Q)
 | _ => .d (.agg [iD w, iD X, iD Z, iD Q])
structure SM (bs : List Int) (u : Bool) (w nx : Nat) (X Z Q nx' : Nat) (st' : Int) (L : Nat → Bool) (s : St) : Prop where
 k0 : lk s.env 0 = .ptr 0 3 0 0
 k1 : lk s.env 1 = .d (iD w)
 k4 : lk s.env 4 = .ptr 80 4 0 0
 hs : s.heap.get 0 = some (storeB bs u nx' st')
 c0 : L 12 = false → s.heap.get 80 = some z4
 c1 : L 12 = true → s.heap.get 80 = some (q4 w X Z Q)
 nxb : s.nx = 81
 cnt : nx' ≤ nx + (L 4).toNat + (L 8).toNat + (L 10).toNat
 bX : L 4 = true → X < 2 ^ w
 bZ : L 8 = true → Z < 2 ^ w
 bQ : L 10 = true → Q < 4
 o11 : L 11 = true → L 4 = true ∧ L 8 = true ∧ L 10 = true
 o12 : L 12 = true → L 11 = true
 v : ∀ j, j < 12 → L j = true → lk s.env (5 + j) = valM w X Z Q j
variable {bs : List Int} {u : Bool} {w nx X Z Q nx' : Nat} {st' : Int}
theorem sm_put {L : Nat → Bool} {s : St} {a : Nat} {v : AV} (h : SM bs u w nx X Z Q nx' st' L s) (ha : a < 12) (h4 : a ≠ 4) (h8 : a ≠ 8) (h10 : a ≠ 10) (h11 : a = 11 → L 4 = true ∧ L 8 = true ∧ L 10 = true) (hv : valM w X Z Q a = v) : SM bs u w nx X Z Q nx' st' (fun j => if j = a then true else L j) (s.put (some (5 + a)) v) := by
 subst hv
 have e4 : (if 4 = a then true else L 4) = L 4 := if_neg (Ne.symm h4)
 have e8 : (if 8 = a then true else L 8) = L 8 := if_neg (Ne.symm h8)
 have e10 : (if 10 = a then true else L 10) = L 10 := if_neg (Ne.symm h10)
 have e12 : (if 12 = a then true else L 12) = L 12 := if_neg (by omega)
 refine ⟨?_, ?_, ?_, h.hs, ?_, ?_, h.nxb, ?_, ?_, ?_, ?_, ?_, ?_, fun j hj hl => ?_⟩ <;> (try simp only [e4, e8, e10, e12])
 ·rw [lk_put_ne (by omega)]; exact h.k0
 ·rw [lk_put_ne (by omega)]; exact h.k1
 ·rw [lk_put_ne (by omega)]; exact h.k4
 ·exact h.c0
 ·exact h.c1
 ·exact h.cnt
 ·exact h.bX
 ·exact h.bZ
 ·exact h.bQ
 ·intro q
  by_cases e : 11 = a
  ·exact h11 e.symm
  ·rw [if_neg e] at q; exact h.o11 q
 ·intro q
  by_cases e : 11 = a
  ·rw [if_pos e]
  ·rw [if_neg e]; exact h.o12 q
 ·by_cases e : j = a
  ·subst e; exact lk_cons_same _ _ _
  ·rw [lk_put_ne (by omega)]
   simp only [if_neg e] at hl
   exact h.v j hj hl
noncomputable def opsM : Array Oper := (Tryz.f67.body.bind (findReg 1)).getD #[]
theorem regM (hw : 1 ≤ w ∧ w ≤ 12) (hbs : bs.length ≤ 1000) (hnx : nx + 3 ≤ 4611686018427387904) {s0 : St} (S0 : SM bs u w nx X Z Q nx' st' (fun _ => false) s0) {k : Exit → St → Prop}
  (hk : ∀ L s' X Z Q nx' st', SM bs u w nx X Z Q nx' st' L s' → (∀ a, a < 13 → L a = true) → ∃ st'', Sub GG 80 [] s' st'' ∧ k .normal st'') : RegVC Pr GG Tryz.f67.ntmps 80 [] 1 opsM s0 k := by
 refine ⟨fun r => awp_any pok.mixed (edgeB_ok (by kernel_rfl)) (fun L s => ∃ X Z Q nx' st', SM bs u w nx X Z Q nx' st' L s) ⟨X, Z, Q, nx', st', S0⟩ ?_ ?_⟩
 ·rintro L s a op ⟨X, Z, Q, nx', st', hS⟩ hL ho hall
  have ha : a < 13 := (Array.getElem?_eq_some_iff.1 ho).1
  have v := hS.v
  have T69 := pok.tab.get (t := 69) rfl
  have hcnt := hS.cnt
  have hb : ∀ b : Bool, b.toNat ≤ 1 := fun b => by cases b <;> decide
  have hb4 := hb (L 4)
  have hb8 := hb (L 8)
  have hb10 := hb (L 10)
  have h2 : 0 < 2 ^ w := Nat.two_pow_pos w
  have no : ∀ j, L j = false → ¬ L j = true := fun j e q => by rw [e] at q; cases q
  have cases13 : a = 0 ∨ a = 1 ∨ a = 2 ∨ a = 3 ∨ a = 4 ∨ a = 5 ∨ a = 6 ∨ a = 7 ∨ a = 8 ∨ a = 9 ∨ a = 10 ∨ a = 11 ∨ a = 12 := by omega
  rcases cases13 with rfl | rfl | rfl | rfl | rfl | rfl | rfl | rfl | rfl | rfl | rfl | rfl | rfl
  all_goals
   have ho := Option.some.inj (show some _ = some op from ho)
   subst ho
   refine ⟨rfl, ?_⟩
  ·exact opwp_pure (fun c h => by cases h) (pure_move rfl hS.k1) rfl ⟨X, Z, Q, nx', st', sm_put hS (a := 0) (by decide) (by decide) (by decide) (by decide) (fun h => absurd h (by decide)) rfl⟩
  ·exact opwp_pure (fun c h => by cases h) (pure_move rfl hS.k0) rfl ⟨X, Z, Q, nx', st', sm_put hS (a := 1) (by decide) (by decide) (by decide) (by decide) (fun h => absurd h (by decide)) rfl⟩
  ·exact opwp_pure (fun c h => by cases h) (pure_move rfl hS.k1) rfl ⟨X, Z, Q, nx', st', sm_put hS (a := 2) (by decide) (by decide) (by decide) (by decide) (fun h => absurd h (by decide)) rfl⟩
  ·have q := (v 2 (by decide) (hall ⟨2, .data⟩ (Array.mem_of_getElem? (i := 0) rfl) rfl))
   have hsh : ishl .i64 1 (w : Int) = ((2 ^ w : Nat) : Int) := pow_nat (by omega)
   refine opwp_pure (fun c h => by cases h) (pure_shl rfl rfl q (Int.natCast_nonneg _)) rfl ?_
   rw [hsh]
   exact ⟨X, Z, Q, nx', st', sm_put hS (a := 3) (by decide) (by decide) (by decide) (by decide) (fun h => absurd h (by decide)) rfl⟩
  ·have y1 := (v 1 (by decide) (hall ⟨1, .data⟩ (Array.mem_of_getElem? (i := 0) rfl) rfl))
   have y3 := (v 3 (by decide) (hall ⟨3, .data⟩ (Array.mem_of_getElem? (i := 1) rfl) rfl))
   have n11 : L 11 = false := by
    cases h : L 11 with
    | false => rfl
    | true => exact absurd (hS.o11 h).1 (no _ hL)
   have n12 : L 12 = false := by
    cases h : L 12 with
    | false => rfl
    | true => exact absurd (hS.o12 h) (no _ n11)
   have hc := sc_use (nx0 := s.nx) (nx := nx') (st := st') (H := s.heap) (k := fun v H' n' => ∃ X Z Q nx' st', SM bs u w nx X Z Q nx' st' (fun j => if j = 4 then true else L j) (({ env := s.env, heap := H', nx := n' } : St).put (some 9) v)) (sc71 bs u 81 (2 ^ w) (by decide) hbs (by first | omega | decide)) (by rw [hS.nxb]; exact Nat.le_refl _) (by have hz := congrArg Bool.toNat hL; simp only [Bool.toNat_false] at hz; omega) hS.hs ?_
   ·obtain ⟨hf, hc⟩ := hc
    refine opwp_call (f := 71) (fi := []) (ca := []) (l := [.ptr 0 3 0 0, .d (iD ((2 ^ w : Nat) : Int))]) rfl rfl hf ?_ rfl hc
    show [] ++ [lk s.env 6, lk s.env 8] ++ [] = _
    rw [show lk s.env 6 = _ from y1, show lk s.env 8 = _ from y3]; rfl
   ·intro Y st2 nx2 hbb hY
    refine ⟨Y, Z, Q, nx2, st2, (lk_cons_ne _ _ (by decide)).trans hS.k0, (lk_cons_ne _ _ (by decide)).trans hS.k1, (lk_cons_ne _ _ (by decide)).trans hS.k4, get_cons_same _ _ _, fun _ => (get_cons_ne _ _ (by decide)).trans (hS.c0 n12), fun h => absurd (show L 12 = true from h) (no _ n12), rfl, ?_, fun _ => hY, fun q => hS.bZ q, fun q => hS.bQ q, fun h => absurd (show L 11 = true from h) (no _ n11), fun h => absurd (show L 12 = true from h) (no _ n12), fun j hj hl => ?_⟩
    ·show nx2 ≤ nx + (true).toNat + (L 8).toNat + (L 10).toNat
     have : (L 4).toNat = 0 := by rw [hL]; rfl
     simp only [Bool.toNat_true]
     omega
    ·by_cases e : j = 4
     ·subst e; exact lk_cons_same _ _ _
     ·simp only [if_neg e] at hl
      refine (lk_cons_ne _ _ (by omega)).trans ((hS.v j hj hl).trans ?_)
      have n11' : j ≠ 11 := fun q => no _ n11 (q ▸ hl)
      match j, e, n11', hj with
      | 0, _, _, _ => rfl
      | 1, _, _, _ => rfl
      | 2, _, _, _ => rfl
      | 3, _, _, _ => rfl
      | 5, _, _, _ => rfl
      | 6, _, _, _ => rfl
      | 7, _, _, _ => rfl
      | 8, _, _, _ => rfl
      | 9, _, _, _ => rfl
      | 10, _, _, _ => rfl
      | 11, _, n11', _ => exact absurd rfl n11'
      | j + 12, _, _, hj => exact absurd hj (by omega)
  ·exact opwp_pure (fun c h => by cases h) (pure_move rfl hS.k0) rfl ⟨X, Z, Q, nx', st', sm_put hS (a := 5) (by decide) (by decide) (by decide) (by decide) (fun h => absurd h (by decide)) rfl⟩
  ·exact opwp_pure (fun c h => by cases h) (pure_move rfl hS.k1) rfl ⟨X, Z, Q, nx', st', sm_put hS (a := 6) (by decide) (by decide) (by decide) (by decide) (fun h => absurd h (by decide)) rfl⟩
  ·have q := (v 6 (by decide) (hall ⟨6, .data⟩ (Array.mem_of_getElem? (i := 0) rfl) rfl))
   have hsh : ishl .i64 1 (w : Int) = ((2 ^ w : Nat) : Int) := pow_nat (by omega)
   refine opwp_pure (fun c h => by cases h) (pure_shl rfl rfl q (Int.natCast_nonneg _)) rfl ?_
   rw [hsh]
   exact ⟨X, Z, Q, nx', st', sm_put hS (a := 7) (by decide) (by decide) (by decide) (by decide) (fun h => absurd h (by decide)) rfl⟩
  ·have y5 := (v 5 (by decide) (hall ⟨5, .data⟩ (Array.mem_of_getElem? (i := 0) rfl) rfl))
   have y7 := (v 7 (by decide) (hall ⟨7, .data⟩ (Array.mem_of_getElem? (i := 1) rfl) rfl))
   have n11 : L 11 = false := by
    cases h : L 11 with
    | false => rfl
    | true => exact absurd (hS.o11 h).2.1 (no _ hL)
   have n12 : L 12 = false := by
    cases h : L 12 with
    | false => rfl
    | true => exact absurd (hS.o12 h) (no _ n11)
   have hc := sc_use (nx0 := s.nx) (nx := nx') (st := st') (H := s.heap) (k := fun v H' n' => ∃ X Z Q nx' st', SM bs u w nx X Z Q nx' st' (fun j => if j = 8 then true else L j) (({ env := s.env, heap := H', nx := n' } : St).put (some 13) v)) (sc71 bs u 81 (2 ^ w) (by decide) hbs (by first | omega | decide)) (by rw [hS.nxb]; exact Nat.le_refl _) (by have hz := congrArg Bool.toNat hL; simp only [Bool.toNat_false] at hz; omega) hS.hs ?_
   ·obtain ⟨hf, hc⟩ := hc
    refine opwp_call (f := 71) (fi := []) (ca := []) (l := [.ptr 0 3 0 0, .d (iD ((2 ^ w : Nat) : Int))]) rfl rfl hf ?_ rfl hc
    show [] ++ [lk s.env 10, lk s.env 12] ++ [] = _
    rw [show lk s.env 10 = _ from y5, show lk s.env 12 = _ from y7]; rfl
   ·intro Y st2 nx2 hbb hY
    refine ⟨X, Y, Q, nx2, st2, (lk_cons_ne _ _ (by decide)).trans hS.k0, (lk_cons_ne _ _ (by decide)).trans hS.k1, (lk_cons_ne _ _ (by decide)).trans hS.k4, get_cons_same _ _ _, fun _ => (get_cons_ne _ _ (by decide)).trans (hS.c0 n12), fun h => absurd (show L 12 = true from h) (no _ n12), rfl, ?_, fun q => hS.bX q, fun _ => hY, fun q => hS.bQ q, fun h => absurd (show L 11 = true from h) (no _ n11), fun h => absurd (show L 12 = true from h) (no _ n12), fun j hj hl => ?_⟩
    ·show nx2 ≤ nx + (L 4).toNat + (true).toNat + (L 10).toNat
     have : (L 8).toNat = 0 := by rw [hL]; rfl
     simp only [Bool.toNat_true]
     omega
    ·by_cases e : j = 8
     ·subst e; exact lk_cons_same _ _ _
     ·simp only [if_neg e] at hl
      refine (lk_cons_ne _ _ (by omega)).trans ((hS.v j hj hl).trans ?_)
      have n11' : j ≠ 11 := fun q => no _ n11 (q ▸ hl)
      match j, e, n11', hj with
      | 0, _, _, _ => rfl
      | 1, _, _, _ => rfl
      | 2, _, _, _ => rfl
      | 3, _, _, _ => rfl
      | 4, _, _, _ => rfl
      | 5, _, _, _ => rfl
      | 6, _, _, _ => rfl
      | 7, _, _, _ => rfl
      | 9, _, _, _ => rfl
      | 10, _, _, _ => rfl
      | 11, _, n11', _ => exact absurd rfl n11'
      | j + 12, _, _, hj => exact absurd hj (by omega)
  ·exact opwp_pure (fun c h => by cases h) (pure_move rfl hS.k0) rfl ⟨X, Z, Q, nx', st', sm_put hS (a := 9) (by decide) (by decide) (by decide) (by decide) (fun h => absurd h (by decide)) rfl⟩
  ·have y9 := (v 9 (by decide) (hall ⟨9, .data⟩ (Array.mem_of_getElem? (i := 0) rfl) rfl))
   have n11 : L 11 = false := by
    cases h : L 11 with
    | false => rfl
    | true => exact absurd (hS.o11 h).2.2 (no _ hL)
   have n12 : L 12 = false := by
    cases h : L 12 with
    | false => rfl
    | true => exact absurd (hS.o12 h) (no _ n11)
   have hc := sc_use (nx0 := s.nx) (nx := nx') (st := st') (H := s.heap) (k := fun v H' n' => ∃ X Z Q nx' st', SM bs u w nx X Z Q nx' st' (fun j => if j = 10 then true else L j) (({ env := s.env, heap := H', nx := n' } : St).put (some 15) v)) (sc71 bs u 81 (4) (by decide) hbs (by first | omega | decide)) (by rw [hS.nxb]; exact Nat.le_refl _) (by have hz := congrArg Bool.toNat hL; simp only [Bool.toNat_false] at hz; omega) hS.hs ?_
   ·obtain ⟨hf, hc⟩ := hc
    refine opwp_call (f := 71) (fi := []) (ca := []) (l := [.ptr 0 3 0 0, .d (iD ((4 : Nat) : Int))]) rfl rfl hf ?_ rfl hc
    show [] ++ [lk s.env 14, .d (iD 4)] ++ [] = _
    rw [show lk s.env 14 = _ from y9]; rfl
   ·intro Y st2 nx2 hbb hY
    refine ⟨X, Z, Y, nx2, st2, (lk_cons_ne _ _ (by decide)).trans hS.k0, (lk_cons_ne _ _ (by decide)).trans hS.k1, (lk_cons_ne _ _ (by decide)).trans hS.k4, get_cons_same _ _ _, fun _ => (get_cons_ne _ _ (by decide)).trans (hS.c0 n12), fun h => absurd (show L 12 = true from h) (no _ n12), rfl, ?_, fun q => hS.bX q, fun q => hS.bZ q, fun _ => hY, fun h => absurd (show L 11 = true from h) (no _ n11), fun h => absurd (show L 12 = true from h) (no _ n12), fun j hj hl => ?_⟩
    ·show nx2 ≤ nx + (L 4).toNat + (L 8).toNat + (true).toNat
     have : (L 10).toNat = 0 := by rw [hL]; rfl
     simp only [Bool.toNat_true]
     omega
    ·by_cases e : j = 10
     ·subst e; exact lk_cons_same _ _ _
     ·simp only [if_neg e] at hl
      refine (lk_cons_ne _ _ (by omega)).trans ((hS.v j hj hl).trans ?_)
      have n11' : j ≠ 11 := fun q => no _ n11 (q ▸ hl)
      match j, e, n11', hj with
      | 0, _, _, _ => rfl
      | 1, _, _, _ => rfl
      | 2, _, _, _ => rfl
      | 3, _, _, _ => rfl
      | 4, _, _, _ => rfl
      | 5, _, _, _ => rfl
      | 6, _, _, _ => rfl
      | 7, _, _, _ => rfl
      | 8, _, _, _ => rfl
      | 9, _, _, _ => rfl
      | 11, _, n11', _ => exact absurd rfl n11'
      | j + 12, _, _, hj => exact absurd hj (by omega)
  ·have y0 := (v 0 (by decide) (hall ⟨0, .data⟩ (Array.mem_of_getElem? (i := 0) rfl) rfl))
   have y4 := (v 4 (by decide) (hall ⟨4, .data⟩ (Array.mem_of_getElem? (i := 1) rfl) rfl))
   have y8 := (v 8 (by decide) (hall ⟨8, .data⟩ (Array.mem_of_getElem? (i := 2) rfl) rfl))
   have y10 := (v 10 (by decide) (hall ⟨10, .data⟩ (Array.mem_of_getElem? (i := 3) rfl) rfl))
   have l4 : L 4 = true := hall ⟨4, .data⟩ (Array.mem_of_getElem? (i := 1) rfl) rfl
   have l8 : L 8 = true := hall ⟨8, .data⟩ (Array.mem_of_getElem? (i := 2) rfl) rfl
   have l10 : L 10 = true := hall ⟨10, .data⟩ (Array.mem_of_getElem? (i := 3) rfl) rfl
   refine opwp_pure (fun c h => by cases h) (pure_build (ps := #[(0, .tmp 5), (1, .tmp 9), (2, .tmp 13), (3, .tmp 15)]) (l := [.d (iD w), .d (iD X), .d (iD Z), .d (iD Q)]) rfl (tbuild_of pok.tab (t := 69) rfl rfl rfl) (by show fillA _ _ [(0, lk s.env 5), (1, lk s.env 9), (2, lk s.env 13), (3, lk s.env 15)] = _; rw [show lk s.env 5 = _ from y0, show lk s.env 9 = _ from y4, show lk s.env 13 = _ from y8, show lk s.env 15 = _ from y10]; rfl)) rfl ?_
   exact ⟨X, Z, Q, nx', st', sm_put hS (a := 11) (by decide) (by decide) (by decide) (by decide) (fun _ => ⟨l4, l8, l10⟩) rfl⟩
  ·have y := (v 11 (by decide) (hall ⟨11, .data⟩ (Array.mem_of_getElem? (i := 0) rfl) rfl))
   have l11 : L 11 = true := hall ⟨11, .data⟩ (Array.mem_of_getElem? (i := 0) rfl) rfl
   refine opwp_step (k := 0) (fun c hc => by cases hc) ((step_store (x := .tmp 4) (y := .tmp 16) (nm := 80) (sz := 4) (idx := 0) (off := 0) (v := .d (.agg [iD w, iD X, iD Z, iD Q])) rfl T69.1 hS.k4 y (hS.c0 hL) rfl rfl rfl rfl (Nat.le_of_ble_eq_true rfl)).names fun _ h => h.elim) rfl ?_
   refine ⟨X, Z, Q, nx', st', hS.k0, hS.k1, hS.k4, (get_cons_ne _ _ (by decide)).trans hS.hs, fun h => (nomatch h), fun _ => get_cons_same _ _ _, hS.nxb, hS.cnt, hS.bX, hS.bZ, hS.bQ, hS.o11, fun _ => l11, fun j hj hl => hS.v j hj ?_⟩
   simpa [show j ≠ 12 by omega] using hl
 ·rintro L s ⟨X, Z, Q, nx', st', hS⟩ hall
  exact ⟨rfl, hk L s X Z Q nx' st' hS fun a ha => hall a ha⟩
theorem regMc {ops : Array Oper} (hops : ops = opsM) (hw : 1 ≤ w ∧ w ≤ 12) (hbs : bs.length ≤ 1000) (hnx : nx + 3 ≤ 4611686018427387904) {st : Int} {e : List (Nat × AV)} {H : AHeap} {n : Nat}
  (k0 : lk e 0 = .ptr 0 3 0 0) (k1 : lk e 1 = .d (iD w)) (k4 : lk e 4 = .ptr 80 4 0 0) (h0 : H.get 0 = some (storeB bs u nx st)) (h80 : H.get 80 = some z4) (hn : n = 81) {k : Exit → St → Prop}
  (hk : ∀ (X Z Q nx' : Nat) (st' : Int), X < 2 ^ w → Z < 2 ^ w → Q < 4 → nx' ≤ nx + 3 → k .normal ⟨[(4, .ptr 80 4 0 0)], [(0, some (storeB bs u nx' st')), (80, some (q4 w X Z Q))], 81⟩) : RegVC Pr GG Tryz.f67.ntmps 80 [] 1 ops ⟨e, H, n⟩ k := by
 subst hops
 refine regM (X := 0) (Z := 0) (Q := 0) hw hbs hnx ⟨k0, k1, k4, h0, fun _ => h80, fun h => (nomatch h), hn, Nat.le_refl _, fun h => (nomatch h), fun h => (nomatch h), fun h => (nomatch h), fun h => (nomatch h), fun h => (nomatch h), fun j _ h => (nomatch h)⟩ ?_
 intro L s' X Z Q nx' st' hS hL
 have hb : ∀ b : Bool, b.toNat ≤ 1 := fun b => by cases b <;> decide
 have hb4 := hb (L 4)
 have hb8 := hb (L 8)
 have hb10 := hb (L 10)
 have hcnt := hS.cnt
 refine ⟨_, keep_env (Nat.le_of_ble_eq_true rfl) ?_ ?_ trivial, hk X Z Q nx' st' (hS.bX (hL 4 (by decide))) (hS.bZ (hL 8 (by decide))) (hS.bQ (hL 10 (by decide))) (by omega)⟩
 ·exact ⟨⟨hS.k4, rfl⟩, trivial⟩
 ·exact ⟨⟨ltB rfl, _, rfl, hS.hs, below_arr rfl⟩, ⟨ltB rfl, _, rfl, hS.c1 (hL 12 (by decide)), below_arr rfl⟩, trivial⟩
theorem chk67 : chkFn Tryz.f67 = true := by kernel_rfl
theorem sc67 (bs : List Int) (u : Bool) (w : Nat) (hw : 1 ≤ w ∧ w ≤ 12) (hbs : bs.length ≤ 1000) : SC 67 [iD w] bs u 3 80 (fun q : Ps => q.d) fun q => Vl w q := by
 refine sc_mk (isFn_of Tryz.func67 chk67) (by decide) fun nx st hb => ?_
 refine fn_walkR pok 1 Tryz.func67 chk67 ?_
 conv => whnf
 repeat' first | ((first | refine LookP.mk _ rfl ?_ | refine ShlP.mk _ (by first | (simp only [List.set, over, List.take, List.drop, List.append_eq, List.nil_append, List.cons_append, List.length]; rfl) | rfl) ?_ | refine And.intro (by first | assumption | exact ⟨by kernel_rfl, rfl⟩ | decide | omega | exact ⟨rfl, by decide, by simp only [List.length_map, Nat.zero_add]; omega⟩) ?_ | refine HpP.force ?_); conv => whnf) | (intro t ht; cases t <;> conv => whnf)
 refine regMc (nx := nx) (st := st) rfl hw hbs hb rfl rfl rfl rfl rfl rfl ?_
 intro X Z Q nx' st' hX hZ hQ hb'
 conv => whnf
 repeat' first | ((first | refine LookP.mk _ rfl ?_ | refine ShlP.mk _ (by first | (simp only [List.set, over, List.take, List.drop, List.append_eq, List.nil_append, List.cons_append, List.length]; rfl) | rfl) ?_ | refine And.intro (by first | assumption | exact ⟨by kernel_rfl, rfl⟩ | decide | omega | exact ⟨rfl, by decide, by simp only [List.length_map, Nat.zero_add]; omega⟩) ?_ | refine HpP.force ?_); conv => whnf) | (intro t ht; cases t <;> conv => whnf)
 exact fin ⟨mk w X Z Q, st', nx', hb', ⟨X, Z, Q, rfl, hX, hZ, hQ⟩, rfl, rfl⟩
end Go.Tz
namespace Go.Ma
open Classical
theorem gen_gE {k a b : Nat} (h : gOk k a b) {L : List E} (hL : Good L) {g : E} (hg : Gen L g) : Gen (L.map (gE k a b)) (gE k a b g) := by
 induction hg with
 | one =>
  rw [gE_one h]; exact .one
 | mul x f hx _ ih =>
  rw [gE_mul h]
  exact .mul _ _ (List.mem_map.2 ⟨x, hx, rfl⟩) ih
end Go.Ma
namespace Go.Tz
open Go Go.AL Go.Proofs Go.Ma
variable {w n o : Nat} {l : List Ps}
end Go.Tz
namespace Go.Tz
open Go Go.AL Go.Proofs Go.Ma
theorem of_use {bs : List Int} {t : Bool} {k : AV → AHeap → Nat → Prop} (hk : ∀ (bs' : List Int) (u : Bool), bs'.length ≤ 300 → k (.ptr 0 3 0 0) [(0, some (storeB bs' u ((0 : Nat) : Int) 2463534242))] 1) : CallVC Pr GK 62 [.d (bytesD bs t)] [] 0 k :=
 ⟨isFn_of Tryz.func62 chk62, acall_mono (of62 bs t) fun v H n ⟨bs', u, h1, h2, h3, h4⟩ => by subst h2 h3 h4; exact hk bs' u h1⟩
theorem q0 : isub IntKind.i64 (imul IntKind.i64 2 0) 1 = -1 := by kernel_rfl
theorem q1 : isub IntKind.i64 (imul IntKind.i64 2 1) 1 = 1 := by kernel_rfl
end Go.Tz
namespace Go.Tz
open Go Go.AL Go.Proofs Go.Ma
variable {w : Nat} {l : List Ps} {p q m : Ps}
theorem mul66v (hw : 1 ≤ w ∧ w ≤ 12) (hq : Vl w p) (hr : Vl w q) : PC Pr GK 66 [p.d, q.d] (.tup [(timS p q).d, iD 0]) := by
 have h := up (mul66_c p q)
 unfold mul66 at h
 rw [both_vl hw hq hr, if_pos rfl] at h
 exact h
def InG (w : Nat) (l : List Ps) (p : Ps) : Prop := Vl w p ∧ Gen (l.map nf) (nf p)
theorem ing_one (w : Nat) (l : List Ps) : InG w l (mk w 0 0 0) := by
 refine ⟨⟨0, 0, 0, rfl, Nat.two_pow_pos w, Nat.two_pow_pos w, by decide⟩, ?_⟩
 rw [nf_mk, Nat.zero_and, pop_zero]
 exact .one
theorem ing_mul (hs : SOk w l) (h : InG w l p) (hq : q ∈ l) : InG w l (timS p q) := by
 obtain ⟨h1, h2⟩ := tim_nf hs.hi h.1 (hs.vl q hq)
 refine ⟨h2, ?_⟩
 rw [h1]
 exact gen_mul' (sok_sta hs).good h.2 (gen_mem' (sok_sta hs).good (List.mem_map.2 ⟨q, hq, rfl⟩))
theorem exS_vl (hs : SOk w l) (hp : Vl w p) (he : p.p.tmod 2 = 0) : exS w l p = 0 := by
 unfold exS
 rw [if_neg (fun q => q (ok_chk hs)), if_neg (fun q => q (pck_vl ⟨hs.lo, hs.hi⟩ hp)), if_neg]
 rw [vl_w hp, he]
 simp
theorem ex_data (hs : SOk w l) (hp : Vl w p) (he : p.p.tmod 2 = 0) (t : Bool) {x : Int} (hx : expP l p = x) : PC Pr GK 48 [stD w l t, p.d] (.tup [iD x, iD 0]) := by
 have := up (expect48 (exS_vl hs hp he) t)
 rwa [hx] at this
theorem ing_exp (hs : SOk w l) (h : InG w l p) : p.p.tmod 2 = 0 ∧ expP l p = 1 := by
 have hok := gen_ok (sok_sta hs).good h.2
 exact ⟨(eok_nf hs.hi h.1).1 hok, (expP_ok hs h.1 hok).pos h.2⟩
theorem turn_ok (hw : w ≤ 12) (hp : Vl w p) : ∃ r : Ps, Vl w r ∧ nf r = eneg (nf p) ∧ r.l = [iD p.w, iD p.x, iD p.z, iD ((iadd .i64 p.p 2).tmod 4)] := by
 obtain ⟨X, Z, P, rfl, h1, h2, h3⟩ := hp
 refine ⟨mk w X Z ((P + 2) % 4), ⟨X, Z, _, rfl, h1, h2, Nat.mod_lt _ (by decide)⟩, ?_, ?_⟩
 ·rw [nf_mk, nf_mk]
  refine e_ext ?_ rfl
  show ((P + 2) % 4 + pop 12 (X &&& Z)) % 4 = ((P + pop 12 (X &&& Z)) % 4 + 2) % 4
  omega
 ·show [iD w, iD X, iD Z, iD (((P + 2) % 4 : Nat) : Int)] = [iD w, iD X, iD Z, iD ((iadd .i64 (P : Int) 2).tmod 4)]
  have e : (iadd .i64 (P : Int) 2).tmod 4 = (((P + 2) % 4 : Nat) : Int) := by
   rw [show iadd .i64 (P : Int) 2 = ((P + 2 : Nat) : Int) from iadd_nat (b := 2) (by omega), Int.tmod_eq_emod_of_nonneg (by omega)]
   rfl
  rw [e]
theorem turn_exp (hs : SOk w l) (h : InG w l p) {r : Ps} (hr : Vl w r) (e : nf r = eneg (nf p)) : r.p.tmod 2 = 0 ∧ expP l r = -1 := by
 have hok := eneg_ok (gen_ok (sok_sta hs).good h.2)
 rw [← e] at hok
 refine ⟨(eok_nf hs.hi hr).1 hok, (expP_ok hs hr hok).neg ?_⟩
 rw [e, eneg_neg (gen_ok (sok_sta hs).good h.2).1]
 exact h.2
theorem even_ok (hp : Vl w p) : ∃ r : Ps, Vl w r ∧ r.p.tmod 2 = 0 ∧ r.l = [iD p.w, iD p.x, iD p.z, iD (imul .i64 (iquo .i64 p.p 2) 2)] := by
 obtain ⟨X, Z, P, rfl, h1, h2, h3⟩ := hp
 have hP : P = 0 ∨ P = 1 ∨ P = 2 ∨ P = 3 := by omega
 rcases hP with rfl | rfl | rfl | rfl
 ·exact ⟨mk w X Z 0, ⟨X, Z, 0, rfl, h1, h2, by decide⟩, rfl, rfl⟩
 ·exact ⟨mk w X Z 0, ⟨X, Z, 0, rfl, h1, h2, by decide⟩, rfl, rfl⟩
 ·exact ⟨mk w X Z 2, ⟨X, Z, 2, rfl, h1, h2, by decide⟩, rfl, rfl⟩
 ·exact ⟨mk w X Z 2, ⟨X, Z, 2, rfl, h1, h2, by decide⟩, rfl, rfl⟩
theorem exp_all (hs : SOk w l) (hm : Vl w m) (he : m.p.tmod 2 = 0) : (expP l m != 0) = l.all fun q => comV q m := by
 have hok := (eok_nf hs.hi hm).2 he
 have hst := sok_sta hs
 have hE := expP_ok hs hm hok
 cases ha : l.all fun q => comV q m with
 | true =>
  have hc : ∀ g, g ∈ l.map nf → ecom g (nf m) := fun g hg => by
   obtain ⟨q, hq, rfl⟩ := List.mem_map.1 hg
   exact comV_ecom.1 (List.all_eq_true.1 ha q hq)
  obtain ⟨g, hg, e⟩ := span_gen _ _ (sta_max hs.hi hst (vec_in hs.hi hm) hc)
  rcases e_or_neg (gen_ok hst.good hg) hok e with x | x
  ·subst x; rw [hE.pos hg]; rfl
  ·subst x; rw [hE.neg hg]; rfl
 | false =>
  obtain ⟨q, hq, hn⟩ := List.all_eq_false.1 ha
  have hn : ¬ ecom (nf q) (nf m) := comV_false.1 (by simpa using hn)
  have hqg := gen_mem' hst.good (List.mem_map.2 ⟨q, hq, rfl⟩ : nf q ∈ l.map nf)
  have h1 : ¬ Gen (l.map nf) (nf m) := fun x => hn (gen_gcom hst.good hqg x)
  have h2 : ¬ Gen (l.map nf) (eneg (nf m)) := fun x => by
   have y : ecom (nf q) (eneg (nf m)) := gen_gcom hst.good hqg x
   exact hn y
  rw [hE.zero h1 h2]; rfl
theorem thr_even {g : Gt} (hs : SOk w l) (hg : GtOk w g) (hm : Vl w m) (he : m.p.tmod 2 = 0) : (thrG w g m).p.tmod 2 = 0 := by
 have hR := (gR_of hg.chk hg.kind).1
 refine (eok_nf hs.hi (thrG_vl hs.hi hg.chk hg.kind hm)).1 ?_
 show eok (nf (thrS w _ _ _ m))
 rw [nf_thr]
 exact gE_ok (gR_ok hs.hi hR) ((eok_nf hs.hi hm).2 he)
theorem exp_thr {g : Gt} (hs : SOk w l) (hg : GtOk w g) (hm : Vl w m) (he : m.p.tmod 2 = 0) : expP (appG w g l) (thrG w g m) = expP l m := by
 have hR := (gR_of hg.chk hg.kind).1
 have hO := gR_ok hs.hi hR
 have hok := (eok_nf hs.hi hm).2 he
 have hst := sok_sta hs
 have hS := appG_sok hg.chk hg.kind hs
 have hv := thrG_vl hs.hi hg.chk hg.kind hm
 have hok' : eok (nf (thrG w g m)) := (eok_nf hs.hi hv).2 (thr_even hs hg hm he)
 have hE := expP_ok hS hv hok'
 have hnf : nf (thrG w g m) = gE (gK g) (gA g) (gB g) (nf m) := nf_thr ..
 have hsame : ∀ e, Gen ((l.map nf).map (gE (gK g) (gA g) (gB g))) e ↔ Gen ((appG w g l).map nf) e := fun e => by
  have := (redRows_ok (map_thr_sok hR hs)).2 e
  rwa [map_thr_nf] at this
 rcases expOk_cases (expP_ok hs hm hok) with ⟨a, b⟩ | ⟨a, b⟩ | ⟨a, b, c⟩
 ·rw [a]
  refine hE.pos ((hsame _).1 ?_)
  rw [hnf]; exact gen_gE hO hst.good b
 ·rw [a]
  refine hE.neg ((hsame _).1 ?_)
  rw [hnf, ← gE_neg]; exact gen_gE hO hst.good b
 ·rw [a]
  obtain ⟨x, x1, x2⟩ := sta_anti hs.hi hst (vec_in hs.hi hm) hok b c
  have hx : Gen ((appG w g l).map nf) (gE (gK g) (gA g) (gB g) x) := (hsame _).1 (gen_gE hO hst.good (gen_mem' hst.good x1))
  have hn : ¬ ecom (gE (gK g) (gA g) (gB g) x) (nf (thrG w g m)) := by
   rw [hnf]; exact fun y => x2 ((gE_com hO _ _).1 y)
  exact hE.zero (fun y => hn (gen_gcom (sok_sta hS).good hx y)) (fun y => by
   have z : ecom _ (eneg (nf (thrG w g m))) := gen_gcom (sok_sta hS).good hx y
   exact hn z)
theorem through69d {g : Gt} (hw : 1 ≤ w ∧ w ≤ 12) (hg : GtOk w g) (hm : Vl w m) : PC Pr GK 69 [m.d, g.d] (.tup [(thrG w g m).d, iD 0]) := by
 have h := up (through69 hw g (by have := hg.len; omega) hm)
 unfold thrD at h
 rw [if_neg (fun q => q hg.chk), if_pos hg.kind] at h
 exact h
theorem apply47d {g : Gt} (hs : SOk w l) (hg : GtOk w g) (t : Bool) : PC Pr GK 47 [stD w l t, g.d] (.tup [stD w (appG w g l) true, iD 0]) := by
 have h0 : apE w l g = 0 := by
  unfold apE
  rw [if_neg (fun q => q (ok_chk hs)), if_neg (fun q => q hg.chk), if_pos hg.kind]
 have hc := apply47 h0 t (by have := hg.len; omega)
 have hR := (appG_sok hg.chk hg.kind hs).len
 rw [hs.len] at hc
 refine up (pc_freeze hc.fn (acall_mono hc.call ?_))
 rintro v H _ ⟨rfl, rfl, _⟩
 refine asD_tup2 (asD_agg2 (.d _) ?_) (.d _)
 have := asD_pre (H := [(0, some (dblk 4 ((appG w g l).map Ps.l)))]) (nm := 0) (sz := 4) (l := (appG w g l).map Ps.l) (len := w) (room := w) (t := true) rfl (by rw [List.length_map, hR]; exact Nat.le_refl _)
 rwa [List.take_of_length_le (by rw [List.length_map, hR]; exact Nat.le_refl _), decide_eq_true rfl, Bool.and_true] at this
end Go.Tz
